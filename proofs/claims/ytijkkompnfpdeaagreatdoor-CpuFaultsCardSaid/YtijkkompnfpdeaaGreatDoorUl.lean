/- Cores: the rules by Op; what any instruction does: walked. -/
import Derived.Test.YtijkkompnfpdeaaGreatDoorUg
import Derived.Test.YtijkkompnfpdeaaGreatDoorUh
import Derived.Test.YtijkkompnfpdeaaGreatDoorUi
import Derived.Test.YtijkkompnfpdeaaGreatDoorUj
import Derived.Test.YtijkkompnfpdeaaGreatDoorUk
import Derived.Laws.EntriesVeiled
import Derived.RangeFuncRecord
set_option linter.unusedVariables false
set_option linter.unusedSimpArgs false
namespace Go.Proofs.YtijkkompnfpdeaaGreatDoor
open Go.RowKit Go.Joins Go.Shelf
attribute [local go_sem] Oper.semAt_some

/-- By the Op: the closure, and what it holds. -/
def rF : Nat → FuncId
  | 0 => 79
  | 1 => 80
  | 2 => 81
  | 11 => 82
  | 12 => 88
  | 13 => 85
  | 14 => 91
  | 15 | 16 | 17 | 18 => 97
  | 19 => 93
  | 20 => 94
  | _ => 95
def rC (ab : Nat) : Nat → Array Value
  | 11 | 12 | 13 | 14 => #[.pointer (some ⟨ab, 0, none⟩)]
  | _ => #[]
def rV (ab o : Nat) : Value := .agg #[.func (.func (rF o)) #[] (rC ab o)]
def rlist (ab j k : Nat) : List (Nat × Value) := [0, 1, 2, 11, 13, 12, 14, 19, 20].map (fun o => (o, rV ab o)) ++ (List.range j).map (fun i => (3 + i, rV ab (3 + i))) ++ (List.range k).map (fun i => (15 + i, rV ab (15 + i)))
theorem rlist_get (ab : Nat) {o : Nat} (h : o ≤ 20) : tget o (rlist ab 8 4) = some (rV ab o) := by
  have : o = 0 ∨ o = 1 ∨ o = 2 ∨ o = 3 ∨ o = 4 ∨ o = 5 ∨ o = 6 ∨ o = 7 ∨ o = 8 ∨ o = 9 ∨ o = 10 ∨ o = 11 ∨ o = 12 ∨ o = 13 ∨ o = 14 ∨ o = 15 ∨ o = 16 ∨ o = 17 ∨ o = 18 ∨ o = 19 ∨ o = 20 := by omega
  rcases this with rfl | rfl | rfl | rfl | rfl | rfl | rfl | rfl | rfl | rfl | rfl | rfl | rfl | rfl | rfl | rfl | rfl | rfl | rfl | rfl | rfl <;> rfl
theorem rlist_no3 (ab j : Nat) (h : j < 8) : tget (3 + j) (rlist ab j 0) = none := by
  have : j = 0 ∨ j = 1 ∨ j = 2 ∨ j = 3 ∨ j = 4 ∨ j = 5 ∨ j = 6 ∨ j = 7 := by omega
  rcases this with rfl | rfl | rfl | rfl | rfl | rfl | rfl | rfl <;> rfl
theorem rlist_no15 (ab j : Nat) (h : j < 4) : tget (15 + j) (rlist ab 8 j) = none := by
  have : j = 0 ∨ j = 1 ∨ j = 2 ∨ j = 3 := by omega
  rcases this with rfl | rfl | rfl | rfl <;> rfl
theorem rlist_up3 (ab j : Nat) : rlist ab j 0 ++ [(3 + j, rV ab (3 + j))] = rlist ab (j + 1) 0 := by simp [rlist, List.range_succ]
theorem rlist_up15 (ab j : Nat) : rlist ab 8 j ++ [(15 + j, rV ab (15 + j))] = rlist ab 8 (j + 1) := by simp [rlist, List.range_succ]
theorem rV_add (ab j : Nat) (h : j < 8) : rV ab (3 + j) = .agg #[fn_ 95] := by
  have : j = 0 ∨ j = 1 ∨ j = 2 ∨ j = 3 ∨ j = 4 ∨ j = 5 ∨ j = 6 ∨ j = 7 := by omega
  rcases this with rfl | rfl | rfl | rfl | rfl | rfl | rfl | rfl <;> rfl
theorem rV_cmp (ab j : Nat) (h : j < 4) : rV ab (15 + j) = .agg #[fn_ 97] := by
  have : j = 0 ∨ j = 1 ∨ j = 2 ∨ j = 3 := by omega
  rcases this with rfl | rfl | rfl | rfl <;> rfl
theorem und_rules : Tryz.prog.underlying 86 = some (.map 24 85) := by kernel_rfl
set_option maxHeartbeats 8000000 in
set_option maxRecDepth 20000 in
theorem rules_c {w0 w : World} {r : List Thing} (H : Hp w0 w r) :
    Calls Tryz.prog 35 #[] w fun e w' => e = .returned (.map (some (w.heap.size + 1))) ∧ Hp w0 w' (Tab (w.heap.size + 1) (rlist w.heap.size 8 4) :: AB w.heap.size :: r) := by
  have hmm := @run_makeMap Tryz.prog
  have hmf : ∀ (fn : Fn) (first cap : Array Value) (w : World), (Instr.makeFunc fn first cap).run Tryz.prog w = .ok (.func fn first cap) w := fun _ _ _ _ => rfl
  have HA : Hp w0 _ (AB w.heap.size :: r) := blk_new H (.cells #[fn_ 78] 104)
  have G0 : Hp w0 _ (Tab (w.heap.size + 1) [] :: AB w.heap.size :: r) := blk_new_at HA (.map #[] 0) (w.heap.size + 1) (by simp)
  obtain ⟨w1, hr1, G1⟩ := tab_put und_rules und_op G0 (.int .u8 0) 0 rfl (rV w.heap.size 0) rfl
  obtain ⟨w2, hr2, G2⟩ := tab_put und_rules und_op G1 (.int .u8 1) 1 rfl (rV w.heap.size 1) rfl
  obtain ⟨w3, hr3, G3⟩ := tab_put und_rules und_op G2 (.int .u8 2) 2 rfl (rV w.heap.size 2) rfl
  obtain ⟨w4, hr4, G4⟩ := tab_put und_rules und_op G3 (.int .u8 11) 11 rfl (rV w.heap.size 11) rfl
  obtain ⟨w5, hr5, G5⟩ := tab_put und_rules und_op G4 (.int .u8 13) 13 rfl (rV w.heap.size 13) rfl
  obtain ⟨w6, hr6, G6⟩ := tab_put und_rules und_op G5 (.int .u8 12) 12 rfl (rV w.heap.size 12) rfl
  obtain ⟨w7, hr7, G7⟩ := tab_put und_rules und_op G6 (.int .u8 14) 14 rfl (rV w.heap.size 14) rfl
  obtain ⟨w8, hr8, G8⟩ := tab_put und_rules und_op G7 (.int .u8 19) 19 rfl (rV w.heap.size 19) rfl
  obtain ⟨w9, hr9, G9⟩ := tab_put und_rules und_op G8 (.int .u8 20) 20 rfl (rV w.heap.size 20) rfl
  have HG : Hid (Hp w0 w9 (Tab (w.heap.size + 1) (rlist w.heap.size 0 0) :: AB w.heap.size :: r)) := Lib.hid G9
  simp only [rV, rF, rC] at hr1 hr2 hr3 hr4 hr5 hr6 hr7 hr8 hr9
  clear G0 G1 G2 G3 G4 G5 G6 G7 G8 G9 H HA
  go_enter Tryz.func35, Tryz.ntmps35
  go_wp2
  clear hr1 hr2 hr3 hr4 hr5 hr6 hr7 hr8 hr9 hmm hmf
  go_loopw [3] (fun s3 wr => ∃ j : Nat, j ≤ 8 ∧ s3 = .int .u8 ((3 + j : Nat) : Int) ∧ Hid (Hp w0 wr (Tab (w.heap.size + 1) (rlist w.heap.size j 0) :: AB w.heap.size :: r))) (fun s3 _ => 11 - (intOf s3).toNat)
  case atStart => exact ⟨0, by omega, rfl, HG⟩
  case round =>
    obtain ⟨j, hj, rfl, hH⟩ := hrel
    clear HG
    by_cases hlt : j < 8
    · obtain ⟨wx, hrx, GX⟩ := tab_put und_rules und_op hH.out (.int .u8 ((3 + j : Nat) : Int)) (3 + j) rfl (rV w.heap.size (3 + j)) (rlist_no3 w.heap.size j hlt)
      rw [rV_add w.heap.size j hlt] at hrx
      rw [rlist_up3] at GX
      have HX := Lib.hid GX
      have hw : IntKind.u8.wrap (((3 + j : Nat) : Int) + 1) = ((3 + (j + 1) : Nat) : Int) := by rw [IntKind.wrap_u8]; omega
      have hle : ((3 + j : Nat) : Int) ≤ 10 := by omega
      generalize hk : ((3 + j : Nat) : Int) = k at *
      have HK := Lib.hid hk
      clear GX hH hk
      go_wp2
      go_roundw
      case rel => exact ⟨j + 1, by omega, by go_num, HX⟩
      case measure => have := HK.out; simp [intOf]; omega
    · obtain rfl : j = 8 := by omega
      go_wp2
      clear hj hlt
      go_loopw [4] (fun s4 wr => ∃ j : Nat, j ≤ 4 ∧ s4 = .int .u8 ((15 + j : Nat) : Int) ∧ Hid (Hp w0 wr (Tab (w.heap.size + 1) (rlist w.heap.size 8 j) :: AB w.heap.size :: r))) (fun s4 _ => 19 - (intOf s4).toNat)
      case atStart => exact ⟨0, by omega, rfl, hH⟩
      case round =>
        obtain ⟨j, hj, rfl, hH2⟩ := hrel
        clear hH
        by_cases hlt : j < 4
        · obtain ⟨wx, hrx, GX⟩ := tab_put und_rules und_op hH2.out (.int .u8 ((15 + j : Nat) : Int)) (15 + j) rfl (rV w.heap.size (15 + j)) (rlist_no15 w.heap.size j hlt)
          rw [rV_cmp w.heap.size j hlt] at hrx
          rw [rlist_up15] at GX
          have HX := Lib.hid GX
          have hw : IntKind.u8.wrap (((15 + j : Nat) : Int) + 1) = ((15 + (j + 1) : Nat) : Int) := by rw [IntKind.wrap_u8]; omega
          have hle : ((15 + j : Nat) : Int) ≤ 18 := by omega
          generalize hk : ((15 + j : Nat) : Int) = k at *
          have HK := Lib.hid hk
          clear GX hH2 hk
          go_wp2
          go_roundw
          case rel => exact ⟨j + 1, by omega, by go_num, HX⟩
          case measure => have := HK.out; simp [intOf]; omega
        · obtain rfl : j = 4 := by omega
          go_wp2
          go_ret
          exact ⟨rfl, hH2.out⟩
end Go.Proofs.YtijkkompnfpdeaaGreatDoor
