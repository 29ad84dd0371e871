/- Cores: the chapter's own core lives: walked. -/
import Derived.Test.YtijkkompnfpdeaaGreatDoorUv
set_option linter.unusedVariables false
set_option linter.unusedSimpArgs false
namespace Go.Proofs.YtijkkompnfpdeaaGreatDoor
open Go.RowKit Go.Joins Go.Shelf
attribute [local go_sem] Oper.semAt_some

/-- What a step hands back, spelled out. -/
abbrev stX (x : Bool) (a : Ak) (e : Int) : Value := .tuple #[.bool x, .agg #[bv a.what, wv a.h, wv a.v, wv a.m, .int .i64 a.wait], .int .i64 e]
theorem step_e {w0 w : World} {r : List Thing} {b : Nat} {c : List I4} {s t : Cs} {x : Bool} {a : Ak} {f : Int} (E : stepC c s = (t, x, a, f)) (hc : c.all ik = true) (hlen : c.length ≤ 1024) (hs : s.says.length < 256) (H : Hp w0 w (CR b c s :: r)) :
    Calls Tryz.prog 9 #[.pointer (some ⟨b, 0, none⟩)] w fun e w' => e = .returned (stX x a f) ∧ Hp w0 w' (CR b c t :: r) := by
  have h := step_c hc hlen hs H
  rw [E] at h
  exact h
def L5 : List I4 := [(1, 1, 0, 65), (14, 1, 0, 2), (20, 1, 0, 0), (21, 18, 0, 0), (11, 2, 0, 1)]
def S1 : Cs := ⟨[0, 65, 0, 0, 0, 0, 0, 0], 1, [0, 0, 0, 0], [], false⟩
def S2 : Cs := ⟨[0, 65, 0, 0, 0, 0, 0, 0], 2, [0, 0, 65, 0], [], false⟩
def S3 : Cs := ⟨[0, 65, 0, 0, 0, 0, 0, 0], 3, [0, 0, 65, 0], [65], false⟩
def S4 : Cs := ⟨[0, 65, 0, 0, 0, 0, 0, 0], 4, [0, 0, 65, 0], [65], true⟩
def S6 : Cs := ⟨[8, 7, 0, 0, 0, 0, 0, 0], 4, [0, 0, 65, 0], [65], false⟩
theorem E1 : stepC L5 (firstC 4 []) = (S1, false, ak0, 0) := by rfl
theorem E2 : stepC L5 S1 = (S2, false, ak0, 0) := by rfl
theorem E3 : stepC L5 S2 = (S3, false, ak0, 0) := by rfl
theorem E4 : stepC L5 S3 = (S4, true, ⟨18, 0, 65, 0, 0⟩, 0) := by rfl
theorem E5 : stepC L5 S4 = (S4, false, ak0, 7) := by rfl
theorem E6 : answC S4 8 7 = (S6, 0) := by rfl
theorem E7 : stepC L5 S6 = (S6, false, ak0, 15) := by rfl
theorem K5 : imck 4 [] L5 = true := by decide
theorem K5' : L5.all ik = true := by decide
set_option maxHeartbeats 16000000 in
set_option maxRecDepth 20000 in
theorem lives_c (w : World) : Calls Tryz.prog 7 #[] w fun e w' => e = .returned (.bool true) ∧ Below w.heap.size w w' := by
  have H0 := own_lit (n := 5) (size := 4) (e := 26) (cs := #[.int .u8 1, .int .u8 1, .int .u8 0, .int .u8 65, .int .u8 14, .int .u8 1, .int .u8 0, .int .u8 2, .int .u8 20, .int .u8 1, .int .u8 0, .int .u8 0, .int .u8 21, .int .u8 18, .int .u8 0, .int .u8 0, .int .u8 11, .int .u8 2, .int .u8 0, .int .u8 1]) (Hp.start w) rfl (by decide)
  have HC : CellsIn _ _ (ics L5) := CellsIn.own H0
  have NC := Lib.hid (new_y 4 none (some ⟨w.heap.size, 0, none⟩) 0 5 [] L5 K5 (CellsIn.nil _ _) HC H0)
  have HW := Lib.hid H0
  clear H0 HC
  go_enter Tryz.func7, Tryz.ntmps7
  go_wp2_with fail
  refine NC.out.mono ?_; rintro e w1 ⟨b, rfl, H1'⟩
  have H1 := Lib.hid H1'
  clear NC HW H1'
  go_wp2_with fail
  refine (step_e E1 K5' (by decide) (by decide) H1.out).mono ?_; rintro e w2 ⟨rfl, H2'⟩
  have H2 := Lib.hid H2'
  clear H1 H2'
  go_wp2_with fail
  refine (step_e E2 K5' (by decide) (by decide) H2.out).mono ?_; rintro e w3 ⟨rfl, H3'⟩
  have H3 := Lib.hid H3'
  clear H2 H3'
  go_wp2_with fail
  refine (step_e E3 K5' (by decide) (by decide) H3.out).mono ?_; rintro e w4 ⟨rfl, H4'⟩
  have H4 := Lib.hid H4'
  clear H3 H4'
  go_wp2_with fail
  refine (step_e E4 K5' (by decide) (by decide) H4.out).mono ?_; rintro e w5 ⟨rfl, H5'⟩
  have H5 := Lib.hid H5'
  clear H4 H5'
  go_wp2_with fail
  have HA := (blk_new H5.out (.cells #[.int .u8 18, .int .u32 0, .int .u32 65, .int .u32 0, .int .i64 0] 37)).up1
  generalize w5.heap.size = ab at *
  refine (step_e E5 K5' (by decide) (by decide) HA).mono ?_; rintro e w6 ⟨rfl, H6'⟩
  have H6 := Lib.hid H6'
  clear H5 HA H6'
  go_wp2_with fail
  refine (answer_y (s := S4) rfl 8 7 (H6.out.alloc _)).mono ?_; rintro e w7 ⟨rfl, H7'⟩
  rw [E6] at H7'
  have H7 := Lib.hid H7'
  clear H6 H7'
  go_wp2_with fail
  refine (regs_of (s := S6) 8 7 0 0 0 0 0 0 rfl H7.out).mono ?_; intro e w8 hp
  obtain ⟨rfl, H8'⟩ : e = .returned (.agg #[wv 8, wv 7, wv 0, wv 0, wv 0, wv 0, wv 0, wv 0]) ∧ _ := hp
  have H8 := Lib.hid H8'
  clear H7 H8'
  go_wp2_with fail
  have HB := (blk_new H8.out (.cells #[wv 8, wv 7, wv 0, wv 0, wv 0, wv 0, wv 0, wv 0] 40)).up1
  generalize w8.heap.size = rb at *
  refine (step_e E7 K5' (by decide) (by decide) HB).mono ?_; rintro e w9 ⟨rfl, H9'⟩
  have H9 := Lib.hid H9'
  clear H8 HB H9'
  go_upto_region 13 with fail
  have H10 := Lib.hid (H9.out.alloc (.cells #[bv ak0.what, wv ak0.h, wv ak0.v, wv ak0.m, .int .i64 ak0.wait] 37))
  generalize w9.alloc _ = W at *
  clear H9
  have hb1 := blk_get (H10.out.pull 1 rfl)
  have hb2 := blk_get (H10.out.pull 2 rfl)
  have q0 : W.cell? ⟨ab, 0, none⟩ = some (.int .u8 18) := cell_blk hb2 0
  have q1 : W.cell? ⟨ab, 1, none⟩ = some (.int .u32 0) := cell_blk hb2 1
  have q2 : W.cell? ⟨ab, 2, none⟩ = some (.int .u32 65) := cell_blk hb2 2
  have q3 : W.cell? ⟨ab, 3, none⟩ = some (.int .u32 0) := cell_blk hb2 3
  have q4 : W.cell? ⟨ab, 4, none⟩ = some (.int .i64 0) := cell_blk hb2 4
  have r0 : W.cell? ⟨rb, 0, none⟩ = some (wv 8) := cell_blk hb1 0
  have r1 : W.cell? ⟨rb, 1, none⟩ = some (wv 7) := cell_blk hb1 1
  clear hb1 hb2
  have he : ∀ w, (binOp .eql 37 (.agg #[.int .u8 18, .int .u32 0, .int .u32 65, .int .u32 0, .int .i64 0]) (.agg #[.int .u8 18, .int .u32 0, .int .u32 65, .int .u32 0, .int .i64 0])).run Tryz.prog w = .ok (.bool true) w := fun w => by kernel_rfl
  have BC := Lib.hid (bytes_of H10.out)
  go_wp2_with fail
  refine BC.out.mono ?_; rintro e wa ⟨v, rfl, HA⟩
  obtain ⟨a, n, rfl⟩ := own_slice HA
  have HB := own_lit (n := 4) (size := 1) (e := 5) (cs := #[.int .u8 0, .int .u8 0, .int .u8 65, .int .u8 0]) HA rfl (by decide)
  have SC := Lib.hid (same_bytes a (some ⟨wa.heap.size, 0, none⟩) n 4 [0, 0, 65, 0] [0, 0, 65, 0] _ (CellsIn.own (HB.pull 1 rfl)) (CellsIn.own HB) (by decide) (by decide))
  have H11 := Lib.hid (HB.pull 2 rfl)
  clear HA HB BC H10
  go_wp2_with fail
  refine SC.out.mono ?_; intro e wb hp
  obtain ⟨rfl, hb⟩ : e = .returned (.bool true) ∧ _ := hp
  have H12 := Lib.hid (H11.out.below_read hb)
  clear hb SC H11
  go_wp2_with fail
  refine (console_of H12.out).mono ?_; intro e wc hp
  obtain ⟨rfl, H13'⟩ : e = .returned (.string ⟨#[65]⟩) ∧ _ := hp
  have H13 := Lib.hid H13'
  clear H12 H13'
  go_wp2_with fail
  refine (answer_nil 0 0 _).mono ?_; rintro e wd ⟨rfl, rfl⟩
  go_wp2
  go_ret
  exact ⟨rfl, H13.out.below⟩
end Go.Proofs.YtijkkompnfpdeaaGreatDoor
