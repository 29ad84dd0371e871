/- Instructions: Check, Put, Get; the document's. -/
import Derived.Test.YtcfoljdpffonhaaGreatDoorIc
import Derived.Laws.ResultCell
set_option linter.unusedVariables false
set_option linter.unusedSimpArgs false
namespace Go.Proofs.YtcfoljdpffonhaaGreatDoor
open Go.RowKit Go.Lib
attribute [local go_sem] Oper.semAt_some

abbrev inS (op : Nat) (a b c : Int) : Value := .agg #[.int .u8 op, .int .u8 a, .int .u8 b, .int .u8 c]
/-- Three bytes. -/
structure By3 (a b c : Int) : Prop where
  a : 0 ≤ a ∧ a < 256
  b : 0 ≤ b ∧ b < 256
  c : 0 ≤ c ∧ c < 256
theorem sp_ck {op : Nat} {a b c : Int} (h : op ≤ 22) (hb : By3 a b c) : (sp (fl op) [a, b, c]).isSome = ck op a b c := by
  obtain ⟨k1, k2⟩ := fl_ok op
  rw [sp_rck _ _ k1 (by simpa using k2) (by simp; exact ⟨hb.a, hb.b, hb.c⟩)]
  simp [ck, h]
/-- split: of whatever Op. -/
theorem split_yes {w0 w : World} {r : List Thing} {op : Nat} {a b c : Int} (H : Hp w0 w r) (hb : By3 a b c) (hk : ck op a b c = true) :
    ∃ l, sp (fl op) [a, b, c] = some l ∧ Calls Tryz.prog 75 #[inS op a b c] w fun e w' => ∃ v, e = .returned (.tuple #[v, .bool true]) ∧ Hp w0 w' (OwnI v l :: r) := by
  have h : op ≤ 22 := by unfold ck at hk; simp at hk; exact hk.1
  have h1 := sp_ck h hb
  rw [hk] at h1
  obtain ⟨l, hl⟩ := Option.isSome_iff_exists.1 h1
  have := split_ok op a b c H h hb.a hb.b hb.c
  rw [hl] at this
  exact ⟨l, hl, this⟩
theorem split_not {w0 w : World} {r : List Thing} {op : Nat} {a b c : Int} (H : Hp w0 w r) (hb : By3 a b c) (hk : ck op a b c = false) :
    Calls Tryz.prog 75 #[inS op a b c] w fun e w' => e = .returned (.tuple #[.slice none 0 0, .bool false]) ∧ Hp w0 w' r := by
  by_cases h : op ≤ 22
  · have h1 := sp_ck h hb
    rw [hk] at h1
    have h2 : sp (fl op) [a, b, c] = none := by simpa using h1
    have := split_ok op a b c H h hb.a hb.b hb.c
    rw [h2] at this
    exact this
  · exact split_bad op a b c H (by omega)

set_option maxHeartbeats 1000000 in
set_option maxRecDepth 20000 in
theorem check_c {w0 w : World} {r : List Thing} {op : Nat} {a b c : Int} (H : Hp w0 w r) (hb : By3 a b c) :
    Calls Tryz.prog 33 #[inS op a b c] w fun e w' => e = .returned (.bool (ck op a b c)) ∧ Hp w0 w' r := by
  have HX := Lib.hid (H.alloc (.cells #[.int .u8 op, .int .u8 a, .int .u8 b, .int .u8 c] 61))
  by_cases hk : ck op a b c = true
  · obtain ⟨l, hl, hc⟩ := split_yes HX.out hb hk
    have HC := Lib.hid hc
    rw [hk]
    clear hc hl H HX hk
    go_enter Tryz.func33, Tryz.ntmps33
    go_wp2_with fail
    refine HC.out.mono ?_; rintro e w1 ⟨v, rfl, H1⟩
    have H2 := Lib.hid H1.tail
    obtain ⟨av, cv, rfl⟩ := own_slice H1
    clear H1
    go_wp2
    go_ret
    exact ⟨rfl, H2.out⟩
  · have hk' : ck op a b c = false := by simpa using hk
    have HC := Lib.hid (split_not HX.out hb hk')
    rw [hk']
    clear H HX hk hk'
    go_enter Tryz.func33, Tryz.ntmps33
    go_wp2_with fail
    refine HC.out.mono ?_; rintro e w1 ⟨rfl, H1⟩
    have H2 := Lib.hid H1
    clear H1
    go_wp2
    go_ret
    exact ⟨rfl, H2.out⟩

theorem results_cell_tmp_row {P : Program} {fn : Func} {p u : Tmp} {ty : TypeId} (h : fn.results = #[.cell p ty, .tmp u]) (tmps : Array Value) (w : World) (g : Nat) (t : TypeId) (cs : Array Value) (fr : Nat × Nat) (d : TypeDesc)
    (hp : tmps.getD p undef = .pointer (some ⟨g, 0, none⟩)) (hg : w.heap[g]? = some (.cells cs t fr))
    (hu : P.underlying ty = some d) (hd : (match d with | .struct _ | .array _ _ => true | _ => false) = true) (hi : (P.info? ty).map (·.size) = some cs.size) :
    (results fn tmps).run P w = .ok (.tuple #[.agg cs, tmps.getD u undef]) w := by
  rw [results_cell_tmp h, hp]
  simp [asAddr, Result.andThen, run_loadVar_row w g t ty cs fr d hg hu hd hi]
theorem ins_info : (Tryz.prog.info? 61).map (·.size) = some 4 := by kernel_rfl
theorem arr_info : (Tryz.prog.info? 62).map (·.size) = some 4 := by kernel_rfl
abbrev zS : Array Value := #[.int .u8 0, .int .u8 0, .int .u8 0, .int .u8 0]
theorem set4 {w0 w : World} {r : List Thing} {g : Nat} {t : TypeId} {v0 v1 v2 v3 : Value} (H : Hp w0 w (Blk g (.cells zS t (0, 0)) :: r)) (u0 u1 u2 u3 : Value) :
    Hp w0 ((((w.setCell ⟨g, 0, none⟩ u0).setCell ⟨g, 1, none⟩ u1).setCell ⟨g, 2, none⟩ u2).setCell ⟨g, 3, none⟩ u3) (Blk g (.cells #[u0, u1, u2, u3] t (0, 0)) :: r) :=
  blk_set (blk_set (blk_set (blk_set H 0 u0) 1 u1) 2 u2) 3 u3
set_option maxHeartbeats 1000000 in
set_option maxRecDepth 20000 in
theorem get_yes {w0 w : World} {r : List Thing} {op : Nat} {a b c : Int} (H : Hp w0 w r) (hb : By3 a b c) (hk : ck op a b c = true) :
    Calls Tryz.prog 64 #[inS op a b c] w fun e w' => e = .returned (.tuple #[inS op a b c, .int .i64 0]) ∧ Hp w0 w' r := by
  have H1 := blk_new H (.cells #[.int .u8 op, .int .u8 a, .int .u8 b, .int .u8 c] 62)
  have H2 := blk_new_at H1 (.cells zS 61) (w.heap.size + 1) (size_alloc1 _ _)
  have H3 := Lib.hid (blk_new_at H2 (.cells #[.int .u8 op, .int .u8 a, .int .u8 b, .int .u8 c] 61) (w.heap.size + 1 + 1) (size_alloc2 _ _ _))
  have HC := Lib.hid (check_c (op := op) H3.out hb)
  rw [hk] at HC
  clear H H1 H2 H3
  go_enter Tryz.func64, Tryz.ntmps64
  go_wp2_with fail
  refine HC.out.mono ?_; rintro e w1 ⟨rfl, H4⟩
  have b4 := blk_get H4
  have k0 : w1.cell? ⟨w.heap.size + 1 + 1, 0, none⟩ = some (.int .u8 op) := cell_blk b4 0
  have k1 : w1.cell? ⟨w.heap.size + 1 + 1, 1, none⟩ = some (.int .u8 a) := cell_blk b4 1
  have k2 : w1.cell? ⟨w.heap.size + 1 + 1, 2, none⟩ = some (.int .u8 b) := cell_blk b4 2
  have k3 : w1.cell? ⟨w.heap.size + 1 + 1, 3, none⟩ = some (.int .u8 c) := cell_blk b4 3
  have b5 := blk_get (H4.pull 1 rfl)
  have z0 : w1.cell? ⟨w.heap.size + 1, 0, none⟩ = some (.int .u8 0) := cell_blk b5 0
  have z1 : w1.cell? ⟨w.heap.size + 1, 1, none⟩ = some (.int .u8 0) := cell_blk b5 1
  have z2 : w1.cell? ⟨w.heap.size + 1, 2, none⟩ = some (.int .u8 0) := cell_blk b5 2
  have z3 : w1.cell? ⟨w.heap.size + 1, 3, none⟩ = some (.int .u8 0) := cell_blk b5 3
  have f0 := free_blk b5 0
  have f1 := free_blk b5 1
  have f2 := free_blk b5 2
  have f3 := free_blk b5 3
  have H5 := Lib.hid (set4 (v0 := undef) (v1 := undef) (v2 := undef) (v3 := undef) (H4.pull 1 rfl) (.int .u8 op) (.int .u8 a) (.int .u8 b) (.int .u8 c))
  clear H4 b4 b5 HC
  go_wp2
  exact bodyPost_ret (results_cell_tmp_row rfl _ _ (w.heap.size + 1) _ _ _ _ rfl (blk_get H5.out) Tryz.underlying61 rfl ins_info) rfl ⟨rfl, H5.out.tail.tail.tail⟩
set_option maxHeartbeats 1000000 in
set_option maxRecDepth 20000 in
theorem get_no {w0 w : World} {r : List Thing} {op : Nat} {a b c : Int} (H : Hp w0 w r) (hb : By3 a b c) (hk : ck op a b c = false) :
    Calls Tryz.prog 64 #[inS op a b c] w fun e w' => e = .returned (.tuple #[.agg zS, .int .i64 14]) ∧ Hp w0 w' r := by
  have H1 := blk_new H (.cells #[.int .u8 op, .int .u8 a, .int .u8 b, .int .u8 c] 62)
  have H2 := blk_new_at H1 (.cells zS 61) (w.heap.size + 1) (size_alloc1 _ _)
  have H3 := Lib.hid (blk_new_at H2 (.cells #[.int .u8 op, .int .u8 a, .int .u8 b, .int .u8 c] 61) (w.heap.size + 1 + 1) (size_alloc2 _ _ _))
  have HC := Lib.hid (check_c (op := op) H3.out hb)
  rw [hk] at HC
  clear H H1 H2 H3
  go_enter Tryz.func64, Tryz.ntmps64
  go_wp2_with fail
  refine HC.out.mono ?_; rintro e w1 ⟨rfl, H4⟩
  have b5 := blk_get (H4.pull 1 rfl)
  have z0 : w1.cell? ⟨w.heap.size + 1, 0, none⟩ = some (.int .u8 0) := cell_blk b5 0
  have z1 : w1.cell? ⟨w.heap.size + 1, 1, none⟩ = some (.int .u8 0) := cell_blk b5 1
  have z2 : w1.cell? ⟨w.heap.size + 1, 2, none⟩ = some (.int .u8 0) := cell_blk b5 2
  have z3 : w1.cell? ⟨w.heap.size + 1, 3, none⟩ = some (.int .u8 0) := cell_blk b5 3
  have f0 := free_blk b5 0
  have f1 := free_blk b5 1
  have f2 := free_blk b5 2
  have f3 := free_blk b5 3
  have H5 := Lib.hid (set4 (v0 := undef) (v1 := undef) (v2 := undef) (v3 := undef) (H4.pull 1 rfl) (.int .u8 0) (.int .u8 0) (.int .u8 0) (.int .u8 0))
  clear H4 b5 HC
  go_wp2
  exact bodyPost_ret (results_cell_tmp_row rfl _ _ (w.heap.size + 1) _ _ _ _ rfl (blk_get H5.out) Tryz.underlying61 rfl ins_info) rfl ⟨rfl, H5.out.tail.tail.tail⟩
set_option maxHeartbeats 1000000 in
set_option maxRecDepth 20000 in
theorem put_c {w0 w : World} {r : List Thing} {op : Nat} {a b c : Int} (H : Hp w0 w r) :
    Calls Tryz.prog 28 #[inS op a b c] w fun e w' => e = .returned (inS op a b c) ∧ Hp w0 w' r := by
  have H1 := blk_new H (.cells #[.int .u8 op, .int .u8 a, .int .u8 b, .int .u8 c] 61)
  have H2 := Lib.hid (blk_new_at H1 (.cells #[.int .u8 op, .int .u8 a, .int .u8 b, .int .u8 c] 62) (w.heap.size + 1) (size_alloc1 _ _))
  clear H H1
  go_enter Tryz.func28, Tryz.ntmps28
  go_wp2
  exact bodyPost_ret (results_cell_row rfl _ _ (w.heap.size + 1) _ _ _ _ rfl (blk_get H2.out) Tryz.underlying62 rfl arr_info) rfl ⟨rfl, H2.out.tail.tail⟩
set_option maxHeartbeats 1000000 in
set_option maxRecDepth 20000 in
theorem rput_c {w0 w : World} {r : List Thing} {op : Nat} {a b c : Int} (H : Hp w0 w r) :
    Calls Tryz.prog 30 #[inS op a b c] w fun e w' => e = .returned (inS op a b c) ∧ Hp w0 w' r := by
  have H1 := blk_new H (.cells #[.int .u8 op, .int .u8 a, .int .u8 b, .int .u8 c] 61)
  have H2 := Lib.hid (blk_new_at H1 (.cells #[.int .u8 op, .int .u8 a, .int .u8 b, .int .u8 c] 62) (w.heap.size + 1) (size_alloc1 _ _))
  clear H H1
  go_enter Tryz.func30, Tryz.ntmps30
  go_wp2
  exact bodyPost_ret (results_cell_row rfl _ _ (w.heap.size + 1) _ _ _ _ rfl (blk_get H2.out) Tryz.underlying62 rfl arr_info) rfl ⟨rfl, H2.out.tail.tail⟩
end Go.Proofs.YtcfoljdpffonhaaGreatDoor
