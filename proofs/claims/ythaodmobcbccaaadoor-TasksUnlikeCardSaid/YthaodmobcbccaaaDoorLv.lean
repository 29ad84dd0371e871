/- The chapter's task; the law's helper functions. -/
import Derived.Test.YthaodmobcbccaaaDoorKu
set_option linter.unusedVariables false
set_option linter.unusedSimpArgs false
namespace Go.Proofs.YthaodmobcbccaaaDoor
open Go.RowKit Go.Shelf
attribute [local go_sem] Oper.semAt_some

def tk0 : Tk := ⟨256, 1, false, 3, 5, 0, 0, 0, 0, 0, 0, 2, 8, 0⟩
def tkz : Tk := ⟨0, 0, false, 0, 0, 0, 0, 0, 0, 0, 0, 0, 0, 0⟩
theorem chk0 : chk tk0 = true := by decide
theorem chkz : chk tkz = false := by decide
theorem text0 : text tk0 = [50, 53, 54, 32, 114, 101, 97, 100, 121, 32, 45, 32, 51, 32, 53, 32, 45, 32, 50, 32, 56, 32, 48] := by
  unfold text
  rw [chk0]
  simp [txt, tk0, sw, hw, num, mid, Lib.itoa, Lib.decDigits]
theorem textz : text tkz = [] := by unfold text; rw [chkz]; rfl
theorem wf0 : TkWf tk0 := ⟨by decide, by decide, by decide, by decide, by decide, by decide, by decide, by decide, by decide, by decide, by decide, by decide, by decide⟩
theorem wfz : TkWf tkz := ⟨by decide, by decide, by decide, by decide, by decide, by decide, by decide, by decide, by decide, by decide, by decide, by decide, by decide⟩
theorem text0_c (B0 : Nat) (w : World) (hB : B0 ≤ w.heap.size) (ht : Tb B0 w) :
    Calls Tryd.prog 9 #[.agg #[.int .u32 256, .int .u8 1, .bool false, .int .i64 3, .int .i64 5, .int .u8 0, .int .u32 0, .int .u32 0, .int .u32 0, .int .i64 0, .int .i64 0, .int .i64 2, .int .i64 8, .int .u32 0]] w fun e w' => e = .returned (.string ⟨#[50, 53, 54, 32, 114, 101, 97, 100, 121, 32, 45, 32, 51, 32, 53, 32, 45, 32, 50, 32, 56, 32, 48]⟩) ∧ Below w.heap.size w w' :=
  (text_c B0 w tk0 wf0 hB ht).mono fun e w' h => ⟨by rw [h.1, text0], h.2⟩
theorem textz_c (B0 : Nat) (w : World) (hB : B0 ≤ w.heap.size) (ht : Tb B0 w) :
    Calls Tryd.prog 9 #[.agg #[.int .u32 0, .int .u8 0, .bool false, .int .i64 0, .int .i64 0, .int .u8 0, .int .u32 0, .int .u32 0, .int .u32 0, .int .i64 0, .int .i64 0, .int .i64 0, .int .i64 0, .int .u32 0]] w fun e w' => e = .returned (.string ⟨#[]⟩) ∧ Below w.heap.size w w' :=
  (text_c B0 w tkz wfz hB ht).mono fun e w' h => ⟨by rw [h.1, textz], h.2⟩
theorem check0_c (w : World) :
    Calls Tryd.prog 7 #[.agg #[.int .u32 256, .int .u8 1, .bool false, .int .i64 3, .int .i64 5, .int .u8 0, .int .u32 0, .int .u32 0, .int .u32 0, .int .i64 0, .int .i64 0, .int .i64 2, .int .i64 8, .int .u32 0]] w fun e w' => e = .returned (.bool true) ∧ Below w.heap.size w w' :=
  (check_c w tk0).mono fun e w' h => ⟨by rw [h.1, chk0], h.2⟩
theorem blk1 : blk 3 0 = false := by decide
theorem blk2 : blk 3 (-1) = true := by decide
theorem blk3 : blk 4 5 = false := by decide

set_option maxHeartbeats 1000000 in
set_option maxRecDepth 20000 in
theorem lives_c (B0 : Nat) (w : World) (hB : B0 ≤ w.heap.size) (ht : Tb B0 w) :
    Calls Tryd.prog 11 #[] w fun e w' => e = .returned (.bool true) ∧ Below w.heap.size w w' := by
  have TB := Lib.hid ht
  have HB := Lib.hid hB
  clear ht hB
  go_enter Tryd.func11, Tryd.ntmps11
  go_wp2_with fail
  refine (check0_c _).mono ?_; rintro e w2 ⟨rfl, hb2⟩
  have k0 := box_kept hb2 0
  have k1 := box_kept hb2 1
  have k2 := box_kept hb2 2
  have k3 := box_kept hb2 3
  have k4 := box_kept hb2 4
  have k5 := box_kept hb2 5
  have k6 := box_kept hb2 6
  have k7 := box_kept hb2 7
  have k8 := box_kept hb2 8
  have k9 := box_kept hb2 9
  have k10 := box_kept hb2 10
  have k11 := box_kept hb2 11
  have k12 := box_kept hb2 12
  have k13 := box_kept hb2 13
  simp at k0 k1 k2 k3 k4 k5 k6 k7 k8 k9 k10 k11 k12 k13
  have b2 := box_then hb2
  clear hb2
  have s2 : w.heap.size ≤ w2.heap.size := b2.size
  go_wp2_with fail
  refine (text0_c B0 w2 (Nat.le_trans HB.out s2) (TB.out.on (b2.mono HB.out))).mono ?_; rintro e w3 ⟨rfl, b3⟩
  have b3' := b2.trans (b3.mono s2)
  clear k0 k1 k2 k3 k4 k5 k6 k7 k8 k9 k10 k11 k12 k13
  go_wp2_with fail
  refine (blocks_c w3 3 0 0 0 0).mono ?_; rintro e w4 ⟨rfl, b4⟩
  rw [blk1]
  have b4' := b3'.trans (b4.mono b3'.size)
  go_wp2_with fail
  refine (blocks_c w4 3 0 0 0 (-1)).mono ?_; rintro e w5 ⟨rfl, b5⟩
  rw [blk2]
  have b5' := b4'.trans (b5.mono b4'.size)
  go_wp2_with fail
  refine (blocks_c w5 4 0 0 0 5).mono ?_; rintro e w6 ⟨rfl, b6⟩
  rw [blk3]
  have b6' := b5'.trans (b6.mono b5'.size)
  go_wp2_with fail
  refine (textz_c B0 w6 (Nat.le_trans HB.out b6'.size) (TB.out.on (b6'.mono HB.out))).mono ?_; rintro e w7 ⟨rfl, b7⟩
  have b7' := b6'.trans (b7.mono b6'.size)
  go_wp2
  go_ret
  exact ⟨rfl, b7'⟩

/-- One task, but for what a wait for ever is told as. -/
def lk (a b : Tk) : Bool := decide (a.h = b.h ∧ a.st = b.st ∧ a.hd = b.hd ∧ a.ba = b.ba ∧ a.ra = b.ra ∧ (a.wh = b.wh ∧ a.wH = b.wH ∧ a.wV = b.wV ∧ a.wM = b.wM) ∧ a.lf = b.lf ∧ a.an = b.an ∧ a.la = b.la ∧ a.va = b.va)
set_option maxHeartbeats 1000000 in
set_option maxRecDepth 20000 in
theorem like_c (w : World) (a b : Tk) :
    Calls Tryd.prog 12 #[.agg a.cells, .agg b.cells] w fun e w' => e = .returned (.bool (lk a b)) ∧ Below w.heap.size w w' := by
  obtain ⟨h, st, hd, ba, ra, wh, wH, wV, wM, ww, lf, an, la, va⟩ := a
  obtain ⟨h', st', hd', ba', ra', wh', wH', wV', wM', ww', lf', an', la', va'⟩ := b
  unfold Tk.cells
  simp only
  go_enter Tryd.func12, Tryd.ntmps12
  go_wp2
  all_goals go_ret
  all_goals refine ⟨congrArg (fun b => Ending.returned (Value.bool b)) (?_ : _ = lk _ _), ((Below.refl _ w).alloc (Nat.le_refl _) _).alloc (by rw [sz]; omega) _⟩
  all_goals go_light
  all_goals try simp only [beq_iff_eq, beq_eq_false_iff_ne, ne_eq] at *
  all_goals (unfold lk; simp_all)
end Go.Proofs.YthaodmobcbccaaaDoor
