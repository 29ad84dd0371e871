/- Whether a task may be seen so; the document's answers. -/
import Derived.Test.YthaodmobcbccaaaDoorKb
import Derived.Deep.Light
set_option linter.unusedVariables false
set_option linter.unusedSimpArgs false
namespace Go.Proofs.YthaodmobcbccaaaDoor
open Go.RowKit
attribute [local go_sem] Oper.semAt_some

/-- A task as it is seen. -/
structure Tk where
  h : Int
  st : Int
  hd : Bool
  ba : Int
  ra : Int
  wh : Int
  wH : Int
  wV : Int
  wM : Int
  ww : Int
  lf : Int
  an : Int
  la : Int
  va : Int
def Tk.cells (t : Tk) : Array Value := #[.int .u32 t.h, .int .u8 t.st, .bool t.hd, .int .i64 t.ba, .int .i64 t.ra, .int .u8 t.wh, .int .u32 t.wH, .int .u32 t.wV, .int .u32 t.wM, .int .i64 t.ww, .int .i64 t.lf, .int .i64 t.an, .int .i64 t.la, .int .u32 t.va]
/-- Numbers that may not be. -/
def bad (t : Tk) : Prop := t.h = 0 ∨ t.ba < 0 ∨ t.ra < t.ba ∨ 31 < t.ra ∨ t.an < 0 ∨ t.la < 0 ∨ 15 < t.la
instance (t : Tk) : Decidable (bad t) := by unfold bad; infer_instance
/-- Nothing is asked. -/
def noask (t : Tk) : Prop := t.wh = 0 ∧ t.wH = 0 ∧ t.wV = 0 ∧ t.wM = 0 ∧ t.ww = 0
instance (t : Tk) : Decidable (noask t) := by unfold noask; infer_instance
def chk (t : Tk) : Bool :=
  if bad t then false
  else if t.st = 1 ∨ t.st = 3 then decide (noask t ∧ t.lf = 0)
  else if t.st = 2 then decide (blk t.wh t.ww = true ∧ t.ww ≤ 1073741824 ∧ ((t.ww < 0 ∧ t.lf < 0) ∨ (1 ≤ t.lf ∧ t.lf ≤ t.ww)))
  else false

theorem chk_bad {t : Tk} (h : bad t) : chk t = false := if_pos h
theorem chk_idle {t : Tk} (h : ¬ bad t) (hs : t.st = 1 ∨ t.st = 3) : chk t = decide (noask t ∧ t.lf = 0) := by unfold chk; rw [if_neg h, if_pos hs]
theorem chk_wait {t : Tk} (h : ¬ bad t) (hs : t.st = 2) : chk t = decide (blk t.wh t.ww = true ∧ t.ww ≤ 1073741824 ∧ ((t.ww < 0 ∧ t.lf < 0) ∨ (1 ≤ t.lf ∧ t.lf ≤ t.ww))) := by unfold chk; rw [if_neg h, if_neg (by omega), if_pos hs]
theorem chk_other {t : Tk} (h : ¬ bad t) (h1 : t.st ≠ 1) (h2 : t.st ≠ 2) (h3 : t.st ≠ 3) : chk t = false := by unfold chk; rw [if_neg h, if_neg (by omega), if_neg h2]
theorem box_cell (w : World) (cs : Array Value) (e : TypeId) (o : Nat) : (w.alloc (.cells cs e)).cell? ⟨w.heap.size, o, none⟩ = cs[o]? := cell_blk (MapKept.heap_alloc w _).1 o
theorem box_below (w : World) (o : Obj) : Below w.heap.size w (w.alloc o) := (Below.refl _ w).alloc (Nat.le_refl _) _
theorem box_then {w w2 : World} {o : Obj} (hb : Below (w.alloc o).heap.size (w.alloc o) w2) : Below w.heap.size w w2 := (box_below w o).trans (hb.mono (by rw [sz]; omega))
theorem box_kept {w w2 : World} {cs : Array Value} {e : TypeId} (hb : Below (w.alloc (.cells cs e)).heap.size (w.alloc (.cells cs e)) w2) (o : Nat) : w2.cell? ⟨w.heap.size, o, none⟩ = cs[o]? := by
  rw [hb.cell (p := ⟨w.heap.size, o, none⟩) (by rw [sz]; exact Nat.lt_succ_self _), box_cell]

theorem fits_eq (what kind : Int) : fits what kind = decide ((kind = 1 ∧ (what = 3 ∨ what = 4)) ∨ (kind = 2 ∧ (what = 5 ∨ what = 6)) ∨ (kind = 3 ∧ (what = 7 ∨ what = 8 ∨ what = 9 ∨ what = 10)) ∨ (kind = 4 ∧ (what = 11 ∨ what = 12 ∨ what = 13)) ∨ (kind = 5 ∧ (what = 14 ∨ what = 15)) ∨ (kind = 6 ∧ (what = 16 ∨ what = 17))) := by
  unfold fits
  rw [decide_eq_decide]
  constructor
  · rintro ⟨h1, h2, h3⟩
    obtain ⟨k, rfl⟩ : ∃ k : Nat, kind = k := ⟨kind.toNat, by omega⟩
    have hk : k < 7 := by omega
    rw [Int.toNat_natCast] at h3
    match k, hk with
    | 0, _ => simp [kl] at h3
    | 1, _ => simp [kl] at h3; omega
    | 2, _ => simp [kl] at h3; omega
    | 3, _ => simp [kl] at h3; omega
    | 4, _ => simp [kl] at h3; omega
    | 5, _ => simp [kl] at h3; omega
    | 6, _ => simp [kl] at h3; omega
  · rintro (⟨rfl, h⟩ | ⟨rfl, h⟩ | ⟨rfl, h⟩ | ⟨rfl, h⟩ | ⟨rfl, h⟩ | ⟨rfl, h⟩) <;> (refine ⟨by decide, by decide, ?_⟩; simp [kl]; omega)
theorem ref_waits_c (w : World) (what : Int) :
    Calls Tryd.prog 23 #[.int .u8 what] w fun e w' => e = .returned (.bool (decide (what ∈ [2, 3, 5, 7, 8, 9, 11, 14]))) ∧ w = w' := by
  go_enter Tryd.func23, Tryd.ntmps23
  go_wp2
  all_goals go_ret
  all_goals exact ⟨by first | (rw [decide_eq_true (by simp_all)]; rfl) | (rw [decide_eq_false (by simp_all)]; rfl), rfl⟩
theorem ref_blocks_c (w : World) (what h v m wait : Int) :
    Calls Tryd.prog 14 #[.agg #[.int .u8 what, .int .u32 h, .int .u32 v, .int .u32 m, .int .i64 wait]] w fun e w' => e = .returned (.bool (blk what wait)) ∧ Below w.heap.size w w' := by
  go_enter Tryd.func14, Tryd.ntmps14
  go_wp2_with fail
  refine (ref_waits_c _ what).mono ?_; rintro e w' ⟨rfl, rfl⟩
  go_wp2
  all_goals go_ret
  all_goals refine ⟨congrArg (fun b => Ending.returned (Value.bool b)) (?_ : _ = blk _ _), box_below _ _⟩
  all_goals (unfold blk; rw [Bool.eq_iff_iff]; simp; try omega)
set_option maxHeartbeats 1000000 in
theorem ref_fits_c (w : World) (what h v m wait kind : Int) :
    Calls Tryd.prog 16 #[.agg #[.int .u8 what, .int .u32 h, .int .u32 v, .int .u32 m, .int .i64 wait], .int .u8 kind] w fun e w' => e = .returned (.bool (fits what kind)) ∧ Below w.heap.size w w' := by
  go_enter Tryd.func16, Tryd.ntmps16
  go_wp2
  all_goals go_ret
  all_goals refine ⟨congrArg (fun b => Ending.returned (Value.bool b)) (?_ : _ = fits _ _), box_below _ _⟩
  all_goals go_light
  all_goals try simp only [beq_iff_eq, beq_eq_false_iff_ne, ne_eq] at *
  all_goals (rw [fits_eq, Bool.eq_iff_iff]; simp only [beq_iff_eq, decide_eq_true_eq, Bool.false_eq_true, false_iff]; omega)

set_option maxHeartbeats 4000000 in
set_option maxRecDepth 20000 in
theorem check_c (w : World) (t : Tk) :
    Calls Tryd.prog 7 #[.agg t.cells] w fun e w' => e = .returned (.bool (chk t)) ∧ Below w.heap.size w w' := by
  obtain ⟨h, st, hd, ba, ra, wh, wH, wV, wM, ww, lf, an, la, va⟩ := t
  unfold Tk.cells
  go_enter Tryd.func7, Tryd.ntmps7
  go_wp2_with (first | (go_at_call 13; refine (blocks_c _ _ _ _ _ _).mono ?_; rintro e w2 ⟨rfl, hb⟩; have k9 := box_kept hb 9; have k10 := box_kept hb 10; simp at k9 k10))
  all_goals go_ret
  all_goals refine ⟨congrArg (fun b => Ending.returned (Value.bool b)) (?_ : _ = chk _), by first | exact box_below _ _ | exact box_then hb⟩
  all_goals go_light
  all_goals try simp only [beq_iff_eq, beq_eq_false_iff_ne, ne_eq] at *
  all_goals first
    | (rw [chk_bad (by unfold bad; simp only; omega)]; done)
    | (rw [chk_other (by unfold bad; simp only; omega) (by first | (simp only; done) | (simp only; omega)) (by first | (simp only; done) | (simp only; omega)) (by first | (simp only; done) | (simp only; omega))]; done)
    | (rw [chk_idle (by unfold bad; simp only; omega) (by first | (simp only; done) | (simp only; omega)), Bool.eq_iff_iff, decide_eq_true_eq]; simp only [noask, beq_iff_eq, Bool.false_eq_true, false_iff]; omega)
    | (rw [chk_wait (by unfold bad; simp only; omega) (by first | (simp only; done) | (simp only; omega)), Bool.eq_iff_iff, decide_eq_true_eq]; simp only []; generalize blk wh ww = bb at *; cases bb <;> simp_all <;> omega)
set_option maxHeartbeats 4000000 in
set_option maxRecDepth 20000 in
theorem ref_check_c (w : World) (t : Tk) :
    Calls Tryd.prog 8 #[.agg t.cells] w fun e w' => e = .returned (.bool (chk t)) ∧ Below w.heap.size w w' := by
  obtain ⟨h, st, hd, ba, ra, wh, wH, wV, wM, ww, lf, an, la, va⟩ := t
  unfold Tk.cells
  go_enter Tryd.func8, Tryd.ntmps8
  go_wp2_with (first | (go_at_call 14; refine (ref_blocks_c _ _ _ _ _ _).mono ?_; rintro e w2 ⟨rfl, hb⟩; have k9 := box_kept hb 9; have k10 := box_kept hb 10; simp at k9 k10))
  all_goals go_ret
  all_goals refine ⟨congrArg (fun b => Ending.returned (Value.bool b)) (?_ : _ = chk _), by first | exact box_below _ _ | exact box_then hb⟩
  all_goals go_light
  all_goals try simp only [beq_iff_eq, beq_eq_false_iff_ne, ne_eq] at *
  all_goals first
    | (rw [chk_bad (by unfold bad; simp only; omega)]; done)
    | (rw [chk_other (by unfold bad; simp only; omega) (by first | (simp only; done) | (simp only; omega)) (by first | (simp only; done) | (simp only; omega)) (by first | (simp only; done) | (simp only; omega))]; done)
    | (rw [chk_idle (by unfold bad; simp only; omega) (by first | (simp only; done) | (simp only; omega)), Bool.eq_iff_iff, decide_eq_true_eq]; simp only [noask, beq_iff_eq, Bool.false_eq_true, false_iff]; omega)
    | (rw [chk_wait (by unfold bad; simp only; omega) (by first | (simp only; done) | (simp only; omega)), Bool.eq_iff_iff, decide_eq_true_eq]; simp only []; generalize blk wh ww = bb at *; cases bb <;> simp_all <;> omega)
end Go.Proofs.YthaodmobcbccaaaDoor
