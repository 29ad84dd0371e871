/- TasksTell, TasksAsk: the walks. -/
import Derived.Test.YthaodmobcbccaaaDoorLv
import Derived.Deep.RegionHeld3
set_option linter.unusedVariables false
set_option linter.unusedSimpArgs false
namespace Go.Proofs.YthaodmobcbccaaaDoor
open Go.RowKit Go.Shelf
attribute [local go_sem] Oper.semAt_some

theorem gup {n : Nat} {w1 w2 w3 : World} (h : Below n w1 w2) (hl : n ≤ w1.heap.size) (hb : Below w2.heap.size w2 w3) : Below n w1 w3 := h.trans (hb.mono (Nat.le_trans hl h.size))

set_option maxHeartbeats 4000000 in
set_option maxRecDepth 20000 in
theorem tell_c (w : World) (t : Tk) (hwf : TkWf t) (ht : Tb w.heap.size w) :
    Calls Tryd.prog 3 #[.agg t.cells] w fun e w' => e = .returned (.bool true) ∧ Below w.heap.size w w' := by
  have TB := Lib.hid ht
  have HC := Lib.hid (fun w => check_c w t)
  have HR := Lib.hid (fun w => ref_check_c w t)
  have HT := Lib.hid (fun B0 w hB ht => text_c B0 w t hwf hB ht)
  have HU := Lib.hid (fun w => ref_text_c w t hwf)
  generalize chk t = ck at *
  generalize text t = tx at *
  clear ht hwf
  obtain ⟨h, st, hd, ba, ra, wh, wH, wV, wM, ww, lf, an, la, va⟩ := t
  unfold Tk.cells at *
  simp only at *
  go_enter Tryd.func3, Tryd.ntmps3
  go_wp2
  have G := Lib.hid (Below.refl (w.heap.size + 1) (w.alloc (.cells #[.int .u32 h, .int .u8 st, .bool hd, .int .i64 ba, .int .i64 ra, .int .u8 wh, .int .u32 wH, .int .u32 wV, .int .u32 wM, .int .i64 ww, .int .i64 lf, .int .i64 an, .int .i64 la, .int .u32 va] 29)))
  have GL := Lib.hid (show w.heap.size + 1 ≤ (w.alloc (.cells #[.int .u32 h, .int .u8 st, .bool hd, .int .i64 ba, .int .i64 ra, .int .u8 wh, .int .u32 wH, .int .u32 wV, .int .u32 wM, .int .i64 ww, .int .i64 lf, .int .i64 an, .int .i64 la, .int .u32 va] 29)).heap.size by rw [sz]; exact Nat.le_refl _)
  have WB := Lib.hid (box_below w (.cells #[.int .u32 h, .int .u8 st, .bool hd, .int .i64 ba, .int .i64 ra, .int .u8 wh, .int .u32 wH, .int .u32 wV, .int .u32 wM, .int .i64 ww, .int .i64 lf, .int .i64 an, .int .i64 la, .int .u32 va] 29))
  have KP := Lib.hid (show ∀ x, Below (w.heap.size + 1) (w.alloc (.cells #[.int .u32 h, .int .u8 st, .bool hd, .int .i64 ba, .int .i64 ra, .int .u8 wh, .int .u32 wH, .int .u32 wV, .int .u32 wM, .int .i64 ww, .int .i64 lf, .int .i64 an, .int .i64 la, .int .u32 va] 29)) x → ∀ o, x.cell? ⟨w.heap.size, o, none⟩ = (#[.int .u32 h, .int .u8 st, .bool hd, .int .i64 ba, .int .i64 ra, .int .u8 wh, .int .u32 wH, .int .u32 wV, .int .u32 wM, .int .i64 ww, .int .i64 lf, .int .i64 an, .int .i64 la, .int .u32 va] : Array Value)[o]? from fun x hx o => by rw [hx.cell (p := ⟨w.heap.size, o, none⟩) (Nat.lt_succ_self _), box_cell])
  have k0 := box_cell w #[.int .u32 h, .int .u8 st, .bool hd, .int .i64 ba, .int .i64 ra, .int .u8 wh, .int .u32 wH, .int .u32 wV, .int .u32 wM, .int .i64 ww, .int .i64 lf, .int .i64 an, .int .i64 la, .int .u32 va] 29 0
  have k1 := box_cell w #[.int .u32 h, .int .u8 st, .bool hd, .int .i64 ba, .int .i64 ra, .int .u8 wh, .int .u32 wH, .int .u32 wV, .int .u32 wM, .int .i64 ww, .int .i64 lf, .int .i64 an, .int .i64 la, .int .u32 va] 29 1
  have k2 := box_cell w #[.int .u32 h, .int .u8 st, .bool hd, .int .i64 ba, .int .i64 ra, .int .u8 wh, .int .u32 wH, .int .u32 wV, .int .u32 wM, .int .i64 ww, .int .i64 lf, .int .i64 an, .int .i64 la, .int .u32 va] 29 2
  have k3 := box_cell w #[.int .u32 h, .int .u8 st, .bool hd, .int .i64 ba, .int .i64 ra, .int .u8 wh, .int .u32 wH, .int .u32 wV, .int .u32 wM, .int .i64 ww, .int .i64 lf, .int .i64 an, .int .i64 la, .int .u32 va] 29 3
  have k4 := box_cell w #[.int .u32 h, .int .u8 st, .bool hd, .int .i64 ba, .int .i64 ra, .int .u8 wh, .int .u32 wH, .int .u32 wV, .int .u32 wM, .int .i64 ww, .int .i64 lf, .int .i64 an, .int .i64 la, .int .u32 va] 29 4
  have k5 := box_cell w #[.int .u32 h, .int .u8 st, .bool hd, .int .i64 ba, .int .i64 ra, .int .u8 wh, .int .u32 wH, .int .u32 wV, .int .u32 wM, .int .i64 ww, .int .i64 lf, .int .i64 an, .int .i64 la, .int .u32 va] 29 5
  have k6 := box_cell w #[.int .u32 h, .int .u8 st, .bool hd, .int .i64 ba, .int .i64 ra, .int .u8 wh, .int .u32 wH, .int .u32 wV, .int .u32 wM, .int .i64 ww, .int .i64 lf, .int .i64 an, .int .i64 la, .int .u32 va] 29 6
  have k7 := box_cell w #[.int .u32 h, .int .u8 st, .bool hd, .int .i64 ba, .int .i64 ra, .int .u8 wh, .int .u32 wH, .int .u32 wV, .int .u32 wM, .int .i64 ww, .int .i64 lf, .int .i64 an, .int .i64 la, .int .u32 va] 29 7
  have k8 := box_cell w #[.int .u32 h, .int .u8 st, .bool hd, .int .i64 ba, .int .i64 ra, .int .u8 wh, .int .u32 wH, .int .u32 wV, .int .u32 wM, .int .i64 ww, .int .i64 lf, .int .i64 an, .int .i64 la, .int .u32 va] 29 8
  have k9 := box_cell w #[.int .u32 h, .int .u8 st, .bool hd, .int .i64 ba, .int .i64 ra, .int .u8 wh, .int .u32 wH, .int .u32 wV, .int .u32 wM, .int .i64 ww, .int .i64 lf, .int .i64 an, .int .i64 la, .int .u32 va] 29 9
  have k10 := box_cell w #[.int .u32 h, .int .u8 st, .bool hd, .int .i64 ba, .int .i64 ra, .int .u8 wh, .int .u32 wH, .int .u32 wV, .int .u32 wM, .int .i64 ww, .int .i64 lf, .int .i64 an, .int .i64 la, .int .u32 va] 29 10
  have k11 := box_cell w #[.int .u32 h, .int .u8 st, .bool hd, .int .i64 ba, .int .i64 ra, .int .u8 wh, .int .u32 wH, .int .u32 wV, .int .u32 wM, .int .i64 ww, .int .i64 lf, .int .i64 an, .int .i64 la, .int .u32 va] 29 11
  have k12 := box_cell w #[.int .u32 h, .int .u8 st, .bool hd, .int .i64 ba, .int .i64 ra, .int .u8 wh, .int .u32 wH, .int .u32 wV, .int .u32 wM, .int .i64 ww, .int .i64 lf, .int .i64 an, .int .i64 la, .int .u32 va] 29 12
  have k13 := box_cell w #[.int .u32 h, .int .u8 st, .bool hd, .int .i64 ba, .int .i64 ra, .int .u8 wh, .int .u32 wH, .int .u32 wV, .int .u32 wM, .int .i64 ww, .int .i64 lf, .int .i64 an, .int .i64 la, .int .u32 va] 29 13
  simp only [List.size_toArray, List.getElem?_toArray, List.getElem?_cons_zero, List.getElem?_cons_succ] at k0 k1 k2 k3 k4 k5 k6 k7 k8 k9 k10 k11 k12 k13
  generalize (w.alloc (.cells #[.int .u32 h, .int .u8 st, .bool hd, .int .i64 ba, .int .i64 ra, .int .u8 wh, .int .u32 wH, .int .u32 wV, .int .u32 wM, .int .i64 ww, .int .i64 lf, .int .i64 an, .int .i64 la, .int .u32 va] 29)) = w1 at *
  have TB1 := Lib.hid (show ∀ x, Below (w.heap.size + 1) w1 x → Tb w.heap.size x from fun x hx => TB.out.on (WB.out.trans (hx.mono (Nat.le_succ _))))
  have LE := Lib.hid (show ∀ x, Below (w.heap.size + 1) w1 x → w.heap.size ≤ x.heap.size from fun x hx => Nat.le_of_succ_le (Nat.le_trans GL.out hx.size))
  have cc : (ck == ck) = true := by cases ck <;> rfl
  go_region_held3 (fun x => x.cell? ⟨w.heap.size, 0, none⟩ = some (.int .u32 h) ∧ x.cell? ⟨w.heap.size, 1, none⟩ = some (.int .u8 st) ∧ x.cell? ⟨w.heap.size, 2, none⟩ = some (.bool hd) ∧ x.cell? ⟨w.heap.size, 3, none⟩ = some (.int .i64 ba) ∧ x.cell? ⟨w.heap.size, 4, none⟩ = some (.int .i64 ra) ∧ x.cell? ⟨w.heap.size, 5, none⟩ = some (.int .u8 wh) ∧ x.cell? ⟨w.heap.size, 6, none⟩ = some (.int .u32 wH) ∧ x.cell? ⟨w.heap.size, 7, none⟩ = some (.int .u32 wV) ∧ x.cell? ⟨w.heap.size, 8, none⟩ = some (.int .u32 wM) ∧ x.cell? ⟨w.heap.size, 9, none⟩ = some (.int .i64 ww) ∧ x.cell? ⟨w.heap.size, 10, none⟩ = some (.int .i64 lf) ∧ x.cell? ⟨w.heap.size, 11, none⟩ = some (.int .i64 an) ∧ x.cell? ⟨w.heap.size, 12, none⟩ = some (.int .i64 la) ∧ x.cell? ⟨w.heap.size, 13, none⟩ = some (.int .u32 va)) (first | exact ⟨k0, k1, k2, k3, k4, k5, k6, k7, k8, k9, k10, k11, k12, k13⟩)
    (first | (go_at_call 7; refine (HC.out _).mono ?_; rintro e w' ⟨rfl, hb⟩; replace G := Lib.hid (gup (by first | exact G.out | exact G.out.drew | exact G.out.drew.drew | exact G.out.drew.drew.drew | exact G.out.drew.drew.drew.drew | exact G.out.drew.drew.drew.drew.drew | exact G.out.drew.drew.drew.drew.drew.drew) GL.out hb); clear hb; have k0 := KP.out _ G.out 0; have k1 := KP.out _ G.out 1; have k2 := KP.out _ G.out 2; have k3 := KP.out _ G.out 3; have k4 := KP.out _ G.out 4; have k5 := KP.out _ G.out 5; have k6 := KP.out _ G.out 6; have k7 := KP.out _ G.out 7; have k8 := KP.out _ G.out 8; have k9 := KP.out _ G.out 9; have k10 := KP.out _ G.out 10; have k11 := KP.out _ G.out 11; have k12 := KP.out _ G.out 12; have k13 := KP.out _ G.out 13) | (go_at_call 8; refine (HR.out _).mono ?_; rintro e w' ⟨rfl, hb⟩; replace G := Lib.hid (gup (by first | exact G.out | exact G.out.drew | exact G.out.drew.drew | exact G.out.drew.drew.drew | exact G.out.drew.drew.drew.drew | exact G.out.drew.drew.drew.drew.drew | exact G.out.drew.drew.drew.drew.drew.drew) GL.out hb); clear hb; have k0 := KP.out _ G.out 0; have k1 := KP.out _ G.out 1; have k2 := KP.out _ G.out 2; have k3 := KP.out _ G.out 3; have k4 := KP.out _ G.out 4; have k5 := KP.out _ G.out 5; have k6 := KP.out _ G.out 6; have k7 := KP.out _ G.out 7; have k8 := KP.out _ G.out 8; have k9 := KP.out _ G.out 9; have k10 := KP.out _ G.out 10; have k11 := KP.out _ G.out 11; have k12 := KP.out _ G.out 12; have k13 := KP.out _ G.out 13) | (go_at_call 9; refine (HT.out w.heap.size _ (LE.out _ (by first | exact G.out | exact G.out.drew | exact G.out.drew.drew | exact G.out.drew.drew.drew | exact G.out.drew.drew.drew.drew)) (TB1.out _ (by first | exact G.out | exact G.out.drew | exact G.out.drew.drew | exact G.out.drew.drew.drew | exact G.out.drew.drew.drew.drew))).mono ?_; rintro e w' ⟨rfl, hb⟩; replace G := Lib.hid (gup (by first | exact G.out | exact G.out.drew | exact G.out.drew.drew | exact G.out.drew.drew.drew | exact G.out.drew.drew.drew.drew | exact G.out.drew.drew.drew.drew.drew | exact G.out.drew.drew.drew.drew.drew.drew) GL.out hb); clear hb; have k0 := KP.out _ G.out 0; have k1 := KP.out _ G.out 1; have k2 := KP.out _ G.out 2; have k3 := KP.out _ G.out 3; have k4 := KP.out _ G.out 4; have k5 := KP.out _ G.out 5; have k6 := KP.out _ G.out 6; have k7 := KP.out _ G.out 7; have k8 := KP.out _ G.out 8; have k9 := KP.out _ G.out 9; have k10 := KP.out _ G.out 10; have k11 := KP.out _ G.out 11; have k12 := KP.out _ G.out 12; have k13 := KP.out _ G.out 13) | (go_at_call 10; refine (HU.out _).mono ?_; rintro e w' ⟨rfl, hb⟩; replace G := Lib.hid (gup (by first | exact G.out | exact G.out.drew | exact G.out.drew.drew | exact G.out.drew.drew.drew | exact G.out.drew.drew.drew.drew | exact G.out.drew.drew.drew.drew.drew | exact G.out.drew.drew.drew.drew.drew.drew) GL.out hb); clear hb; have k0 := KP.out _ G.out 0; have k1 := KP.out _ G.out 1; have k2 := KP.out _ G.out 2; have k3 := KP.out _ G.out 3; have k4 := KP.out _ G.out 4; have k5 := KP.out _ G.out 5; have k6 := KP.out _ G.out 6; have k7 := KP.out _ G.out 7; have k8 := KP.out _ G.out 8; have k9 := KP.out _ G.out 9; have k10 := KP.out _ G.out 10; have k11 := KP.out _ G.out 11; have k12 := KP.out _ G.out 12; have k13 := KP.out _ G.out 13) | (go_at_call 11; refine (lives_c w.heap.size _ (LE.out _ (by first | exact G.out | exact G.out.drew | exact G.out.drew.drew | exact G.out.drew.drew.drew | exact G.out.drew.drew.drew.drew)) (TB1.out _ (by first | exact G.out | exact G.out.drew | exact G.out.drew.drew | exact G.out.drew.drew.drew | exact G.out.drew.drew.drew.drew))).mono ?_; rintro e w' ⟨rfl, hb⟩; replace G := Lib.hid (gup (by first | exact G.out | exact G.out.drew | exact G.out.drew.drew | exact G.out.drew.drew.drew | exact G.out.drew.drew.drew.drew | exact G.out.drew.drew.drew.drew.drew | exact G.out.drew.drew.drew.drew.drew.drew) GL.out hb); clear hb; have k0 := KP.out _ G.out 0; have k1 := KP.out _ G.out 1; have k2 := KP.out _ G.out 2; have k3 := KP.out _ G.out 3; have k4 := KP.out _ G.out 4; have k5 := KP.out _ G.out 5; have k6 := KP.out _ G.out 6; have k7 := KP.out _ G.out 7; have k8 := KP.out _ G.out 8; have k9 := KP.out _ G.out 9; have k10 := KP.out _ G.out 10; have k11 := KP.out _ G.out 11; have k12 := KP.out _ G.out 12; have k13 := KP.out _ G.out 13))
  go_wp2
  go_ret
  exact ⟨rfl, WB.out.trans (Below.mono (by first | exact G.out | exact G.out.drew | exact G.out.drew.drew | exact G.out.drew.drew.drew | exact G.out.drew.drew.drew.drew | exact G.out.drew.drew.drew.drew.drew) (Nat.le_succ _))⟩

set_option maxHeartbeats 4000000 in
set_option maxRecDepth 20000 in
theorem ask_c (w : World) (wh wH wV wM ww : Int) (k : Nat) (ht : Tb w.heap.size w) :
    Calls Tryd.prog 5 #[.agg #[.int .u8 wh, .int .u32 wH, .int .u32 wV, .int .u32 wM, .int .i64 ww], .int .u8 k] w fun e w' => e = .returned (.bool true) ∧ Below w.heap.size w w' := by
  have TB := Lib.hid ht
  have HC := Lib.hid (fun w => blocks_c w wh wH wV wM ww)
  have HR := Lib.hid (fun w => ref_blocks_c w wh wH wV wM ww)
  have HT := Lib.hid (fun w => fits_c w wh wH wV wM ww k)
  have HU := Lib.hid (fun w => ref_fits_c w wh wH wV wM ww k)
  generalize blk wh ww = ck at *
  generalize fits wh k = tx at *
  clear ht
  go_enter Tryd.func5, Tryd.ntmps5
  go_wp2
  have G := Lib.hid (Below.refl (w.heap.size + 1) (w.alloc (.cells #[.int .u8 wh, .int .u32 wH, .int .u32 wV, .int .u32 wM, .int .i64 ww] 26)))
  have GL := Lib.hid (show w.heap.size + 1 ≤ (w.alloc (.cells #[.int .u8 wh, .int .u32 wH, .int .u32 wV, .int .u32 wM, .int .i64 ww] 26)).heap.size by rw [sz]; exact Nat.le_refl _)
  have WB := Lib.hid (box_below w (.cells #[.int .u8 wh, .int .u32 wH, .int .u32 wV, .int .u32 wM, .int .i64 ww] 26))
  have KP := Lib.hid (show ∀ x, Below (w.heap.size + 1) (w.alloc (.cells #[.int .u8 wh, .int .u32 wH, .int .u32 wV, .int .u32 wM, .int .i64 ww] 26)) x → ∀ o, x.cell? ⟨w.heap.size, o, none⟩ = (#[.int .u8 wh, .int .u32 wH, .int .u32 wV, .int .u32 wM, .int .i64 ww] : Array Value)[o]? from fun x hx o => by rw [hx.cell (p := ⟨w.heap.size, o, none⟩) (Nat.lt_succ_self _), box_cell])
  have k0 := box_cell w #[.int .u8 wh, .int .u32 wH, .int .u32 wV, .int .u32 wM, .int .i64 ww] 26 0
  have k1 := box_cell w #[.int .u8 wh, .int .u32 wH, .int .u32 wV, .int .u32 wM, .int .i64 ww] 26 1
  have k2 := box_cell w #[.int .u8 wh, .int .u32 wH, .int .u32 wV, .int .u32 wM, .int .i64 ww] 26 2
  have k3 := box_cell w #[.int .u8 wh, .int .u32 wH, .int .u32 wV, .int .u32 wM, .int .i64 ww] 26 3
  have k4 := box_cell w #[.int .u8 wh, .int .u32 wH, .int .u32 wV, .int .u32 wM, .int .i64 ww] 26 4
  simp only [List.size_toArray, List.getElem?_toArray, List.getElem?_cons_zero, List.getElem?_cons_succ] at k0 k1 k2 k3 k4
  generalize (w.alloc (.cells #[.int .u8 wh, .int .u32 wH, .int .u32 wV, .int .u32 wM, .int .i64 ww] 26)) = w1 at *
  have TB1 := Lib.hid (show ∀ x, Below (w.heap.size + 1) w1 x → Tb w.heap.size x from fun x hx => TB.out.on (WB.out.trans (hx.mono (Nat.le_succ _))))
  have LE := Lib.hid (show ∀ x, Below (w.heap.size + 1) w1 x → w.heap.size ≤ x.heap.size from fun x hx => Nat.le_of_succ_le (Nat.le_trans GL.out hx.size))
  have cc : (ck == ck) = true := by cases ck <;> rfl
  have ct : (tx == tx) = true := by cases tx <;> rfl
  go_region_held3 (fun x => x.cell? ⟨w.heap.size, 0, none⟩ = some (.int .u8 wh) ∧ x.cell? ⟨w.heap.size, 1, none⟩ = some (.int .u32 wH) ∧ x.cell? ⟨w.heap.size, 2, none⟩ = some (.int .u32 wV) ∧ x.cell? ⟨w.heap.size, 3, none⟩ = some (.int .u32 wM) ∧ x.cell? ⟨w.heap.size, 4, none⟩ = some (.int .i64 ww)) (first | exact ⟨k0, k1, k2, k3, k4⟩)
    (first | (go_at_call 13; refine (HC.out _).mono ?_; rintro e w' ⟨rfl, hb⟩; replace G := Lib.hid (gup (by first | exact G.out | exact G.out.drew | exact G.out.drew.drew | exact G.out.drew.drew.drew | exact G.out.drew.drew.drew.drew | exact G.out.drew.drew.drew.drew.drew | exact G.out.drew.drew.drew.drew.drew.drew) GL.out hb); clear hb; have k0 := KP.out _ G.out 0; have k1 := KP.out _ G.out 1; have k2 := KP.out _ G.out 2; have k3 := KP.out _ G.out 3; have k4 := KP.out _ G.out 4) | (go_at_call 14; refine (HR.out _).mono ?_; rintro e w' ⟨rfl, hb⟩; replace G := Lib.hid (gup (by first | exact G.out | exact G.out.drew | exact G.out.drew.drew | exact G.out.drew.drew.drew | exact G.out.drew.drew.drew.drew | exact G.out.drew.drew.drew.drew.drew | exact G.out.drew.drew.drew.drew.drew.drew) GL.out hb); clear hb; have k0 := KP.out _ G.out 0; have k1 := KP.out _ G.out 1; have k2 := KP.out _ G.out 2; have k3 := KP.out _ G.out 3; have k4 := KP.out _ G.out 4) | (go_at_call 15; refine (HT.out _).mono ?_; rintro e w' ⟨rfl, hb⟩; replace G := Lib.hid (gup (by first | exact G.out | exact G.out.drew | exact G.out.drew.drew | exact G.out.drew.drew.drew | exact G.out.drew.drew.drew.drew | exact G.out.drew.drew.drew.drew.drew | exact G.out.drew.drew.drew.drew.drew.drew) GL.out hb); clear hb; have k0 := KP.out _ G.out 0; have k1 := KP.out _ G.out 1; have k2 := KP.out _ G.out 2; have k3 := KP.out _ G.out 3; have k4 := KP.out _ G.out 4) | (go_at_call 16; refine (HU.out _).mono ?_; rintro e w' ⟨rfl, hb⟩; replace G := Lib.hid (gup (by first | exact G.out | exact G.out.drew | exact G.out.drew.drew | exact G.out.drew.drew.drew | exact G.out.drew.drew.drew.drew | exact G.out.drew.drew.drew.drew.drew | exact G.out.drew.drew.drew.drew.drew.drew) GL.out hb); clear hb; have k0 := KP.out _ G.out 0; have k1 := KP.out _ G.out 1; have k2 := KP.out _ G.out 2; have k3 := KP.out _ G.out 3; have k4 := KP.out _ G.out 4) | (go_at_call 11; refine (lives_c w.heap.size _ (LE.out _ (by first | exact G.out | exact G.out.drew | exact G.out.drew.drew | exact G.out.drew.drew.drew | exact G.out.drew.drew.drew.drew | exact G.out.drew.drew.drew.drew.drew)) (TB1.out _ (by first | exact G.out | exact G.out.drew | exact G.out.drew.drew | exact G.out.drew.drew.drew | exact G.out.drew.drew.drew.drew | exact G.out.drew.drew.drew.drew.drew))).mono ?_; rintro e w' ⟨rfl, hb⟩; replace G := Lib.hid (gup (by first | exact G.out | exact G.out.drew | exact G.out.drew.drew | exact G.out.drew.drew.drew | exact G.out.drew.drew.drew.drew | exact G.out.drew.drew.drew.drew.drew | exact G.out.drew.drew.drew.drew.drew.drew) GL.out hb); clear hb; have k0 := KP.out _ G.out 0; have k1 := KP.out _ G.out 1; have k2 := KP.out _ G.out 2; have k3 := KP.out _ G.out 3; have k4 := KP.out _ G.out 4))
  go_wp2
  go_ret
  exact ⟨rfl, WB.out.trans (Below.mono (by first | exact G.out | exact G.out.drew | exact G.out.drew.drew | exact G.out.drew.drew.drew | exact G.out.drew.drew.drew.drew | exact G.out.drew.drew.drew.drew.drew) (Nat.le_succ _))⟩
end Go.Proofs.YthaodmobcbccaaaDoor
