/- A task as a line: the document's answer. -/
import Derived.Test.YthaodmobcbccaaaDoorKd
set_option linter.unusedVariables false
set_option linter.unusedSimpArgs false
namespace Go.Proofs.YthaodmobcbccaaaDoor
open Go.RowKit
attribute [local go_sem] Oper.semAt_some

/-- What a state is called. -/
def sw (st : Int) : List UInt8 := if st = 1 then [32, 114, 101, 97, 100, 121] else if st = 2 then [32, 119, 97, 105, 116, 115] else [32, 102, 97, 117, 108, 116]
def hw (hd : Bool) : List UInt8 := if hd then [32, 104, 101, 108, 100] else [32, 45]
def num (n : Int) : List UInt8 := 32 :: Lib.itoa n
def mid (t : Tk) : List UInt8 := if t.st = 2 then num t.wh ++ num t.wH ++ num t.wV ++ num t.wM ++ num t.lf else [32, 45]
/-- A task as a line. -/
def txt (t : Tk) : List UInt8 := Lib.itoa t.h ++ sw t.st ++ hw t.hd ++ num t.ba ++ num t.ra ++ mid t ++ num t.an ++ num t.la ++ num t.va
def text (t : Tk) : List UInt8 := if chk t then txt t else []

structure TkWf (t : Tk) : Prop where
  h : (Lit.int .u32 t.h).wf = true
  st : (Lit.int .u8 t.st).wf = true
  ba : (Lit.int .i64 t.ba).wf = true
  ra : (Lit.int .i64 t.ra).wf = true
  wh : (Lit.int .u8 t.wh).wf = true
  wH : (Lit.int .u32 t.wH).wf = true
  wV : (Lit.int .u32 t.wV).wf = true
  wM : (Lit.int .u32 t.wM).wf = true
  ww : (Lit.int .i64 t.ww).wf = true
  lf : (Lit.int .i64 t.lf).wf = true
  an : (Lit.int .i64 t.an).wf = true
  la : (Lit.int .i64 t.la).wf = true
  va : (Lit.int .u32 t.va).wf = true
theorem wfi64 {x : Int} (h : (Lit.int .i64 x).wf = true) : -9223372036854775808 ≤ x ∧ x < 9223372036854775808 := by
  have h2 : (decide (IntKind.i64.min ≤ x) && decide (x ≤ IntKind.i64.max)) = true := h
  have e1 : IntKind.i64.min = -9223372036854775808 := by decide
  have e2 : IntKind.i64.max = 9223372036854775807 := by decide
  rw [e1, e2] at h2
  simp only [Bool.and_eq_true, decide_eq_true_eq] at h2
  omega
theorem wfu32 {x : Int} (h : (Lit.int .u32 x).wf = true) : 0 ≤ x ∧ x < 4294967296 := by
  have h2 : (decide (IntKind.u32.min ≤ x) && decide (x ≤ IntKind.u32.max)) = true := h
  have e1 : IntKind.u32.min = 0 := by decide
  have e2 : IntKind.u32.max = 4294967295 := by decide
  rw [e1, e2] at h2
  simp only [Bool.and_eq_true, decide_eq_true_eq] at h2
  omega
theorem wfu8 {x : Int} (h : (Lit.int .u8 x).wf = true) : 0 ≤ x ∧ x < 256 := by
  have h2 : (decide (IntKind.u8.min ≤ x) && decide (x ≤ IntKind.u8.max)) = true := h
  have e1 : IntKind.u8.min = 0 := by decide
  have e2 : IntKind.u8.max = 255 := by decide
  rw [e1, e2] at h2
  simp only [Bool.and_eq_true, decide_eq_true_eq] at h2
  omega
theorem chk_st {t : Tk} (h : chk t = true) : t.st = 1 ∨ t.st = 2 ∨ t.st = 3 := by
  unfold chk at h
  split at h
  · cases h
  · split at h
    · omega
    · split at h
      · omega
      · cases h
theorem itoa_le {x : Int} (h : -9223372036854775808 ≤ x ∧ x < 9223372036854775808) : (Lib.itoa x).length ≤ 21 := Lib.itoa_length_le x h.1 (by omega)
theorem wrap_of {x : Int} (h : -9223372036854775808 ≤ x ∧ x < 9223372036854775808) : IntKind.i64.wrap x = x := by rw [IntKind.wrap_i64]; omega

/-- A number, and its digits. -/
structure Dig (x : Int) (d : List UInt8) : Prop where
  c : ∀ w, Calls Tryd.prog 20 #[.int .i64 x] w fun e w' => e = .returned (str d) ∧ w = w'
  e : Lib.itoa x = d
theorem digs {x : Int} (hx : -9223372036854775808 ≤ x ∧ x < 9223372036854775808) : ∃ d : List UInt8, d.length ≤ 21 ∧ Dig x d :=
  ⟨_, itoa_le hx, fun w => digits_c w x hx.1 hx.2, rfl⟩
theorem dig_quiet {x : Int} {d : List UInt8} (h : Dig x d) {w : World} {n : Nat} : Calls Tryd.prog 20 #[.int .i64 x] (w.drewN n) fun e w'' => e = .returned (str d) ∧ ∃ m, w'' = w.drewN m :=
  (h.c _).mono fun _ _ k => ⟨k.1, n, k.2.symm⟩
theorem i64_of32 {x : Int} (h : (Lit.int .u32 x).wf = true) : -9223372036854775808 ≤ x ∧ x < 9223372036854775808 := by have := wfu32 h; omega
theorem i64_of8 {x : Int} (h : (Lit.int .u8 x).wf = true) : -9223372036854775808 ≤ x ∧ x < 9223372036854775808 := by have := wfu8 h; omega

set_option maxHeartbeats 8000000 in
set_option maxRecDepth 20000 in
theorem ref_text_c (w : World) (t : Tk) (hwf : TkWf t) :
    Calls Tryd.prog 10 #[.agg t.cells] w fun e w' => e = .returned (str (text t)) ∧ Below w.heap.size w w' := by
  have HT := Lib.hid (show text t = if chk t then txt t else [] from rfl)
  have HX := Lib.hid (show txt t = Lib.itoa t.h ++ sw t.st ++ hw t.hd ++ num t.ba ++ num t.ra ++ mid t ++ num t.an ++ num t.la ++ num t.va from rfl)
  have HM := Lib.hid (show mid t = if t.st = 2 then num t.wh ++ num t.wH ++ num t.wV ++ num t.wM ++ num t.lf else [32, 45] from rfl)
  have hck := Lib.hid (fun w => ref_check_c w t)
  have hst := @chk_st t
  have c_h := wrap_of (i64_of32 hwf.h)
  obtain ⟨d_h, l_h, D_h⟩ := digs (i64_of32 hwf.h)
  obtain ⟨d_ba, l_ba, D_ba⟩ := digs (wfi64 hwf.ba)
  obtain ⟨d_ra, l_ra, D_ra⟩ := digs (wfi64 hwf.ra)
  have c_wh := wrap_of (i64_of8 hwf.wh)
  obtain ⟨d_wh, l_wh, D_wh⟩ := digs (i64_of8 hwf.wh)
  have c_wH := wrap_of (i64_of32 hwf.wH)
  obtain ⟨d_wH, l_wH, D_wH⟩ := digs (i64_of32 hwf.wH)
  have c_wV := wrap_of (i64_of32 hwf.wV)
  obtain ⟨d_wV, l_wV, D_wV⟩ := digs (i64_of32 hwf.wV)
  have c_wM := wrap_of (i64_of32 hwf.wM)
  obtain ⟨d_wM, l_wM, D_wM⟩ := digs (i64_of32 hwf.wM)
  obtain ⟨d_lf, l_lf, D_lf⟩ := digs (wfi64 hwf.lf)
  obtain ⟨d_an, l_an, D_an⟩ := digs (wfi64 hwf.an)
  obtain ⟨d_la, l_la, D_la⟩ := digs (wfi64 hwf.la)
  have c_va := wrap_of (i64_of32 hwf.va)
  obtain ⟨d_va, l_va, D_va⟩ := digs (i64_of32 hwf.va)
  clear hwf
  generalize text t = TX at *
  generalize txt t = TY at *
  generalize mid t = TM at *
  obtain ⟨h, st, hd, ba, ra, wh, wH, wV, wM, ww, lf, an, la, va⟩ := t
  unfold Tk.cells at *
  simp only at *
  generalize chk _ = ck at *
  go_enter Tryd.func10, Tryd.ntmps10
  go_wp2_with fail
  refine (hck.out _).mono ?_; rintro e w2 ⟨rfl, hb⟩
  have hbw := box_then hb
  cases ck with
  | false =>
    go_wp2
    go_ret
    exact ⟨by rw [HT.out]; rfl, hbw⟩
  | true =>
    have k0 := box_kept hb 0
    have k1 := box_kept hb 1
    have k2 := box_kept hb 2
    have k3 := box_kept hb 3
    have k4 := box_kept hb 4
    have k5 := box_kept hb 5
    have k6 := box_kept hb 6
    have k7 := box_kept hb 7
    have k8 := box_kept hb 8
    have k9 := box_kept hb 9
    have k10 := box_kept hb 10
    have k11 := box_kept hb 11
    have k12 := box_kept hb 12
    have k13 := box_kept hb 13
    simp at k0 k1 k2 k3 k4 k5 k6 k7 k8 k9 k10 k11 k12 k13
    have hs3 := Lib.hid (hst rfl)
    clear hst
    clear hb hck
    go_wp2_with fail
    refine (D_h.c _).mono ?_; rintro e w3 ⟨rfl, rfl⟩
    have q1 : ¬ 9223372036854775807 < d_h.length + 6 := by omega
    have q2 : ¬ 9223372036854775807 < d_h.length + 6 + 2 := by omega
    have q3 : ¬ 9223372036854775807 < d_h.length + 6 + 5 := by omega
    rcases hs3.out with rfl | rfl | rfl
    · cases hd with
      | false =>
        go_wp2
        rw [cat_str, cat_str]
        obtain ⟨S, hS, lS⟩ : ∃ X : List UInt8, X = d_h ++ [32, 114, 101, 97, 100, 121] ++ [32, 45] ∧ X.length ≤ 40 := ⟨_, rfl, by simp; omega⟩
        rw [← hS]
        have HS := Lib.hid hS
        clear hS
        have r0 : ¬ 9223372036854775807 < S.length + 1 := by omega
        have r1 : ¬ 9223372036854775807 < S.length + 1 + d_ba.length := by omega
        have r2 : ¬ 9223372036854775807 < S.length + 1 + d_ba.length + 1 := by omega
        have r3 : ¬ 9223372036854775807 < S.length + 1 + d_ba.length + 1 + d_ra.length := by omega
        have r9 : ¬ 9223372036854775807 < S.length + 1 + d_ba.length + 1 + d_ra.length + 2 := by omega
        go_quiet (first | (go_at_call 20; apply dig_quiet; assumption))
        obtain ⟨w3, hw3⟩ : ∃ x, x = w2.drewN nq := ⟨_, rfl⟩
        have k1 : w3.cell? ⟨w.heap.size, 1, none⟩ = _ := (congrArg (fun x => World.cell? x ⟨w.heap.size, 1, none⟩) hw3).trans k1
        have k5 : w3.cell? ⟨w.heap.size, 5, none⟩ = _ := (congrArg (fun x => World.cell? x ⟨w.heap.size, 5, none⟩) hw3).trans k5
        have k6 : w3.cell? ⟨w.heap.size, 6, none⟩ = _ := (congrArg (fun x => World.cell? x ⟨w.heap.size, 6, none⟩) hw3).trans k6
        have k7 : w3.cell? ⟨w.heap.size, 7, none⟩ = _ := (congrArg (fun x => World.cell? x ⟨w.heap.size, 7, none⟩) hw3).trans k7
        have k8 : w3.cell? ⟨w.heap.size, 8, none⟩ = _ := (congrArg (fun x => World.cell? x ⟨w.heap.size, 8, none⟩) hw3).trans k8
        have k10 : w3.cell? ⟨w.heap.size, 10, none⟩ = _ := (congrArg (fun x => World.cell? x ⟨w.heap.size, 10, none⟩) hw3).trans k10
        have k11 : w3.cell? ⟨w.heap.size, 11, none⟩ = _ := (congrArg (fun x => World.cell? x ⟨w.heap.size, 11, none⟩) hw3).trans k11
        have k12 : w3.cell? ⟨w.heap.size, 12, none⟩ = _ := (congrArg (fun x => World.cell? x ⟨w.heap.size, 12, none⟩) hw3).trans k12
        have k13 : w3.cell? ⟨w.heap.size, 13, none⟩ = _ := (congrArg (fun x => World.cell? x ⟨w.heap.size, 13, none⟩) hw3).trans k13
        have hbw : Below w.heap.size w w3 := by rw [hw3]; exact hbw.drewN _
        rw [← hw3]
        clear hw3
        go_wp2
        rw [cat_str, cat_str, cat_str, cat_str, cat_str]
        obtain ⟨S2, hS2, lS2⟩ : ∃ X : List UInt8, X = S ++ [32] ++ d_ba ++ [32] ++ d_ra ++ [32, 45] ∧ X.length ≤ 100 := ⟨_, rfl, by simp; omega⟩
        rw [← hS2]
        have HS2 := Lib.hid hS2
        clear hS2
        have t0 : ¬ 9223372036854775807 < S2.length + 1 := by omega
        have t1 : ¬ 9223372036854775807 < S2.length + 1 + d_an.length := by omega
        have t2 : ¬ 9223372036854775807 < S2.length + 1 + d_an.length + 1 := by omega
        have t3 : ¬ 9223372036854775807 < S2.length + 1 + d_an.length + 1 + d_la.length := by omega
        have t4 : ¬ 9223372036854775807 < S2.length + 1 + d_an.length + 1 + d_la.length + 1 := by omega
        have t5 : ¬ 9223372036854775807 < S2.length + 1 + d_an.length + 1 + d_la.length + 1 + d_va.length := by omega
        go_quiet (first | (go_at_call 20; apply dig_quiet; assumption))
        go_wp2
        rw [cat_str, cat_str, cat_str, cat_str, cat_str, cat_str]
        go_ret
        refine ⟨congrArg (fun b => Ending.returned (str b)) ?_, hbw.drewN _⟩
        simp only [HT.out, if_true, HS2.out, HS.out, HX.out, HM.out]
        simp [num, sw, hw, D_h.e, D_ba.e, D_ra.e, D_an.e, D_la.e, D_va.e, D_wh.e, D_wH.e, D_wV.e, D_wM.e, D_lf.e]
      | true =>
        go_wp2
        rw [cat_str, cat_str]
        obtain ⟨S, hS, lS⟩ : ∃ X : List UInt8, X = d_h ++ [32, 114, 101, 97, 100, 121] ++ [32, 104, 101, 108, 100] ∧ X.length ≤ 40 := ⟨_, rfl, by simp; omega⟩
        rw [← hS]
        have HS := Lib.hid hS
        clear hS
        have r0 : ¬ 9223372036854775807 < S.length + 1 := by omega
        have r1 : ¬ 9223372036854775807 < S.length + 1 + d_ba.length := by omega
        have r2 : ¬ 9223372036854775807 < S.length + 1 + d_ba.length + 1 := by omega
        have r3 : ¬ 9223372036854775807 < S.length + 1 + d_ba.length + 1 + d_ra.length := by omega
        have r9 : ¬ 9223372036854775807 < S.length + 1 + d_ba.length + 1 + d_ra.length + 2 := by omega
        go_quiet (first | (go_at_call 20; apply dig_quiet; assumption))
        obtain ⟨w3, hw3⟩ : ∃ x, x = w2.drewN nq := ⟨_, rfl⟩
        have k1 : w3.cell? ⟨w.heap.size, 1, none⟩ = _ := (congrArg (fun x => World.cell? x ⟨w.heap.size, 1, none⟩) hw3).trans k1
        have k5 : w3.cell? ⟨w.heap.size, 5, none⟩ = _ := (congrArg (fun x => World.cell? x ⟨w.heap.size, 5, none⟩) hw3).trans k5
        have k6 : w3.cell? ⟨w.heap.size, 6, none⟩ = _ := (congrArg (fun x => World.cell? x ⟨w.heap.size, 6, none⟩) hw3).trans k6
        have k7 : w3.cell? ⟨w.heap.size, 7, none⟩ = _ := (congrArg (fun x => World.cell? x ⟨w.heap.size, 7, none⟩) hw3).trans k7
        have k8 : w3.cell? ⟨w.heap.size, 8, none⟩ = _ := (congrArg (fun x => World.cell? x ⟨w.heap.size, 8, none⟩) hw3).trans k8
        have k10 : w3.cell? ⟨w.heap.size, 10, none⟩ = _ := (congrArg (fun x => World.cell? x ⟨w.heap.size, 10, none⟩) hw3).trans k10
        have k11 : w3.cell? ⟨w.heap.size, 11, none⟩ = _ := (congrArg (fun x => World.cell? x ⟨w.heap.size, 11, none⟩) hw3).trans k11
        have k12 : w3.cell? ⟨w.heap.size, 12, none⟩ = _ := (congrArg (fun x => World.cell? x ⟨w.heap.size, 12, none⟩) hw3).trans k12
        have k13 : w3.cell? ⟨w.heap.size, 13, none⟩ = _ := (congrArg (fun x => World.cell? x ⟨w.heap.size, 13, none⟩) hw3).trans k13
        have hbw : Below w.heap.size w w3 := by rw [hw3]; exact hbw.drewN _
        rw [← hw3]
        clear hw3
        go_wp2
        rw [cat_str, cat_str, cat_str, cat_str, cat_str]
        obtain ⟨S2, hS2, lS2⟩ : ∃ X : List UInt8, X = S ++ [32] ++ d_ba ++ [32] ++ d_ra ++ [32, 45] ∧ X.length ≤ 100 := ⟨_, rfl, by simp; omega⟩
        rw [← hS2]
        have HS2 := Lib.hid hS2
        clear hS2
        have t0 : ¬ 9223372036854775807 < S2.length + 1 := by omega
        have t1 : ¬ 9223372036854775807 < S2.length + 1 + d_an.length := by omega
        have t2 : ¬ 9223372036854775807 < S2.length + 1 + d_an.length + 1 := by omega
        have t3 : ¬ 9223372036854775807 < S2.length + 1 + d_an.length + 1 + d_la.length := by omega
        have t4 : ¬ 9223372036854775807 < S2.length + 1 + d_an.length + 1 + d_la.length + 1 := by omega
        have t5 : ¬ 9223372036854775807 < S2.length + 1 + d_an.length + 1 + d_la.length + 1 + d_va.length := by omega
        go_quiet (first | (go_at_call 20; apply dig_quiet; assumption))
        go_wp2
        rw [cat_str, cat_str, cat_str, cat_str, cat_str, cat_str]
        go_ret
        refine ⟨congrArg (fun b => Ending.returned (str b)) ?_, hbw.drewN _⟩
        simp only [HT.out, if_true, HS2.out, HS.out, HX.out, HM.out]
        simp [num, sw, hw, D_h.e, D_ba.e, D_ra.e, D_an.e, D_la.e, D_va.e, D_wh.e, D_wH.e, D_wV.e, D_wM.e, D_lf.e]
    · cases hd with
      | false =>
        go_wp2
        rw [cat_str, cat_str]
        obtain ⟨S, hS, lS⟩ : ∃ X : List UInt8, X = d_h ++ [32, 119, 97, 105, 116, 115] ++ [32, 45] ∧ X.length ≤ 40 := ⟨_, rfl, by simp; omega⟩
        rw [← hS]
        have HS := Lib.hid hS
        clear hS
        have r0 : ¬ 9223372036854775807 < S.length + 1 := by omega
        have r1 : ¬ 9223372036854775807 < S.length + 1 + d_ba.length := by omega
        have r2 : ¬ 9223372036854775807 < S.length + 1 + d_ba.length + 1 := by omega
        have r3 : ¬ 9223372036854775807 < S.length + 1 + d_ba.length + 1 + d_ra.length := by omega
        go_quiet (first | (go_at_call 20; apply dig_quiet; assumption))
        obtain ⟨w3, hw3⟩ : ∃ x, x = w2.drewN nq := ⟨_, rfl⟩
        have k1 : w3.cell? ⟨w.heap.size, 1, none⟩ = _ := (congrArg (fun x => World.cell? x ⟨w.heap.size, 1, none⟩) hw3).trans k1
        have k5 : w3.cell? ⟨w.heap.size, 5, none⟩ = _ := (congrArg (fun x => World.cell? x ⟨w.heap.size, 5, none⟩) hw3).trans k5
        have k6 : w3.cell? ⟨w.heap.size, 6, none⟩ = _ := (congrArg (fun x => World.cell? x ⟨w.heap.size, 6, none⟩) hw3).trans k6
        have k7 : w3.cell? ⟨w.heap.size, 7, none⟩ = _ := (congrArg (fun x => World.cell? x ⟨w.heap.size, 7, none⟩) hw3).trans k7
        have k8 : w3.cell? ⟨w.heap.size, 8, none⟩ = _ := (congrArg (fun x => World.cell? x ⟨w.heap.size, 8, none⟩) hw3).trans k8
        have k10 : w3.cell? ⟨w.heap.size, 10, none⟩ = _ := (congrArg (fun x => World.cell? x ⟨w.heap.size, 10, none⟩) hw3).trans k10
        have k11 : w3.cell? ⟨w.heap.size, 11, none⟩ = _ := (congrArg (fun x => World.cell? x ⟨w.heap.size, 11, none⟩) hw3).trans k11
        have k12 : w3.cell? ⟨w.heap.size, 12, none⟩ = _ := (congrArg (fun x => World.cell? x ⟨w.heap.size, 12, none⟩) hw3).trans k12
        have k13 : w3.cell? ⟨w.heap.size, 13, none⟩ = _ := (congrArg (fun x => World.cell? x ⟨w.heap.size, 13, none⟩) hw3).trans k13
        have hbw : Below w.heap.size w w3 := by rw [hw3]; exact hbw.drewN _
        rw [← hw3]
        clear hw3
        go_wp2
        rw [cat_str, cat_str, cat_str, cat_str]
        obtain ⟨S1, hS1, lS1⟩ : ∃ X : List UInt8, X = S ++ [32] ++ d_ba ++ [32] ++ d_ra ∧ X.length ≤ 100 := ⟨_, rfl, by simp; omega⟩
        rw [← hS1]
        have HS1 := Lib.hid hS1
        clear hS1
        have s0 : ¬ 9223372036854775807 < S1.length + 1 := by omega
        have s1 : ¬ 9223372036854775807 < S1.length + 1 + d_wh.length := by omega
        have s2 : ¬ 9223372036854775807 < S1.length + 1 + d_wh.length + 1 := by omega
        have s3 : ¬ 9223372036854775807 < S1.length + 1 + d_wh.length + 1 + d_wH.length := by omega
        have s4 : ¬ 9223372036854775807 < S1.length + 1 + d_wh.length + 1 + d_wH.length + 1 := by omega
        have s5 : ¬ 9223372036854775807 < S1.length + 1 + d_wh.length + 1 + d_wH.length + 1 + d_wV.length := by omega
        have s6 : ¬ 9223372036854775807 < S1.length + 1 + d_wh.length + 1 + d_wH.length + 1 + d_wV.length + 1 := by omega
        have s7 : ¬ 9223372036854775807 < S1.length + 1 + d_wh.length + 1 + d_wH.length + 1 + d_wV.length + 1 + d_wM.length := by omega
        have s8 : ¬ 9223372036854775807 < S1.length + 1 + d_wh.length + 1 + d_wH.length + 1 + d_wV.length + 1 + d_wM.length + 1 := by omega
        have s9 : ¬ 9223372036854775807 < S1.length + 1 + d_wh.length + 1 + d_wH.length + 1 + d_wV.length + 1 + d_wM.length + 1 + d_lf.length := by omega
        go_quiet (first | (go_at_call 20; apply dig_quiet; assumption))
        obtain ⟨w4, hw4⟩ : ∃ x, x = w3.drewN nq := ⟨_, rfl⟩
        have k1 : w4.cell? ⟨w.heap.size, 1, none⟩ = _ := (congrArg (fun x => World.cell? x ⟨w.heap.size, 1, none⟩) hw4).trans k1
        have k5 : w4.cell? ⟨w.heap.size, 5, none⟩ = _ := (congrArg (fun x => World.cell? x ⟨w.heap.size, 5, none⟩) hw4).trans k5
        have k6 : w4.cell? ⟨w.heap.size, 6, none⟩ = _ := (congrArg (fun x => World.cell? x ⟨w.heap.size, 6, none⟩) hw4).trans k6
        have k7 : w4.cell? ⟨w.heap.size, 7, none⟩ = _ := (congrArg (fun x => World.cell? x ⟨w.heap.size, 7, none⟩) hw4).trans k7
        have k8 : w4.cell? ⟨w.heap.size, 8, none⟩ = _ := (congrArg (fun x => World.cell? x ⟨w.heap.size, 8, none⟩) hw4).trans k8
        have k10 : w4.cell? ⟨w.heap.size, 10, none⟩ = _ := (congrArg (fun x => World.cell? x ⟨w.heap.size, 10, none⟩) hw4).trans k10
        have k11 : w4.cell? ⟨w.heap.size, 11, none⟩ = _ := (congrArg (fun x => World.cell? x ⟨w.heap.size, 11, none⟩) hw4).trans k11
        have k12 : w4.cell? ⟨w.heap.size, 12, none⟩ = _ := (congrArg (fun x => World.cell? x ⟨w.heap.size, 12, none⟩) hw4).trans k12
        have k13 : w4.cell? ⟨w.heap.size, 13, none⟩ = _ := (congrArg (fun x => World.cell? x ⟨w.heap.size, 13, none⟩) hw4).trans k13
        have hbw : Below w.heap.size w w4 := by rw [hw4]; exact hbw.drewN _
        rw [← hw4]
        clear hw4
        go_wp2
        rw [cat_str, cat_str, cat_str, cat_str, cat_str, cat_str, cat_str, cat_str, cat_str, cat_str]
        obtain ⟨S2, hS2, lS2⟩ : ∃ X : List UInt8, X = S1 ++ [32] ++ d_wh ++ [32] ++ d_wH ++ [32] ++ d_wV ++ [32] ++ d_wM ++ [32] ++ d_lf ∧ X.length ≤ 300 := ⟨_, rfl, by simp; omega⟩
        rw [← hS2]
        have HS2 := Lib.hid hS2
        clear hS2
        have t0 : ¬ 9223372036854775807 < S2.length + 1 := by omega
        have t1 : ¬ 9223372036854775807 < S2.length + 1 + d_an.length := by omega
        have t2 : ¬ 9223372036854775807 < S2.length + 1 + d_an.length + 1 := by omega
        have t3 : ¬ 9223372036854775807 < S2.length + 1 + d_an.length + 1 + d_la.length := by omega
        have t4 : ¬ 9223372036854775807 < S2.length + 1 + d_an.length + 1 + d_la.length + 1 := by omega
        have t5 : ¬ 9223372036854775807 < S2.length + 1 + d_an.length + 1 + d_la.length + 1 + d_va.length := by omega
        go_quiet (first | (go_at_call 20; apply dig_quiet; assumption))
        go_wp2
        rw [cat_str, cat_str, cat_str, cat_str, cat_str, cat_str]
        go_ret
        refine ⟨congrArg (fun b => Ending.returned (str b)) ?_, hbw.drewN _⟩
        simp only [HT.out, if_true, HS2.out, HS1.out, HS.out, HX.out, HM.out]
        simp [num, sw, hw, D_h.e, D_ba.e, D_ra.e, D_an.e, D_la.e, D_va.e, D_wh.e, D_wH.e, D_wV.e, D_wM.e, D_lf.e]
      | true =>
        go_wp2
        rw [cat_str, cat_str]
        obtain ⟨S, hS, lS⟩ : ∃ X : List UInt8, X = d_h ++ [32, 119, 97, 105, 116, 115] ++ [32, 104, 101, 108, 100] ∧ X.length ≤ 40 := ⟨_, rfl, by simp; omega⟩
        rw [← hS]
        have HS := Lib.hid hS
        clear hS
        have r0 : ¬ 9223372036854775807 < S.length + 1 := by omega
        have r1 : ¬ 9223372036854775807 < S.length + 1 + d_ba.length := by omega
        have r2 : ¬ 9223372036854775807 < S.length + 1 + d_ba.length + 1 := by omega
        have r3 : ¬ 9223372036854775807 < S.length + 1 + d_ba.length + 1 + d_ra.length := by omega
        go_quiet (first | (go_at_call 20; apply dig_quiet; assumption))
        obtain ⟨w3, hw3⟩ : ∃ x, x = w2.drewN nq := ⟨_, rfl⟩
        have k1 : w3.cell? ⟨w.heap.size, 1, none⟩ = _ := (congrArg (fun x => World.cell? x ⟨w.heap.size, 1, none⟩) hw3).trans k1
        have k5 : w3.cell? ⟨w.heap.size, 5, none⟩ = _ := (congrArg (fun x => World.cell? x ⟨w.heap.size, 5, none⟩) hw3).trans k5
        have k6 : w3.cell? ⟨w.heap.size, 6, none⟩ = _ := (congrArg (fun x => World.cell? x ⟨w.heap.size, 6, none⟩) hw3).trans k6
        have k7 : w3.cell? ⟨w.heap.size, 7, none⟩ = _ := (congrArg (fun x => World.cell? x ⟨w.heap.size, 7, none⟩) hw3).trans k7
        have k8 : w3.cell? ⟨w.heap.size, 8, none⟩ = _ := (congrArg (fun x => World.cell? x ⟨w.heap.size, 8, none⟩) hw3).trans k8
        have k10 : w3.cell? ⟨w.heap.size, 10, none⟩ = _ := (congrArg (fun x => World.cell? x ⟨w.heap.size, 10, none⟩) hw3).trans k10
        have k11 : w3.cell? ⟨w.heap.size, 11, none⟩ = _ := (congrArg (fun x => World.cell? x ⟨w.heap.size, 11, none⟩) hw3).trans k11
        have k12 : w3.cell? ⟨w.heap.size, 12, none⟩ = _ := (congrArg (fun x => World.cell? x ⟨w.heap.size, 12, none⟩) hw3).trans k12
        have k13 : w3.cell? ⟨w.heap.size, 13, none⟩ = _ := (congrArg (fun x => World.cell? x ⟨w.heap.size, 13, none⟩) hw3).trans k13
        have hbw : Below w.heap.size w w3 := by rw [hw3]; exact hbw.drewN _
        rw [← hw3]
        clear hw3
        go_wp2
        rw [cat_str, cat_str, cat_str, cat_str]
        obtain ⟨S1, hS1, lS1⟩ : ∃ X : List UInt8, X = S ++ [32] ++ d_ba ++ [32] ++ d_ra ∧ X.length ≤ 100 := ⟨_, rfl, by simp; omega⟩
        rw [← hS1]
        have HS1 := Lib.hid hS1
        clear hS1
        have s0 : ¬ 9223372036854775807 < S1.length + 1 := by omega
        have s1 : ¬ 9223372036854775807 < S1.length + 1 + d_wh.length := by omega
        have s2 : ¬ 9223372036854775807 < S1.length + 1 + d_wh.length + 1 := by omega
        have s3 : ¬ 9223372036854775807 < S1.length + 1 + d_wh.length + 1 + d_wH.length := by omega
        have s4 : ¬ 9223372036854775807 < S1.length + 1 + d_wh.length + 1 + d_wH.length + 1 := by omega
        have s5 : ¬ 9223372036854775807 < S1.length + 1 + d_wh.length + 1 + d_wH.length + 1 + d_wV.length := by omega
        have s6 : ¬ 9223372036854775807 < S1.length + 1 + d_wh.length + 1 + d_wH.length + 1 + d_wV.length + 1 := by omega
        have s7 : ¬ 9223372036854775807 < S1.length + 1 + d_wh.length + 1 + d_wH.length + 1 + d_wV.length + 1 + d_wM.length := by omega
        have s8 : ¬ 9223372036854775807 < S1.length + 1 + d_wh.length + 1 + d_wH.length + 1 + d_wV.length + 1 + d_wM.length + 1 := by omega
        have s9 : ¬ 9223372036854775807 < S1.length + 1 + d_wh.length + 1 + d_wH.length + 1 + d_wV.length + 1 + d_wM.length + 1 + d_lf.length := by omega
        go_quiet (first | (go_at_call 20; apply dig_quiet; assumption))
        obtain ⟨w4, hw4⟩ : ∃ x, x = w3.drewN nq := ⟨_, rfl⟩
        have k1 : w4.cell? ⟨w.heap.size, 1, none⟩ = _ := (congrArg (fun x => World.cell? x ⟨w.heap.size, 1, none⟩) hw4).trans k1
        have k5 : w4.cell? ⟨w.heap.size, 5, none⟩ = _ := (congrArg (fun x => World.cell? x ⟨w.heap.size, 5, none⟩) hw4).trans k5
        have k6 : w4.cell? ⟨w.heap.size, 6, none⟩ = _ := (congrArg (fun x => World.cell? x ⟨w.heap.size, 6, none⟩) hw4).trans k6
        have k7 : w4.cell? ⟨w.heap.size, 7, none⟩ = _ := (congrArg (fun x => World.cell? x ⟨w.heap.size, 7, none⟩) hw4).trans k7
        have k8 : w4.cell? ⟨w.heap.size, 8, none⟩ = _ := (congrArg (fun x => World.cell? x ⟨w.heap.size, 8, none⟩) hw4).trans k8
        have k10 : w4.cell? ⟨w.heap.size, 10, none⟩ = _ := (congrArg (fun x => World.cell? x ⟨w.heap.size, 10, none⟩) hw4).trans k10
        have k11 : w4.cell? ⟨w.heap.size, 11, none⟩ = _ := (congrArg (fun x => World.cell? x ⟨w.heap.size, 11, none⟩) hw4).trans k11
        have k12 : w4.cell? ⟨w.heap.size, 12, none⟩ = _ := (congrArg (fun x => World.cell? x ⟨w.heap.size, 12, none⟩) hw4).trans k12
        have k13 : w4.cell? ⟨w.heap.size, 13, none⟩ = _ := (congrArg (fun x => World.cell? x ⟨w.heap.size, 13, none⟩) hw4).trans k13
        have hbw : Below w.heap.size w w4 := by rw [hw4]; exact hbw.drewN _
        rw [← hw4]
        clear hw4
        go_wp2
        rw [cat_str, cat_str, cat_str, cat_str, cat_str, cat_str, cat_str, cat_str, cat_str, cat_str]
        obtain ⟨S2, hS2, lS2⟩ : ∃ X : List UInt8, X = S1 ++ [32] ++ d_wh ++ [32] ++ d_wH ++ [32] ++ d_wV ++ [32] ++ d_wM ++ [32] ++ d_lf ∧ X.length ≤ 300 := ⟨_, rfl, by simp; omega⟩
        rw [← hS2]
        have HS2 := Lib.hid hS2
        clear hS2
        have t0 : ¬ 9223372036854775807 < S2.length + 1 := by omega
        have t1 : ¬ 9223372036854775807 < S2.length + 1 + d_an.length := by omega
        have t2 : ¬ 9223372036854775807 < S2.length + 1 + d_an.length + 1 := by omega
        have t3 : ¬ 9223372036854775807 < S2.length + 1 + d_an.length + 1 + d_la.length := by omega
        have t4 : ¬ 9223372036854775807 < S2.length + 1 + d_an.length + 1 + d_la.length + 1 := by omega
        have t5 : ¬ 9223372036854775807 < S2.length + 1 + d_an.length + 1 + d_la.length + 1 + d_va.length := by omega
        go_quiet (first | (go_at_call 20; apply dig_quiet; assumption))
        go_wp2
        rw [cat_str, cat_str, cat_str, cat_str, cat_str, cat_str]
        go_ret
        refine ⟨congrArg (fun b => Ending.returned (str b)) ?_, hbw.drewN _⟩
        simp only [HT.out, if_true, HS2.out, HS1.out, HS.out, HX.out, HM.out]
        simp [num, sw, hw, D_h.e, D_ba.e, D_ra.e, D_an.e, D_la.e, D_va.e, D_wh.e, D_wH.e, D_wV.e, D_wM.e, D_lf.e]
    · cases hd with
      | false =>
        go_wp2
        rw [cat_str, cat_str]
        obtain ⟨S, hS, lS⟩ : ∃ X : List UInt8, X = d_h ++ [32, 102, 97, 117, 108, 116] ++ [32, 45] ∧ X.length ≤ 40 := ⟨_, rfl, by simp; omega⟩
        rw [← hS]
        have HS := Lib.hid hS
        clear hS
        have r0 : ¬ 9223372036854775807 < S.length + 1 := by omega
        have r1 : ¬ 9223372036854775807 < S.length + 1 + d_ba.length := by omega
        have r2 : ¬ 9223372036854775807 < S.length + 1 + d_ba.length + 1 := by omega
        have r3 : ¬ 9223372036854775807 < S.length + 1 + d_ba.length + 1 + d_ra.length := by omega
        have r9 : ¬ 9223372036854775807 < S.length + 1 + d_ba.length + 1 + d_ra.length + 2 := by omega
        go_quiet (first | (go_at_call 20; apply dig_quiet; assumption))
        obtain ⟨w3, hw3⟩ : ∃ x, x = w2.drewN nq := ⟨_, rfl⟩
        have k1 : w3.cell? ⟨w.heap.size, 1, none⟩ = _ := (congrArg (fun x => World.cell? x ⟨w.heap.size, 1, none⟩) hw3).trans k1
        have k5 : w3.cell? ⟨w.heap.size, 5, none⟩ = _ := (congrArg (fun x => World.cell? x ⟨w.heap.size, 5, none⟩) hw3).trans k5
        have k6 : w3.cell? ⟨w.heap.size, 6, none⟩ = _ := (congrArg (fun x => World.cell? x ⟨w.heap.size, 6, none⟩) hw3).trans k6
        have k7 : w3.cell? ⟨w.heap.size, 7, none⟩ = _ := (congrArg (fun x => World.cell? x ⟨w.heap.size, 7, none⟩) hw3).trans k7
        have k8 : w3.cell? ⟨w.heap.size, 8, none⟩ = _ := (congrArg (fun x => World.cell? x ⟨w.heap.size, 8, none⟩) hw3).trans k8
        have k10 : w3.cell? ⟨w.heap.size, 10, none⟩ = _ := (congrArg (fun x => World.cell? x ⟨w.heap.size, 10, none⟩) hw3).trans k10
        have k11 : w3.cell? ⟨w.heap.size, 11, none⟩ = _ := (congrArg (fun x => World.cell? x ⟨w.heap.size, 11, none⟩) hw3).trans k11
        have k12 : w3.cell? ⟨w.heap.size, 12, none⟩ = _ := (congrArg (fun x => World.cell? x ⟨w.heap.size, 12, none⟩) hw3).trans k12
        have k13 : w3.cell? ⟨w.heap.size, 13, none⟩ = _ := (congrArg (fun x => World.cell? x ⟨w.heap.size, 13, none⟩) hw3).trans k13
        have hbw : Below w.heap.size w w3 := by rw [hw3]; exact hbw.drewN _
        rw [← hw3]
        clear hw3
        go_wp2
        rw [cat_str, cat_str, cat_str, cat_str, cat_str]
        obtain ⟨S2, hS2, lS2⟩ : ∃ X : List UInt8, X = S ++ [32] ++ d_ba ++ [32] ++ d_ra ++ [32, 45] ∧ X.length ≤ 100 := ⟨_, rfl, by simp; omega⟩
        rw [← hS2]
        have HS2 := Lib.hid hS2
        clear hS2
        have t0 : ¬ 9223372036854775807 < S2.length + 1 := by omega
        have t1 : ¬ 9223372036854775807 < S2.length + 1 + d_an.length := by omega
        have t2 : ¬ 9223372036854775807 < S2.length + 1 + d_an.length + 1 := by omega
        have t3 : ¬ 9223372036854775807 < S2.length + 1 + d_an.length + 1 + d_la.length := by omega
        have t4 : ¬ 9223372036854775807 < S2.length + 1 + d_an.length + 1 + d_la.length + 1 := by omega
        have t5 : ¬ 9223372036854775807 < S2.length + 1 + d_an.length + 1 + d_la.length + 1 + d_va.length := by omega
        go_quiet (first | (go_at_call 20; apply dig_quiet; assumption))
        go_wp2
        rw [cat_str, cat_str, cat_str, cat_str, cat_str, cat_str]
        go_ret
        refine ⟨congrArg (fun b => Ending.returned (str b)) ?_, hbw.drewN _⟩
        simp only [HT.out, if_true, HS2.out, HS.out, HX.out, HM.out]
        simp [num, sw, hw, D_h.e, D_ba.e, D_ra.e, D_an.e, D_la.e, D_va.e, D_wh.e, D_wH.e, D_wV.e, D_wM.e, D_lf.e]
      | true =>
        go_wp2
        rw [cat_str, cat_str]
        obtain ⟨S, hS, lS⟩ : ∃ X : List UInt8, X = d_h ++ [32, 102, 97, 117, 108, 116] ++ [32, 104, 101, 108, 100] ∧ X.length ≤ 40 := ⟨_, rfl, by simp; omega⟩
        rw [← hS]
        have HS := Lib.hid hS
        clear hS
        have r0 : ¬ 9223372036854775807 < S.length + 1 := by omega
        have r1 : ¬ 9223372036854775807 < S.length + 1 + d_ba.length := by omega
        have r2 : ¬ 9223372036854775807 < S.length + 1 + d_ba.length + 1 := by omega
        have r3 : ¬ 9223372036854775807 < S.length + 1 + d_ba.length + 1 + d_ra.length := by omega
        have r9 : ¬ 9223372036854775807 < S.length + 1 + d_ba.length + 1 + d_ra.length + 2 := by omega
        go_quiet (first | (go_at_call 20; apply dig_quiet; assumption))
        obtain ⟨w3, hw3⟩ : ∃ x, x = w2.drewN nq := ⟨_, rfl⟩
        have k1 : w3.cell? ⟨w.heap.size, 1, none⟩ = _ := (congrArg (fun x => World.cell? x ⟨w.heap.size, 1, none⟩) hw3).trans k1
        have k5 : w3.cell? ⟨w.heap.size, 5, none⟩ = _ := (congrArg (fun x => World.cell? x ⟨w.heap.size, 5, none⟩) hw3).trans k5
        have k6 : w3.cell? ⟨w.heap.size, 6, none⟩ = _ := (congrArg (fun x => World.cell? x ⟨w.heap.size, 6, none⟩) hw3).trans k6
        have k7 : w3.cell? ⟨w.heap.size, 7, none⟩ = _ := (congrArg (fun x => World.cell? x ⟨w.heap.size, 7, none⟩) hw3).trans k7
        have k8 : w3.cell? ⟨w.heap.size, 8, none⟩ = _ := (congrArg (fun x => World.cell? x ⟨w.heap.size, 8, none⟩) hw3).trans k8
        have k10 : w3.cell? ⟨w.heap.size, 10, none⟩ = _ := (congrArg (fun x => World.cell? x ⟨w.heap.size, 10, none⟩) hw3).trans k10
        have k11 : w3.cell? ⟨w.heap.size, 11, none⟩ = _ := (congrArg (fun x => World.cell? x ⟨w.heap.size, 11, none⟩) hw3).trans k11
        have k12 : w3.cell? ⟨w.heap.size, 12, none⟩ = _ := (congrArg (fun x => World.cell? x ⟨w.heap.size, 12, none⟩) hw3).trans k12
        have k13 : w3.cell? ⟨w.heap.size, 13, none⟩ = _ := (congrArg (fun x => World.cell? x ⟨w.heap.size, 13, none⟩) hw3).trans k13
        have hbw : Below w.heap.size w w3 := by rw [hw3]; exact hbw.drewN _
        rw [← hw3]
        clear hw3
        go_wp2
        rw [cat_str, cat_str, cat_str, cat_str, cat_str]
        obtain ⟨S2, hS2, lS2⟩ : ∃ X : List UInt8, X = S ++ [32] ++ d_ba ++ [32] ++ d_ra ++ [32, 45] ∧ X.length ≤ 100 := ⟨_, rfl, by simp; omega⟩
        rw [← hS2]
        have HS2 := Lib.hid hS2
        clear hS2
        have t0 : ¬ 9223372036854775807 < S2.length + 1 := by omega
        have t1 : ¬ 9223372036854775807 < S2.length + 1 + d_an.length := by omega
        have t2 : ¬ 9223372036854775807 < S2.length + 1 + d_an.length + 1 := by omega
        have t3 : ¬ 9223372036854775807 < S2.length + 1 + d_an.length + 1 + d_la.length := by omega
        have t4 : ¬ 9223372036854775807 < S2.length + 1 + d_an.length + 1 + d_la.length + 1 := by omega
        have t5 : ¬ 9223372036854775807 < S2.length + 1 + d_an.length + 1 + d_la.length + 1 + d_va.length := by omega
        go_quiet (first | (go_at_call 20; apply dig_quiet; assumption))
        go_wp2
        rw [cat_str, cat_str, cat_str, cat_str, cat_str, cat_str]
        go_ret
        refine ⟨congrArg (fun b => Ending.returned (str b)) ?_, hbw.drewN _⟩
        simp only [HT.out, if_true, HS2.out, HS.out, HX.out, HM.out]
        simp [num, sw, hw, D_h.e, D_ba.e, D_ra.e, D_an.e, D_la.e, D_va.e, D_wh.e, D_wH.e, D_wV.e, D_wM.e, D_lf.e]
end Go.Proofs.YthaodmobcbccaaaDoor
