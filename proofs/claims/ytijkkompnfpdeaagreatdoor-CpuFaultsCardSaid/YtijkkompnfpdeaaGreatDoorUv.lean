/- Cores: what one has, handed out; an answer: walked. -/
import Derived.Test.YtijkkompnfpdeaaGreatDoorUt
import Derived.Lib.BufferRead
set_option linter.unusedVariables false
set_option linter.unusedSimpArgs false
namespace Go.Proofs.YtijkkompnfpdeaaGreatDoor
open Go.RowKit Go.Joins Go.Shelf
attribute [local go_sem] Oper.semAt_some

theorem conv_cells (w : World) (a : Option Addr) (c : Nat) (l : List UInt8) (h : CellsIn w a (l.map bv)) : (convert 22 9 (.slice a l.length c)).run Tryz.prog w = .ok (.string ⟨l.toArray⟩) w := by
  cases a with
  | none =>
    have hl : l = [] := by
      cases l with
      | nil => rfl
      | cons x l => obtain ⟨g, o, e, _⟩ := h 0 (by simp); cases e
    subst hl
    exact Lib.run_convert_nil_bytes w _ _ 5 c Tryz.underlying22 Tryz.underlying5 Tryz.underlying9
  | some ad =>
    refine Go.run_convert_bytes_back _ _ _ 5 ad c l Tryz.underlying22 Tryz.underlying5 Tryz.underlying9 (fun j hj => ?_)
    obtain ⟨g, o, e, hc⟩ := h j (by simpa using hj)
    cases e
    rw [show (⟨g, o, none⟩ : Addr).add j = ⟨g, o + j, none⟩ from Addr.add_lit g o j, hc]
    simp
set_option maxHeartbeats 2000000 in
set_option maxRecDepth 20000 in
theorem at_of {w0 w : World} {r : List Thing} {b : Nat} {c : List I4} {s : Cs} (H : Hp w0 w (CR b c s :: r)) :
    Calls Tryz.prog 18 #[.pointer (some ⟨b, 0, none⟩)] w fun e w' => e = .returned (.int .i64 s.at_) ∧ Hp w0 w' (CR b c s :: r) := by
  obtain ⟨rb, C1, C2, -, -, -, -⟩ := cf_of H
  have HH := Lib.hid H
  clear H
  go_enter Tryz.func18, Tryz.ntmps18
  go_wp2
  go_ret
  exact ⟨rfl, HH.out⟩
set_option maxHeartbeats 2000000 in
set_option maxRecDepth 20000 in
theorem console_of {w0 w : World} {r : List Thing} {b : Nat} {c : List I4} {s : Cs} (H : Hp w0 w (CR b c s :: r)) :
    Calls Tryz.prog 11 #[.pointer (some ⟨b, 0, none⟩)] w fun e w' => e = .returned (.string ⟨s.says.toArray⟩) ∧ Hp w0 w' (CR b c s :: r) := by
  obtain ⟨rb, mb, vc, vs, hl, hm, H2⟩ := cr_open H
  obtain ⟨a, n, rfl⟩ := own_slice (H2.pull 4 rfl)
  have C2 : w.cell? ⟨b, 9, none⟩ = _ := cb_cell H2 hl 1
  have C4 : w.cell? ⟨b, 11, none⟩ = _ := cb_cell H2 hl 3
  have hc := conv_cells w a n s.says (CellsIn.own (H2.pull 4 rfl))
  have HH := Lib.hid H
  clear H H2 hl hm
  go_enter Tryz.func11, Tryz.ntmps11
  go_wp2
  go_ret
  exact ⟨rfl, HH.out⟩
set_option maxHeartbeats 2000000 in
theorem there_c (b rb : Nat) (w : World) (C2 : w.cell? ⟨b, 9, none⟩ = some (.pointer (some ⟨rb, 0, none⟩))) :
    Calls Tryz.prog 32 #[.pointer (some ⟨b, 0, none⟩)] w fun e w' => e = .returned (.bool true) ∧ w' = w := by
  go_enter Tryz.func32, Tryz.ntmps32
  go_wp2
  go_ret
  exact ⟨rfl, rfl⟩
set_option maxHeartbeats 2000000 in
set_option maxRecDepth 20000 in
theorem bytes_of {w0 w : World} {r : List Thing} {b : Nat} {c : List I4} {s : Cs} (H : Hp w0 w (CR b c s :: r)) :
    Calls Tryz.prog 13 #[.pointer (some ⟨b, 0, none⟩)] w fun e w' => ∃ v, e = .returned v ∧ Hp w0 w' (OwnU8 v s.mem :: CR b c s :: r) := by
  obtain ⟨rb, mb, vc, vs, hl, hm, H2⟩ := cr_open H
  have C2 : w.cell? ⟨b, 9, none⟩ = _ := cb_cell H2 hl 1
  have BC := Lib.hid (rbytes_c rb mb s.mem hm (H2.pull 1 rfl |>.pull 2 rfl |>.up1))
  have HM := Lib.hid hm
  have HL := Lib.hid hl
  clear H H2 hl hm
  go_enter Tryz.func13, Tryz.ntmps13
  go_wp2_with fail
  refine (there_c b rb w C2).mono ?_; rintro e w1 ⟨rfl, rfl⟩
  go_wp2_with fail
  refine BC.out.mono ?_; rintro e w2 ⟨v, rfl, H3⟩
  obtain ⟨a, n, rfl⟩ := own_slice H3
  have HZ := Lib.hid ((cr_shut HL.out HM.out (((((H3.pull 5 rfl).pull 5 rfl).pull 4 rfl).pull 4 rfl).pull 5 rfl)).up1)
  clear BC H3 C2
  go_wp2
  go_ret
  exact ⟨_, rfl, HZ.out⟩
set_option maxHeartbeats 2000000 in
set_option maxRecDepth 20000 in
theorem regs_of {w0 w : World} {r : List Thing} {b : Nat} {c : List I4} {s : Cs} (u0 u1 u2 u3 u4 u5 u6 u7 : UInt32) (hr : s.r = [u0, u1, u2, u3, u4, u5, u6, u7]) (H : Hp w0 w (CR b c s :: r)) :
    Calls Tryz.prog 10 #[.pointer (some ⟨b, 0, none⟩)] w fun e w' => e = .returned (.agg (s.r.map wv).toArray) ∧ Hp w0 w' (CR b c s :: r) := by
  have HN := Lib.hid (blk_new H (.cells #[wv u0, wv u1, wv u2, wv u3, wv u4, wv u5, wv u6, wv u7] 40))
  have HH := Lib.hid (blk_new H (.cells #[.int .u32 0, .int .u32 0, .int .u32 0, .int .u32 0, .int .u32 0, .int .u32 0, .int .u32 0, .int .u32 0] 40))
  rw [hr]
  go_enter Tryz.func10, Tryz.ntmps10
  go_upto_region 1 with fail
  generalize w.heap.size = n at *
  generalize (w.alloc (.cells #[.int .u32 0, .int .u32 0, .int .u32 0, .int .u32 0, .int .u32 0, .int .u32 0, .int .u32 0, .int .u32 0] 40)) = W at *
  obtain ⟨rb, C1, C2, -, -, -, C6⟩ := cf_of HH.out.tail
  rw [hr] at C6
  have p0 : W.cell? ⟨b, 0, none⟩ = some (wv u0) := C6 0 (by omega)
  have p1 : W.cell? ⟨b, 1, none⟩ = some (wv u1) := C6 1 (by omega)
  have p2 : W.cell? ⟨b, 2, none⟩ = some (wv u2) := C6 2 (by omega)
  have p3 : W.cell? ⟨b, 3, none⟩ = some (wv u3) := C6 3 (by omega)
  have p4 : W.cell? ⟨b, 4, none⟩ = some (wv u4) := C6 4 (by omega)
  have p5 : W.cell? ⟨b, 5, none⟩ = some (wv u5) := C6 5 (by omega)
  have p6 : W.cell? ⟨b, 6, none⟩ = some (wv u6) := C6 6 (by omega)
  have p7 : W.cell? ⟨b, 7, none⟩ = some (wv u7) := C6 7 (by omega)
  have hb := blk_get HH.out
  have z0 : W.cell? ⟨n, 0, none⟩ = _ := cell_blk hb 0
  have z1 : W.cell? ⟨n, 1, none⟩ = _ := cell_blk hb 1
  have z2 : W.cell? ⟨n, 2, none⟩ = _ := cell_blk hb 2
  have z3 : W.cell? ⟨n, 3, none⟩ = _ := cell_blk hb 3
  have z4 : W.cell? ⟨n, 4, none⟩ = _ := cell_blk hb 4
  have z5 : W.cell? ⟨n, 5, none⟩ = _ := cell_blk hb 5
  have z6 : W.cell? ⟨n, 6, none⟩ = _ := cell_blk hb 6
  have z7 : W.cell? ⟨n, 7, none⟩ = _ := cell_blk hb 7
  have y0 := free_blk hb 0
  have y1 := free_blk hb 1
  have y2 := free_blk hb 2
  have y3 := free_blk hb 3
  have y4 := free_blk hb 4
  have y5 := free_blk hb 5
  have y6 := free_blk hb 6
  have y7 := free_blk hb 7
  have HZ := Lib.hid (blk_set (blk_set (blk_set (blk_set (blk_set (blk_set (blk_set (blk_set HH.out 0 (wv u0)) 1 (wv u1)) 2 (wv u2)) 3 (wv u3)) 4 (wv u4)) 5 (wv u5)) 6 (wv u6)) 7 (wv u7))
  clear C6 hb HN
  go_wp2
  exact bodyPost_ret (results_cell_row rfl _ _ n _ _ _ _ rfl (blk_get HZ.out) Tryz.underlying40 rfl regs_info) rfl ⟨rfl, HZ.out.tail⟩
set_option maxHeartbeats 4000000 in
set_option maxRecDepth 20000 in
theorem of_c (e : Int) (w : World) : Calls Tryz.prog 47 #[.int .i64 e] w fun e' w' => e' = .returned (wv (UInt32.ofNat (e % 4294967296).toNat)) ∧ w' = w := by
  have h1 : IntKind.u32.wrap e = ((UInt32.ofNat (e % 4294967296).toNat).toNat : Int) := by
    rw [IntKind.wrap_u32, UInt32.toNat_ofNat', Nat.mod_eq_of_lt (by omega)]; omega
  generalize UInt32.ofNat (e % 4294967296).toNat = u at *
  go_enter Tryz.func47, Tryz.ntmps47
  go_wp2
  go_ret
  exact ⟨rfl, rfl⟩
theorem answC_y {s : Cs} (h : s.asked = true) (e : Int) (v : UInt32) : answC s e v = ({ s with asked := false, r := (s.r.set 0 (UInt32.ofNat (e % 4294967296).toNat)).set 1 v }, 0) := by simp [answC, h]
theorem answC_n {s : Cs} (h : s.asked = false) (e : Int) (v : UInt32) : answC s e v = (s, 7) := by simp [answC, h]
set_option maxHeartbeats 4000000 in
set_option maxRecDepth 20000 in
theorem answer_n {w0 w : World} {r : List Thing} {b : Nat} {c : List I4} {s : Cs} (h : s.asked = false) (e : Int) (v : UInt32) (H : Hp w0 w (CR b c s :: r)) :
    Calls Tryz.prog 20 #[.pointer (some ⟨b, 0, none⟩), .int .i64 e, wv v] w fun e' w' => e' = .returned (.int .i64 7) ∧ Hp w0 w' (CR b c s :: r) := by
  obtain ⟨rb, -, C2, C3, -, -, -⟩ := cf_of H
  rw [h] at C3
  have HH := Lib.hid H
  clear H
  go_enter Tryz.func20, Tryz.ntmps20
  go_wp2
  go_ret
  exact ⟨rfl, HH.out⟩
set_option maxHeartbeats 4000000 in
set_option maxRecDepth 20000 in
theorem answer_nil (e : Int) (v : UInt32) (w : World) :
    Calls Tryz.prog 20 #[.pointer none, .int .i64 e, wv v] w fun e' w' => e' = .returned (.int .i64 2) ∧ w' = w := by
  go_enter Tryz.func20, Tryz.ntmps20
  go_wp2
  go_ret
  exact ⟨rfl, rfl⟩
set_option maxHeartbeats 4000000 in
set_option maxRecDepth 20000 in
theorem answer_y {w0 w : World} {r : List Thing} {b : Nat} {c : List I4} {s : Cs} (h : s.asked = true) (e : Int) (v : UInt32) (H : Hp w0 w (CR b c s :: r)) :
    Calls Tryz.prog 20 #[.pointer (some ⟨b, 0, none⟩), .int .i64 e, wv v] w fun e' w' => e' = .returned (.int .i64 0) ∧ Hp w0 w' (CR b c (answC s e v).1 :: r) := by
  rw [answC_y h]
  obtain ⟨rb, mb, vc, vs, hl, hm, H2⟩ := cr_open H
  have C2 : w.cell? ⟨b, 9, none⟩ = _ := cb_cell H2 hl 1
  have C3 : w.cell? ⟨b, 12, none⟩ = _ := cb_cell H2 hl 4
  rw [h] at C3
  have z12 := free_blk (blk_get H2) 12
  have OC := Lib.hid (fun W => of_c e W)
  generalize UInt32.ofNat (e % 4294967296).toNat = u at *
  have H3 := Lib.hid (cb_setasked H2 hl false)
  have HL := Lib.hid hl
  have HM := Lib.hid hm
  clear H H2 hl hm
  go_enter Tryz.func20, Tryz.ntmps20
  go_wp2
  generalize w.setCell _ _ = W at *
  clear C2 C3 z12
  have p0 := cb_reg H3.out HL.out 0 (by omega)
  have p1 := cb_reg H3.out HL.out 1 (by omega)
  have y0 := free_blk (blk_get H3.out) 0
  have y1 := free_blk (blk_get H3.out) 1
  refine wp_region_S 12 (fun (_ : World) => True) (by as_aux_lemma => kernel_rfl) ?_
  have hSS : (fun (_ : World) => True) W.drew := trivial
  refine wpAnyS_tk (i := 0) (by as_aux_lemma => kernel_rfl) (by intro c a d v w h; cases d <;> exact h) hSS (fun oi hoi => ?_)
  simp only [List.getElem?_toArray, List.getElem?_cons_zero, List.getElem?_cons_succ, Option.some.injEq] at hoi; subst hoi
  refine ⟨?_, by rfl, fun wx hSx => ?_, ?_⟩
  rotate_left
  · skip
    go_simp
    try with_reducible rfl
  try simp only [Act.put, List.setIfInBounds_toArray, List.set_cons_zero, List.set_cons_succ]
  refine wpAnyS_tk (i := 1) (by as_aux_lemma => kernel_rfl) (by intro c a d v w h; cases d <;> exact h) hSS (fun oi hoi => ?_)
  simp only [List.getElem?_toArray, List.getElem?_cons_zero, List.getElem?_cons_succ, Option.some.injEq] at hoi; subst hoi
  refine ⟨?_, by rfl, fun wx hSx => ?_, ?_⟩
  rotate_left
  · skip
    go_simp
    try with_reducible rfl
  try simp only [Act.put, List.setIfInBounds_toArray, List.set_cons_zero, List.set_cons_succ]
  refine wpAnyS_tk (i := 2) (by as_aux_lemma => kernel_rfl) (by intro c a d v w h; cases d <;> exact h) hSS (fun oi hoi => ?_)
  simp only [List.getElem?_toArray, List.getElem?_cons_zero, List.getElem?_cons_succ, Option.some.injEq] at hoi; subst hoi
  refine ⟨?_, by rfl, fun wx hSx => ?_, ?_⟩
  rotate_left
  · skip
    go_simp
    try with_reducible rfl
  try simp only [Act.put, List.setIfInBounds_toArray, List.set_cons_zero, List.set_cons_succ]
  refine wpAnyS_tk (i := 4) (by as_aux_lemma => kernel_rfl) (by intro c a d v w h; cases d <;> exact h) hSS (fun oi hoi => ?_)
  simp only [List.getElem?_toArray, List.getElem?_cons_zero, List.getElem?_cons_succ, Option.some.injEq] at hoi; subst hoi
  refine ⟨?_, by rfl, fun wx hSx => ?_, ?_⟩
  rotate_left
  · skip
    go_simp
    try with_reducible rfl
  try simp only [Act.put, List.setIfInBounds_toArray, List.set_cons_zero, List.set_cons_succ]
  refine wpAnyS_tk (i := 5) (by as_aux_lemma => kernel_rfl) (by intro c a d v w h; cases d <;> exact h) hSS (fun oi hoi => ?_)
  simp only [List.getElem?_toArray, List.getElem?_cons_zero, List.getElem?_cons_succ, Option.some.injEq] at hoi; subst hoi
  refine ⟨?_, by rfl, fun wx hSx => ?_, ?_⟩
  rotate_left
  · skip
    go_simp
    try with_reducible rfl
  try simp only [Act.put, List.setIfInBounds_toArray, List.set_cons_zero, List.set_cons_succ]
  refine wpAnyS_tk (i := 6) (by as_aux_lemma => kernel_rfl) (by intro c a d v w h; cases d <;> exact h) hSS (fun oi hoi => ?_)
  simp only [List.getElem?_toArray, List.getElem?_cons_zero, List.getElem?_cons_succ, Option.some.injEq] at hoi; subst hoi
  refine ⟨?_, by rfl, fun wx hSx => ?_, ?_⟩
  rotate_left
  · skip
    go_simp
    try with_reducible rfl
  try simp only [Act.put, List.setIfInBounds_toArray, List.set_cons_zero, List.set_cons_succ]
  refine wpAnyS_tk (i := 9) (by as_aux_lemma => kernel_rfl) (by intro c a d v w h; cases d <;> exact h) hSS (fun oi hoi => ?_)
  simp only [List.getElem?_toArray, List.getElem?_cons_zero, List.getElem?_cons_succ, Option.some.injEq] at hoi; subst hoi
  refine ⟨?_, by rfl, fun wx hSx => ?_, ?_⟩
  rotate_left
  · skip
    go_simp
    try with_reducible rfl
  try simp only [Act.put, List.setIfInBounds_toArray, List.set_cons_zero, List.set_cons_succ]
  refine wpAnyS_tk (i := 10) (by as_aux_lemma => kernel_rfl) (by intro c a d v w h; cases d <;> exact h) hSS (fun oi hoi => ?_)
  simp only [List.getElem?_toArray, List.getElem?_cons_zero, List.getElem?_cons_succ, Option.some.injEq] at hoi; subst hoi
  refine ⟨?_, by rfl, fun wx hSx => ?_, ?_⟩
  rotate_left
  · skip
    go_simp
    try with_reducible rfl
  try simp only [Act.put, List.setIfInBounds_toArray, List.set_cons_zero, List.set_cons_succ]
  refine wpAnyS_one (i := 3) (by as_aux_lemma => kernel_rfl) ?_
  intro oi hoi K hK
  simp only [List.getElem?_toArray, List.getElem?_cons_zero, List.getElem?_cons_succ, Option.some.injEq] at hoi; subst hoi
  go_simp
  go_at_call 47
  refine (OC.out _).mono ?_; rintro e w2 ⟨rfl, rfl⟩
  refine hK.out _ _ (fun _ => trivial) ?_
  clear hK K
  try simp only [Act.put, List.setIfInBounds_toArray, List.set_cons_zero, List.set_cons_succ]
  refine wpAnyS_tk (i := 7) (by as_aux_lemma => kernel_rfl) (by intro c a d v w h; cases d <;> exact h) hSS (fun oi hoi => ?_)
  simp only [List.getElem?_toArray, List.getElem?_cons_zero, List.getElem?_cons_succ, Option.some.injEq] at hoi; subst hoi
  refine ⟨?_, by rfl, fun wx hSx => ?_, ?_⟩
  rotate_left
  · skip
    go_simp
    try with_reducible rfl
  try simp only [Act.put, List.setIfInBounds_toArray, List.set_cons_zero, List.set_cons_succ]
  refine wpAnyS_one (i := 8) (by as_aux_lemma => kernel_rfl) ?_
  intro oi hoi K hK
  simp only [List.getElem?_toArray, List.getElem?_cons_zero, List.getElem?_cons_succ, Option.some.injEq] at hoi; subst hoi
  go_simp
  refine hK.out _ _ (fun _ => trivial) ?_
  clear hK K
  try simp only [Act.put, List.setIfInBounds_toArray, List.set_cons_zero, List.set_cons_succ]
  have H4 := Lib.hid (cb_setreg H3.out HL.out 0 (by omega) u)
  have HL4 : Hid ((s.r.set 0 u).length = 8) := Lib.hid (by rw [List.length_set]; exact HL.out)
  have q1 := cb_reg H4.out HL4.out 1 (by omega)
  have x1 := free_blk (blk_get H4.out) 1
  refine wpAnyS_tk (i := 11) (by as_aux_lemma => kernel_rfl) (by intro c a d v w h; cases d <;> exact h) trivial (fun oi hoi => ?_)
  simp only [List.getElem?_toArray, List.getElem?_cons_zero, List.getElem?_cons_succ, Option.some.injEq] at hoi; subst hoi
  refine ⟨?_, by rfl, fun wx hSx => ?_, ?_⟩
  rotate_left
  · skip
    go_simp
    try with_reducible rfl
  try simp only [Act.put, List.setIfInBounds_toArray, List.set_cons_zero, List.set_cons_succ]
  refine wpAnyS_one (i := 12) (by as_aux_lemma => kernel_rfl) ?_
  intro oi hoi K hK
  simp only [List.getElem?_toArray, List.getElem?_cons_zero, List.getElem?_cons_succ, Option.some.injEq] at hoi; subst hoi
  go_simp
  refine hK.out _ _ (fun h => absurd h (by decide)) ?_
  clear hK K
  try simp only [Act.put, List.setIfInBounds_toArray, List.set_cons_zero, List.set_cons_succ]
  refine wpAnyS_done (by as_aux_lemma => kernel_rfl) ?_ _
  have H5 := Lib.hid (cr_shut (s := { s with asked := false, r := (s.r.set 0 u).set 1 v }) (by show ((s.r.set 0 u).set 1 v).length = 8; rw [List.length_set]; exact HL4.out) HM.out (cb_setreg H4.out HL4.out 1 (by omega) v))
  go_wp2
  go_ret
  exact ⟨rfl, H5.out.drew⟩
end Go.Proofs.YtijkkompnfpdeaaGreatDoor
