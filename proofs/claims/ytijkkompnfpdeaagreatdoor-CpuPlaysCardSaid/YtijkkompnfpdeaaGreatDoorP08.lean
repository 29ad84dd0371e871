/- Cores: what an instruction does: two registers: walked. -/
import Derived.Test.YtijkkompnfpdeaaGreatDoorP05
set_option linter.unusedVariables false
set_option linter.unusedSimpArgs false
namespace Go.Proofs.YtijkkompnfpdeaaGreatDoor
open Go.RowKit Go.Joins Go.Shelf
attribute [local go_sem] Oper.semAt_some

theorem do_all (o : UInt8) (h1 : 3 ≤ o.toNat) (h2 : o.toNat ≤ 10) (a b : UInt32) (w : World) :
    Calls Tryz.prog 96 #[bv o, wv a, wv b] w fun e w' => e = .returned (.tuple #[wv (doP o.toNat a b), .int .i64 0]) ∧ Below w.heap.size w w' := by
  have h : o.toNat = 3 ∨ o.toNat = 4 ∨ o.toNat = 5 ∨ o.toNat = 6 ∨ o.toNat = 7 ∨ o.toNat = 8 ∨ o.toNat = 9 ∨ o.toNat = 10 := by omega
  unfold bv
  rcases h with h | h | h | h | h | h | h | h <;> rw [h]
  · exact do_3 a b w
  · exact do_4 a b w
  · exact do_5 a b w
  · exact do_6 a b w
  · exact do_7 a b w
  · exact do_8 a b w
  · exact do_9 a b w
  · exact do_10 a b w
theorem holds_all (o : UInt8) (h1 : 15 ≤ o.toNat) (h2 : o.toNat ≤ 18) (a b : UInt32) (w : World) :
    Calls Tryz.prog 99 #[bv o, wv a, wv b] w fun e w' => e = .returned (.tuple #[.bool (holdsP o.toNat a b), .int .i64 0]) ∧ Below w.heap.size w w' := by
  have h : o.toNat = 15 ∨ o.toNat = 16 ∨ o.toNat = 17 ∨ o.toNat = 18 := by omega
  unfold bv
  rcases h with h | h | h | h <;> rw [h]
  · exact holds_15 a b w
  · exact holds_16 a b w
  · exact holds_17 a b w
  · exact holds_18 a b w
set_option maxHeartbeats 8000000 in
set_option maxRecDepth 20000 in
theorem opA_c {w0 w : World} {r : List Thing} {b : Nat} {c : List I4} {s : Cs} (o x y z : UInt8) (ho : 3 ≤ o.toNat) (ho2 : o.toNat ≤ 10) (hx : x.toNat < 8) (hy : y.toNat < 8) (hz : z.toNat < 8) (H : Hp w0 w (CR b c s :: r)) :
    Calls Tryz.prog 95 #[.pointer (some ⟨b, 0, none⟩), i4v (o, x, y, z)] w fun e w' => e = .returned (.int .i64 0) ∧ Hp w0 w' (CR b c (wrg s x (doP o.toNat (rg s y) (rg s z))) :: r) := by
  obtain ⟨rb, mb, vc, vs, hl, hm, H2⟩ := cr_open H
  have H3 := blk_new H2 (.cells #[bv o, bv x, bv y, bv z] 26)
  have H4 : Hid (Hp w0 _ (XB w.heap.size (o, x, y, z) :: _)) := Lib.hid H3
  have HM := Lib.hid hm
  have HL := Lib.hid hl
  clear H H2 H3 hm hl
  have hx8 : (x.toNat : Int) < 8 := by omega
  have hy8 : (y.toNat : Int) < 8 := by omega
  have hz8 : (z.toNat : Int) < 8 := by omega
  have DC := Lib.hid (fun W => do_all o ho ho2 (rg s y) (rg s z) W)
  generalize doP o.toNat (rg s y) (rg s z) = u at *
  go_enter Tryz.func95, Tryz.ntmps95
  go_upto_region 1 with fail
  generalize w.heap.size = xb at *
  generalize (w.alloc (.cells #[bv o, bv x, bv y, bv z] 26)) = w1 at *
  refine wp_region_S 26 (SX b xb rb s (o, x, y, z)) (by as_aux_lemma => kernel_rfl) ?_
  have hSS : SX b xb rb s (o, x, y, z) w1.drew := sx_of H4.out.drew HL.out
  refine wpAnyS_tk (i := 0) (by as_aux_lemma => kernel_rfl) (by intro c a d v w h; cases d <;> exact h) hSS (fun oi hoi => ?_)
  simp only [List.getElem?_toArray, List.getElem?_cons_zero, List.getElem?_cons_succ, Option.some.injEq] at hoi; subst hoi
  refine ⟨?_, by rfl, fun wx hSx => ?_, ?_⟩
  rotate_left
  · obtain ⟨s0, s1, s2, s3, sg, sm⟩ := hSx; have g1 := sg y hy; have g2 := sg z hz; clear sg
    go_simp
    try with_reducible rfl
  try simp only [Act.put, List.setIfInBounds_toArray, List.set_cons_zero, List.set_cons_succ]
  refine wpAnyS_tk (i := 1) (by as_aux_lemma => kernel_rfl) (by intro c a d v w h; cases d <;> exact h) hSS (fun oi hoi => ?_)
  simp only [List.getElem?_toArray, List.getElem?_cons_zero, List.getElem?_cons_succ, Option.some.injEq] at hoi; subst hoi
  refine ⟨?_, by rfl, fun wx hSx => ?_, ?_⟩
  rotate_left
  · obtain ⟨s0, s1, s2, s3, sg, sm⟩ := hSx; have g1 := sg y hy; have g2 := sg z hz; clear sg
    go_simp
    try with_reducible rfl
  try simp only [Act.put, List.setIfInBounds_toArray, List.set_cons_zero, List.set_cons_succ]
  refine wpAnyS_tk (i := 2) (by as_aux_lemma => kernel_rfl) (by intro c a d v w h; cases d <;> exact h) hSS (fun oi hoi => ?_)
  simp only [List.getElem?_toArray, List.getElem?_cons_zero, List.getElem?_cons_succ, Option.some.injEq] at hoi; subst hoi
  refine ⟨?_, by rfl, fun wx hSx => ?_, ?_⟩
  rotate_left
  · obtain ⟨s0, s1, s2, s3, sg, sm⟩ := hSx; have g1 := sg y hy; have g2 := sg z hz; clear sg
    go_simp
    try with_reducible rfl
  try simp only [Act.put, List.setIfInBounds_toArray, List.set_cons_zero, List.set_cons_succ]
  refine wpAnyS_tk (i := 3) (by as_aux_lemma => kernel_rfl) (by intro c a d v w h; cases d <;> exact h) hSS (fun oi hoi => ?_)
  simp only [List.getElem?_toArray, List.getElem?_cons_zero, List.getElem?_cons_succ, Option.some.injEq] at hoi; subst hoi
  refine ⟨?_, by rfl, fun wx hSx => ?_, ?_⟩
  rotate_left
  · obtain ⟨s0, s1, s2, s3, sg, sm⟩ := hSx; have g1 := sg y hy; have g2 := sg z hz; clear sg
    go_simp
    try with_reducible rfl
  try simp only [Act.put, List.setIfInBounds_toArray, List.set_cons_zero, List.set_cons_succ]
  refine wpAnyS_tk (i := 4) (by as_aux_lemma => kernel_rfl) (by intro c a d v w h; cases d <;> exact h) hSS (fun oi hoi => ?_)
  simp only [List.getElem?_toArray, List.getElem?_cons_zero, List.getElem?_cons_succ, Option.some.injEq] at hoi; subst hoi
  refine ⟨?_, by rfl, fun wx hSx => ?_, ?_⟩
  rotate_left
  · obtain ⟨s0, s1, s2, s3, sg, sm⟩ := hSx; have g1 := sg y hy; have g2 := sg z hz; clear sg
    go_simp
    try with_reducible rfl
  try simp only [Act.put, List.setIfInBounds_toArray, List.set_cons_zero, List.set_cons_succ]
  refine wpAnyS_tk (i := 5) (by as_aux_lemma => kernel_rfl) (by intro c a d v w h; cases d <;> exact h) hSS (fun oi hoi => ?_)
  simp only [List.getElem?_toArray, List.getElem?_cons_zero, List.getElem?_cons_succ, Option.some.injEq] at hoi; subst hoi
  refine ⟨?_, by rfl, fun wx hSx => ?_, ?_⟩
  rotate_left
  · obtain ⟨s0, s1, s2, s3, sg, sm⟩ := hSx; have g1 := sg y hy; have g2 := sg z hz; clear sg
    go_simp
    try with_reducible rfl
  try simp only [Act.put, List.setIfInBounds_toArray, List.set_cons_zero, List.set_cons_succ]
  refine wpAnyS_tk (i := 6) (by as_aux_lemma => kernel_rfl) (by intro c a d v w h; cases d <;> exact h) hSS (fun oi hoi => ?_)
  simp only [List.getElem?_toArray, List.getElem?_cons_zero, List.getElem?_cons_succ, Option.some.injEq] at hoi; subst hoi
  refine ⟨?_, by rfl, fun wx hSx => ?_, ?_⟩
  rotate_left
  · obtain ⟨s0, s1, s2, s3, sg, sm⟩ := hSx; have g1 := sg y hy; have g2 := sg z hz; clear sg
    go_simp
    try with_reducible rfl
  try simp only [Act.put, List.setIfInBounds_toArray, List.set_cons_zero, List.set_cons_succ]
  refine wpAnyS_tk (i := 7) (by as_aux_lemma => kernel_rfl) (by intro c a d v w h; cases d <;> exact h) hSS (fun oi hoi => ?_)
  simp only [List.getElem?_toArray, List.getElem?_cons_zero, List.getElem?_cons_succ, Option.some.injEq] at hoi; subst hoi
  refine ⟨?_, by rfl, fun wx hSx => ?_, ?_⟩
  rotate_left
  · obtain ⟨s0, s1, s2, s3, sg, sm⟩ := hSx; have g1 := sg y hy; have g2 := sg z hz; clear sg
    go_simp
    try with_reducible rfl
  try simp only [Act.put, List.setIfInBounds_toArray, List.set_cons_zero, List.set_cons_succ]
  refine wpAnyS_tk (i := 8) (by as_aux_lemma => kernel_rfl) (by intro c a d v w h; cases d <;> exact h) hSS (fun oi hoi => ?_)
  simp only [List.getElem?_toArray, List.getElem?_cons_zero, List.getElem?_cons_succ, Option.some.injEq] at hoi; subst hoi
  refine ⟨?_, by rfl, fun wx hSx => ?_, ?_⟩
  rotate_left
  · obtain ⟨s0, s1, s2, s3, sg, sm⟩ := hSx; have g1 := sg y hy; have g2 := sg z hz; clear sg
    go_simp
    try with_reducible rfl
  try simp only [Act.put, List.setIfInBounds_toArray, List.set_cons_zero, List.set_cons_succ]
  refine wpAnyS_tk (i := 9) (by as_aux_lemma => kernel_rfl) (by intro c a d v w h; cases d <;> exact h) hSS (fun oi hoi => ?_)
  simp only [List.getElem?_toArray, List.getElem?_cons_zero, List.getElem?_cons_succ, Option.some.injEq] at hoi; subst hoi
  refine ⟨?_, by rfl, fun wx hSx => ?_, ?_⟩
  rotate_left
  · obtain ⟨s0, s1, s2, s3, sg, sm⟩ := hSx; have g1 := sg y hy; have g2 := sg z hz; clear sg
    go_simp
    try with_reducible rfl
  try simp only [Act.put, List.setIfInBounds_toArray, List.set_cons_zero, List.set_cons_succ]
  refine wpAnyS_tk (i := 10) (by as_aux_lemma => kernel_rfl) (by intro c a d v w h; cases d <;> exact h) hSS (fun oi hoi => ?_)
  simp only [List.getElem?_toArray, List.getElem?_cons_zero, List.getElem?_cons_succ, Option.some.injEq] at hoi; subst hoi
  refine ⟨?_, by rfl, fun wx hSx => ?_, ?_⟩
  rotate_left
  · obtain ⟨s0, s1, s2, s3, sg, sm⟩ := hSx; have g1 := sg y hy; have g2 := sg z hz; clear sg
    go_simp
    try with_reducible rfl
  try simp only [Act.put, List.setIfInBounds_toArray, List.set_cons_zero, List.set_cons_succ]
  refine wpAnyS_tk (i := 11) (by as_aux_lemma => kernel_rfl) (by intro c a d v w h; cases d <;> exact h) hSS (fun oi hoi => ?_)
  simp only [List.getElem?_toArray, List.getElem?_cons_zero, List.getElem?_cons_succ, Option.some.injEq] at hoi; subst hoi
  refine ⟨?_, by rfl, fun wx hSx => ?_, ?_⟩
  rotate_left
  · obtain ⟨s0, s1, s2, s3, sg, sm⟩ := hSx; have g1 := sg y hy; have g2 := sg z hz; clear sg
    go_simp
    try with_reducible rfl
  try simp only [Act.put, List.setIfInBounds_toArray, List.set_cons_zero, List.set_cons_succ]
  refine wpAnyS_tk (i := 12) (by as_aux_lemma => kernel_rfl) (by intro c a d v w h; cases d <;> exact h) hSS (fun oi hoi => ?_)
  simp only [List.getElem?_toArray, List.getElem?_cons_zero, List.getElem?_cons_succ, Option.some.injEq] at hoi; subst hoi
  refine ⟨?_, by rfl, fun wx hSx => ?_, ?_⟩
  rotate_left
  · obtain ⟨s0, s1, s2, s3, sg, sm⟩ := hSx; have g1 := sg y hy; have g2 := sg z hz; clear sg
    go_simp
    try with_reducible rfl
  try simp only [Act.put, List.setIfInBounds_toArray, List.set_cons_zero, List.set_cons_succ]
  refine wpAnyS_tk (i := 13) (by as_aux_lemma => kernel_rfl) (by intro c a d v w h; cases d <;> exact h) hSS (fun oi hoi => ?_)
  simp only [List.getElem?_toArray, List.getElem?_cons_zero, List.getElem?_cons_succ, Option.some.injEq] at hoi; subst hoi
  refine ⟨?_, by rfl, fun wx hSx => ?_, ?_⟩
  rotate_left
  · obtain ⟨s0, s1, s2, s3, sg, sm⟩ := hSx; have g1 := sg y hy; have g2 := sg z hz; clear sg
    go_simp
    try with_reducible rfl
  try simp only [Act.put, List.setIfInBounds_toArray, List.set_cons_zero, List.set_cons_succ]
  refine wpAnyS_tk (i := 14) (by as_aux_lemma => kernel_rfl) (by intro c a d v w h; cases d <;> exact h) hSS (fun oi hoi => ?_)
  simp only [List.getElem?_toArray, List.getElem?_cons_zero, List.getElem?_cons_succ, Option.some.injEq] at hoi; subst hoi
  refine ⟨?_, by rfl, fun wx hSx => ?_, ?_⟩
  rotate_left
  · obtain ⟨s0, s1, s2, s3, sg, sm⟩ := hSx; have g1 := sg y hy; have g2 := sg z hz; clear sg
    go_simp
    try with_reducible rfl
  try simp only [Act.put, List.setIfInBounds_toArray, List.set_cons_zero, List.set_cons_succ]
  refine wpAnyS_tk (i := 15) (by as_aux_lemma => kernel_rfl) (by intro c a d v w h; cases d <;> exact h) hSS (fun oi hoi => ?_)
  simp only [List.getElem?_toArray, List.getElem?_cons_zero, List.getElem?_cons_succ, Option.some.injEq] at hoi; subst hoi
  refine ⟨?_, by rfl, fun wx hSx => ?_, ?_⟩
  rotate_left
  · obtain ⟨s0, s1, s2, s3, sg, sm⟩ := hSx; have g1 := sg y hy; have g2 := sg z hz; clear sg
    go_simp
    try with_reducible rfl
  try simp only [Act.put, List.setIfInBounds_toArray, List.set_cons_zero, List.set_cons_succ]
  refine wpAnyS_tk (i := 16) (by as_aux_lemma => kernel_rfl) (by intro c a d v w h; cases d <;> exact h) hSS (fun oi hoi => ?_)
  simp only [List.getElem?_toArray, List.getElem?_cons_zero, List.getElem?_cons_succ, Option.some.injEq] at hoi; subst hoi
  refine ⟨?_, by rfl, fun wx hSx => ?_, ?_⟩
  rotate_left
  · obtain ⟨s0, s1, s2, s3, sg, sm⟩ := hSx; have g1 := sg y hy; have g2 := sg z hz; clear sg
    go_simp
    try with_reducible rfl
  try simp only [Act.put, List.setIfInBounds_toArray, List.set_cons_zero, List.set_cons_succ]
  refine wpAnyS_tk (i := 17) (by as_aux_lemma => kernel_rfl) (by intro c a d v w h; cases d <;> exact h) hSS (fun oi hoi => ?_)
  simp only [List.getElem?_toArray, List.getElem?_cons_zero, List.getElem?_cons_succ, Option.some.injEq] at hoi; subst hoi
  refine ⟨?_, by rfl, fun wx hSx => ?_, ?_⟩
  rotate_left
  · obtain ⟨s0, s1, s2, s3, sg, sm⟩ := hSx; have g1 := sg y hy; have g2 := sg z hz; clear sg
    go_simp
    try with_reducible rfl
  try simp only [Act.put, List.setIfInBounds_toArray, List.set_cons_zero, List.set_cons_succ]
  refine wpAnyS_tk (i := 18) (by as_aux_lemma => kernel_rfl) (by intro c a d v w h; cases d <;> exact h) hSS (fun oi hoi => ?_)
  simp only [List.getElem?_toArray, List.getElem?_cons_zero, List.getElem?_cons_succ, Option.some.injEq] at hoi; subst hoi
  refine ⟨?_, by rfl, fun wx hSx => ?_, ?_⟩
  rotate_left
  · obtain ⟨s0, s1, s2, s3, sg, sm⟩ := hSx; have g1 := sg y hy; have g2 := sg z hz; clear sg
    go_simp
    try with_reducible rfl
  try simp only [Act.put, List.setIfInBounds_toArray, List.set_cons_zero, List.set_cons_succ]
  refine wpAnyS_tk (i := 23) (by as_aux_lemma => kernel_rfl) (by intro c a d v w h; cases d <;> exact h) hSS (fun oi hoi => ?_)
  simp only [List.getElem?_toArray, List.getElem?_cons_zero, List.getElem?_cons_succ, Option.some.injEq] at hoi; subst hoi
  refine ⟨?_, by rfl, fun wx hSx => ?_, ?_⟩
  rotate_left
  · obtain ⟨s0, s1, s2, s3, sg, sm⟩ := hSx; have g1 := sg y hy; have g2 := sg z hz; clear sg
    go_simp
    try with_reducible rfl
  try simp only [Act.put, List.setIfInBounds_toArray, List.set_cons_zero, List.set_cons_succ]
  refine wpAnyS_tk (i := 24) (by as_aux_lemma => kernel_rfl) (by intro c a d v w h; cases d <;> exact h) hSS (fun oi hoi => ?_)
  simp only [List.getElem?_toArray, List.getElem?_cons_zero, List.getElem?_cons_succ, Option.some.injEq] at hoi; subst hoi
  refine ⟨?_, by rfl, fun wx hSx => ?_, ?_⟩
  rotate_left
  · obtain ⟨s0, s1, s2, s3, sg, sm⟩ := hSx; have g1 := sg y hy; have g2 := sg z hz; clear sg
    go_simp
    try with_reducible rfl
  try simp only [Act.put, List.setIfInBounds_toArray, List.set_cons_zero, List.set_cons_succ]
  refine wpAnyS_one (i := 19) (by as_aux_lemma => kernel_rfl) ?_
  intro oi hoi K hK
  simp only [List.getElem?_toArray, List.getElem?_cons_zero, List.getElem?_cons_succ, Option.some.injEq] at hoi; subst hoi
  go_simp
  go_at_call 96
  refine (DC.out _).mono ?_; rintro e w2 ⟨rfl, hb⟩
  have H5 := Lib.hid (H4.out.drew.below_read hb)
  clear hSS hb H4 DC
  have hSS : SX b xb rb s (o, x, y, z) w2 := sx_of H5.out HL.out
  refine hK.out _ _ (fun _ => hSS) ?_
  clear hK K
  try simp only [Act.put, List.setIfInBounds_toArray, List.set_cons_zero, List.set_cons_succ]
  refine wpAnyS_tk (i := 20) (by as_aux_lemma => kernel_rfl) (by intro c a d v w h; cases d <;> exact h) hSS (fun oi hoi => ?_)
  simp only [List.getElem?_toArray, List.getElem?_cons_zero, List.getElem?_cons_succ, Option.some.injEq] at hoi; subst hoi
  refine ⟨?_, by rfl, fun wx hSx => ?_, ?_⟩
  rotate_left
  · obtain ⟨s0, s1, s2, s3, sg, sm⟩ := hSx; have g1 := sg y hy; have g2 := sg z hz; clear sg
    go_simp
    try with_reducible rfl
  try simp only [Act.put, List.setIfInBounds_toArray, List.set_cons_zero, List.set_cons_succ]
  refine wpAnyS_tk (i := 21) (by as_aux_lemma => kernel_rfl) (by intro c a d v w h; cases d <;> exact h) hSS (fun oi hoi => ?_)
  simp only [List.getElem?_toArray, List.getElem?_cons_zero, List.getElem?_cons_succ, Option.some.injEq] at hoi; subst hoi
  refine ⟨?_, by rfl, fun wx hSx => ?_, ?_⟩
  rotate_left
  · obtain ⟨s0, s1, s2, s3, sg, sm⟩ := hSx; have g1 := sg y hy; have g2 := sg z hz; clear sg
    go_simp
    try with_reducible rfl
  try simp only [Act.put, List.setIfInBounds_toArray, List.set_cons_zero, List.set_cons_succ]
  refine wpAnyS_one (i := 22) (by as_aux_lemma => kernel_rfl) ?_
  intro oi hoi K hK
  simp only [List.getElem?_toArray, List.getElem?_cons_zero, List.getElem?_cons_succ, Option.some.injEq] at hoi; subst hoi
  go_simp
  go_at_call 83
  refine (must32_y _ _).mono ?_; rintro e w4 ⟨rfl, rfl⟩
  refine hK.out _ _ (fun _ => hSS) ?_
  clear hK K
  try simp only [Act.put, List.setIfInBounds_toArray, List.set_cons_zero, List.set_cons_succ]
  refine wpAnyS_tk (i := 25) (by as_aux_lemma => kernel_rfl) (by intro c a d v w h; cases d <;> exact h) hSS (fun oi hoi => ?_)
  simp only [List.getElem?_toArray, List.getElem?_cons_zero, List.getElem?_cons_succ, Option.some.injEq] at hoi; subst hoi
  refine ⟨?_, by rfl, fun wx hSx => ?_, ?_⟩
  rotate_left
  · obtain ⟨s0, s1, s2, s3, sg, sm⟩ := hSx; have g1 := sg y hy; have g2 := sg z hz; clear sg
    go_simp
    try with_reducible rfl
  try simp only [Act.put, List.setIfInBounds_toArray, List.set_cons_zero, List.set_cons_succ]
  have f0 := cb_reg H5.out.tail HL.out x.toNat hx
  have fz := free_blk (blk_get H5.out.tail) x.toNat
  refine wpAnyS_one (i := 26) (by as_aux_lemma => kernel_rfl) ?_
  intro oi hoi K hK
  simp only [List.getElem?_toArray, List.getElem?_cons_zero, List.getElem?_cons_succ, Option.some.injEq] at hoi; subst hoi
  go_simp
  refine hK.out _ _ (fun h => absurd h (by decide)) ?_
  clear hK K
  try simp only [Act.put, List.setIfInBounds_toArray, List.set_cons_zero, List.set_cons_succ]
  refine wpAnyS_done (by as_aux_lemma => kernel_rfl) ?_ _
  have HZ : Hid (Hp w0 _ (CR b c (wrg s x u) :: r)) := Lib.hid (cr_shut (s := wrg s x u) (by simpa [wrg] using HL.out) HM.out (cb_setreg H5.out.tail HL.out x.toNat hx u))
  clear hSS H5 HL HM f0 fz
  go_wp2
  go_ret
  exact ⟨rfl, HZ.out⟩
set_option maxHeartbeats 8000000 in
set_option maxRecDepth 20000 in
theorem opC_c {w0 w : World} {r : List Thing} {b : Nat} {c : List I4} {s : Cs} (o x y z : UInt8) (ho : 15 ≤ o.toNat) (ho2 : o.toNat ≤ 18) (hx : x.toNat < 8) (hy : y.toNat < 8) (H : Hp w0 w (CR b c s :: r)) :
    Calls Tryz.prog 97 #[.pointer (some ⟨b, 0, none⟩), i4v (o, x, y, z)] w fun e w' => e = .returned (.int .i64 (if holdsP o.toNat (rg s x) (rg s y) then s8 z else 0)) ∧ Hp w0 w' (CR b c s :: r) := by
  obtain ⟨rb, mb, vc, vs, hl, hm, H2⟩ := cr_open H
  have H3 := blk_new H2 (.cells #[bv o, bv x, bv y, bv z] 26)
  have H4 : Hid (Hp w0 _ (XB w.heap.size (o, x, y, z) :: _)) := Lib.hid H3
  have HM := Lib.hid hm
  have HL := Lib.hid hl
  clear H H2 H3 hm hl
  have hx8 : (x.toNat : Int) < 8 := by omega
  have hy8 : (y.toNat : Int) < 8 := by omega
  have DC := Lib.hid (fun W => holds_all o ho ho2 (rg s x) (rg s y) W)
  generalize holdsP o.toNat (rg s x) (rg s y) = k at *
  generalize hv : (if k = true then s8 z else 0) = v
  have HV := Lib.hid hv
  clear hv
  go_enter Tryz.func97, Tryz.ntmps97
  go_upto_region 1 with fail
  generalize w.heap.size = xb at *
  generalize (w.alloc (.cells #[bv o, bv x, bv y, bv z] 26)) = w1 at *
  refine wp_region_S 19 (SX b xb rb s (o, x, y, z)) (by as_aux_lemma => kernel_rfl) ?_
  have hSS : SX b xb rb s (o, x, y, z) w1.drew := sx_of H4.out.drew HL.out
  refine wpAnyS_tk (i := 0) (by as_aux_lemma => kernel_rfl) (by intro c a d v w h; cases d <;> exact h) hSS (fun oi hoi => ?_)
  simp only [List.getElem?_toArray, List.getElem?_cons_zero, List.getElem?_cons_succ, Option.some.injEq] at hoi; subst hoi
  refine ⟨?_, by rfl, fun wx hSx => ?_, ?_⟩
  rotate_left
  · obtain ⟨s0, s1, s2, s3, sg, sm⟩ := hSx; have g0 := sg x hx; have g1 := sg y hy; clear sg
    go_simp
    try with_reducible rfl
  try simp only [Act.put, List.setIfInBounds_toArray, List.set_cons_zero, List.set_cons_succ]
  refine wpAnyS_tk (i := 1) (by as_aux_lemma => kernel_rfl) (by intro c a d v w h; cases d <;> exact h) hSS (fun oi hoi => ?_)
  simp only [List.getElem?_toArray, List.getElem?_cons_zero, List.getElem?_cons_succ, Option.some.injEq] at hoi; subst hoi
  refine ⟨?_, by rfl, fun wx hSx => ?_, ?_⟩
  rotate_left
  · obtain ⟨s0, s1, s2, s3, sg, sm⟩ := hSx; have g0 := sg x hx; have g1 := sg y hy; clear sg
    go_simp
    try with_reducible rfl
  try simp only [Act.put, List.setIfInBounds_toArray, List.set_cons_zero, List.set_cons_succ]
  refine wpAnyS_tk (i := 2) (by as_aux_lemma => kernel_rfl) (by intro c a d v w h; cases d <;> exact h) hSS (fun oi hoi => ?_)
  simp only [List.getElem?_toArray, List.getElem?_cons_zero, List.getElem?_cons_succ, Option.some.injEq] at hoi; subst hoi
  refine ⟨?_, by rfl, fun wx hSx => ?_, ?_⟩
  rotate_left
  · obtain ⟨s0, s1, s2, s3, sg, sm⟩ := hSx; have g0 := sg x hx; have g1 := sg y hy; clear sg
    go_simp
    try with_reducible rfl
  try simp only [Act.put, List.setIfInBounds_toArray, List.set_cons_zero, List.set_cons_succ]
  refine wpAnyS_tk (i := 3) (by as_aux_lemma => kernel_rfl) (by intro c a d v w h; cases d <;> exact h) hSS (fun oi hoi => ?_)
  simp only [List.getElem?_toArray, List.getElem?_cons_zero, List.getElem?_cons_succ, Option.some.injEq] at hoi; subst hoi
  refine ⟨?_, by rfl, fun wx hSx => ?_, ?_⟩
  rotate_left
  · obtain ⟨s0, s1, s2, s3, sg, sm⟩ := hSx; have g0 := sg x hx; have g1 := sg y hy; clear sg
    go_simp
    try with_reducible rfl
  try simp only [Act.put, List.setIfInBounds_toArray, List.set_cons_zero, List.set_cons_succ]
  refine wpAnyS_tk (i := 4) (by as_aux_lemma => kernel_rfl) (by intro c a d v w h; cases d <;> exact h) hSS (fun oi hoi => ?_)
  simp only [List.getElem?_toArray, List.getElem?_cons_zero, List.getElem?_cons_succ, Option.some.injEq] at hoi; subst hoi
  refine ⟨?_, by rfl, fun wx hSx => ?_, ?_⟩
  rotate_left
  · obtain ⟨s0, s1, s2, s3, sg, sm⟩ := hSx; have g0 := sg x hx; have g1 := sg y hy; clear sg
    go_simp
    try with_reducible rfl
  try simp only [Act.put, List.setIfInBounds_toArray, List.set_cons_zero, List.set_cons_succ]
  refine wpAnyS_tk (i := 5) (by as_aux_lemma => kernel_rfl) (by intro c a d v w h; cases d <;> exact h) hSS (fun oi hoi => ?_)
  simp only [List.getElem?_toArray, List.getElem?_cons_zero, List.getElem?_cons_succ, Option.some.injEq] at hoi; subst hoi
  refine ⟨?_, by rfl, fun wx hSx => ?_, ?_⟩
  rotate_left
  · obtain ⟨s0, s1, s2, s3, sg, sm⟩ := hSx; have g0 := sg x hx; have g1 := sg y hy; clear sg
    go_simp
    try with_reducible rfl
  try simp only [Act.put, List.setIfInBounds_toArray, List.set_cons_zero, List.set_cons_succ]
  refine wpAnyS_tk (i := 6) (by as_aux_lemma => kernel_rfl) (by intro c a d v w h; cases d <;> exact h) hSS (fun oi hoi => ?_)
  simp only [List.getElem?_toArray, List.getElem?_cons_zero, List.getElem?_cons_succ, Option.some.injEq] at hoi; subst hoi
  refine ⟨?_, by rfl, fun wx hSx => ?_, ?_⟩
  rotate_left
  · obtain ⟨s0, s1, s2, s3, sg, sm⟩ := hSx; have g0 := sg x hx; have g1 := sg y hy; clear sg
    go_simp
    try with_reducible rfl
  try simp only [Act.put, List.setIfInBounds_toArray, List.set_cons_zero, List.set_cons_succ]
  refine wpAnyS_tk (i := 7) (by as_aux_lemma => kernel_rfl) (by intro c a d v w h; cases d <;> exact h) hSS (fun oi hoi => ?_)
  simp only [List.getElem?_toArray, List.getElem?_cons_zero, List.getElem?_cons_succ, Option.some.injEq] at hoi; subst hoi
  refine ⟨?_, by rfl, fun wx hSx => ?_, ?_⟩
  rotate_left
  · obtain ⟨s0, s1, s2, s3, sg, sm⟩ := hSx; have g0 := sg x hx; have g1 := sg y hy; clear sg
    go_simp
    try with_reducible rfl
  try simp only [Act.put, List.setIfInBounds_toArray, List.set_cons_zero, List.set_cons_succ]
  refine wpAnyS_tk (i := 8) (by as_aux_lemma => kernel_rfl) (by intro c a d v w h; cases d <;> exact h) hSS (fun oi hoi => ?_)
  simp only [List.getElem?_toArray, List.getElem?_cons_zero, List.getElem?_cons_succ, Option.some.injEq] at hoi; subst hoi
  refine ⟨?_, by rfl, fun wx hSx => ?_, ?_⟩
  rotate_left
  · obtain ⟨s0, s1, s2, s3, sg, sm⟩ := hSx; have g0 := sg x hx; have g1 := sg y hy; clear sg
    go_simp
    try with_reducible rfl
  try simp only [Act.put, List.setIfInBounds_toArray, List.set_cons_zero, List.set_cons_succ]
  refine wpAnyS_tk (i := 9) (by as_aux_lemma => kernel_rfl) (by intro c a d v w h; cases d <;> exact h) hSS (fun oi hoi => ?_)
  simp only [List.getElem?_toArray, List.getElem?_cons_zero, List.getElem?_cons_succ, Option.some.injEq] at hoi; subst hoi
  refine ⟨?_, by rfl, fun wx hSx => ?_, ?_⟩
  rotate_left
  · obtain ⟨s0, s1, s2, s3, sg, sm⟩ := hSx; have g0 := sg x hx; have g1 := sg y hy; clear sg
    go_simp
    try with_reducible rfl
  try simp only [Act.put, List.setIfInBounds_toArray, List.set_cons_zero, List.set_cons_succ]
  refine wpAnyS_tk (i := 10) (by as_aux_lemma => kernel_rfl) (by intro c a d v w h; cases d <;> exact h) hSS (fun oi hoi => ?_)
  simp only [List.getElem?_toArray, List.getElem?_cons_zero, List.getElem?_cons_succ, Option.some.injEq] at hoi; subst hoi
  refine ⟨?_, by rfl, fun wx hSx => ?_, ?_⟩
  rotate_left
  · obtain ⟨s0, s1, s2, s3, sg, sm⟩ := hSx; have g0 := sg x hx; have g1 := sg y hy; clear sg
    go_simp
    try with_reducible rfl
  try simp only [Act.put, List.setIfInBounds_toArray, List.set_cons_zero, List.set_cons_succ]
  refine wpAnyS_tk (i := 11) (by as_aux_lemma => kernel_rfl) (by intro c a d v w h; cases d <;> exact h) hSS (fun oi hoi => ?_)
  simp only [List.getElem?_toArray, List.getElem?_cons_zero, List.getElem?_cons_succ, Option.some.injEq] at hoi; subst hoi
  refine ⟨?_, by rfl, fun wx hSx => ?_, ?_⟩
  rotate_left
  · obtain ⟨s0, s1, s2, s3, sg, sm⟩ := hSx; have g0 := sg x hx; have g1 := sg y hy; clear sg
    go_simp
    try with_reducible rfl
  try simp only [Act.put, List.setIfInBounds_toArray, List.set_cons_zero, List.set_cons_succ]
  refine wpAnyS_tk (i := 12) (by as_aux_lemma => kernel_rfl) (by intro c a d v w h; cases d <;> exact h) hSS (fun oi hoi => ?_)
  simp only [List.getElem?_toArray, List.getElem?_cons_zero, List.getElem?_cons_succ, Option.some.injEq] at hoi; subst hoi
  refine ⟨?_, by rfl, fun wx hSx => ?_, ?_⟩
  rotate_left
  · obtain ⟨s0, s1, s2, s3, sg, sm⟩ := hSx; have g0 := sg x hx; have g1 := sg y hy; clear sg
    go_simp
    try with_reducible rfl
  try simp only [Act.put, List.setIfInBounds_toArray, List.set_cons_zero, List.set_cons_succ]
  refine wpAnyS_tk (i := 13) (by as_aux_lemma => kernel_rfl) (by intro c a d v w h; cases d <;> exact h) hSS (fun oi hoi => ?_)
  simp only [List.getElem?_toArray, List.getElem?_cons_zero, List.getElem?_cons_succ, Option.some.injEq] at hoi; subst hoi
  refine ⟨?_, by rfl, fun wx hSx => ?_, ?_⟩
  rotate_left
  · obtain ⟨s0, s1, s2, s3, sg, sm⟩ := hSx; have g0 := sg x hx; have g1 := sg y hy; clear sg
    go_simp
    try with_reducible rfl
  try simp only [Act.put, List.setIfInBounds_toArray, List.set_cons_zero, List.set_cons_succ]
  refine wpAnyS_tk (i := 14) (by as_aux_lemma => kernel_rfl) (by intro c a d v w h; cases d <;> exact h) hSS (fun oi hoi => ?_)
  simp only [List.getElem?_toArray, List.getElem?_cons_zero, List.getElem?_cons_succ, Option.some.injEq] at hoi; subst hoi
  refine ⟨?_, by rfl, fun wx hSx => ?_, ?_⟩
  rotate_left
  · obtain ⟨s0, s1, s2, s3, sg, sm⟩ := hSx; have g0 := sg x hx; have g1 := sg y hy; clear sg
    go_simp
    try with_reducible rfl
  try simp only [Act.put, List.setIfInBounds_toArray, List.set_cons_zero, List.set_cons_succ]
  refine wpAnyS_tk (i := 15) (by as_aux_lemma => kernel_rfl) (by intro c a d v w h; cases d <;> exact h) hSS (fun oi hoi => ?_)
  simp only [List.getElem?_toArray, List.getElem?_cons_zero, List.getElem?_cons_succ, Option.some.injEq] at hoi; subst hoi
  refine ⟨?_, by rfl, fun wx hSx => ?_, ?_⟩
  rotate_left
  · obtain ⟨s0, s1, s2, s3, sg, sm⟩ := hSx; have g0 := sg x hx; have g1 := sg y hy; clear sg
    go_simp
    try with_reducible rfl
  try simp only [Act.put, List.setIfInBounds_toArray, List.set_cons_zero, List.set_cons_succ]
  refine wpAnyS_one (i := 16) (by as_aux_lemma => kernel_rfl) ?_
  intro oi hoi K hK
  simp only [List.getElem?_toArray, List.getElem?_cons_zero, List.getElem?_cons_succ, Option.some.injEq] at hoi; subst hoi
  go_simp
  go_at_call 99
  refine (DC.out _).mono ?_; rintro e w2 ⟨rfl, hb⟩
  have H5 := Lib.hid (H4.out.drew.below_read hb)
  clear hSS hb H4 DC
  have hSS : SX b xb rb s (o, x, y, z) w2 := sx_of H5.out HL.out
  refine hK.out _ _ (fun _ => hSS) ?_
  clear hK K
  try simp only [Act.put, List.setIfInBounds_toArray, List.set_cons_zero, List.set_cons_succ]
  refine wpAnyS_tk (i := 17) (by as_aux_lemma => kernel_rfl) (by intro c a d v w h; cases d <;> exact h) hSS (fun oi hoi => ?_)
  simp only [List.getElem?_toArray, List.getElem?_cons_zero, List.getElem?_cons_succ, Option.some.injEq] at hoi; subst hoi
  refine ⟨?_, by rfl, fun wx hSx => ?_, ?_⟩
  rotate_left
  · obtain ⟨s0, s1, s2, s3, sg, sm⟩ := hSx; have g0 := sg x hx; have g1 := sg y hy; clear sg
    go_simp
    try with_reducible rfl
  try simp only [Act.put, List.setIfInBounds_toArray, List.set_cons_zero, List.set_cons_succ]
  refine wpAnyS_tk (i := 18) (by as_aux_lemma => kernel_rfl) (by intro c a d v w h; cases d <;> exact h) hSS (fun oi hoi => ?_)
  simp only [List.getElem?_toArray, List.getElem?_cons_zero, List.getElem?_cons_succ, Option.some.injEq] at hoi; subst hoi
  refine ⟨?_, by rfl, fun wx hSx => ?_, ?_⟩
  rotate_left
  · obtain ⟨s0, s1, s2, s3, sg, sm⟩ := hSx; have g0 := sg x hx; have g1 := sg y hy; clear sg
    go_simp
    try with_reducible rfl
  try simp only [Act.put, List.setIfInBounds_toArray, List.set_cons_zero, List.set_cons_succ]
  refine wpAnyS_one (i := 19) (by as_aux_lemma => kernel_rfl) ?_
  intro oi hoi K hK
  simp only [List.getElem?_toArray, List.getElem?_cons_zero, List.getElem?_cons_succ, Option.some.injEq] at hoi; subst hoi
  go_simp
  go_at_call 98
  refine (mustb_y _ _).mono ?_; rintro e w4 ⟨rfl, rfl⟩
  refine hK.out _ _ (fun h => absurd h (by decide)) ?_
  clear hK K
  try simp only [Act.put, List.setIfInBounds_toArray, List.set_cons_zero, List.set_cons_succ]
  refine wpAnyS_done (by as_aux_lemma => kernel_rfl) ?_ _
  have c3 := hSS.x3
  have q1 := w8_i8 z
  have q2 : IntKind.i64.wrap (s8 z) = s8 z := by have := s8_b z; rw [IntKind.wrap_i64]; omega
  have HZ : Hid (Hp w0 w4 (CR b c s :: r)) := Lib.hid (cr_shut HL.out HM.out H5.out.tail)
  clear hSS H5 HL HM
  cases k
  · obtain rfl : 0 = v := HV.out
    go_wp2
    go_ret
    exact ⟨rfl, HZ.out⟩
  · have e : s8 z = v := HV.out
    rw [e] at q1 q2
    clear e HV
    go_wp2
    go_ret
    exact ⟨rfl, HZ.out⟩
end Go.Proofs.YtijkkompnfpdeaaGreatDoor
