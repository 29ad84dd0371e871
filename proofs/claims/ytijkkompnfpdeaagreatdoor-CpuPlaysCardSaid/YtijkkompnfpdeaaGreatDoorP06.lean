/- Cores: what an instruction does: byte: walked. Cores: what an instruction does: store: walked. -/
import Derived.Test.YtijkkompnfpdeaaGreatDoorP05
set_option linter.unusedVariables false
set_option linter.unusedSimpArgs false
namespace Go.Proofs.YtijkkompnfpdeaaGreatDoor
open Go.RowKit Go.Joins Go.Shelf
attribute [local go_sem] Oper.semAt_some

set_option maxHeartbeats 8000000 in
set_option maxRecDepth 20000 in
theorem op13y_c {w0 w : World} {r : List Thing} {b ab : Nat} {c : List I4} {s : Cs} (o x y z : UInt8) (hx : x.toNat < 8) (hy : y.toNat < 8) (hf : (plc s (o, x, y, z)).toNat + 1 ≤ s.mem.length) (H : Hp w0 w (CR b c s :: AB ab :: r)) :
    Calls Tryz.prog 85 #[.pointer (some ⟨b, 0, none⟩), i4v (o, x, y, z), .pointer (some ⟨ab, 0, none⟩)] w fun e w' => e = .returned (.int .i64 0) ∧ Hp w0 w' (CR b c (wrg s x (UInt32.ofNat (s.mem.getD (plc s (o, x, y, z)).toNat 0).toNat)) :: AB ab :: r) := by
  obtain ⟨rb, mb, vc, vs, hl, hm, H2⟩ := cr_open H
  have H3 := blk_new H2 (.cells #[bv o, bv x, bv y, bv z] 26)
  have H4 : Hid (Hp w0 _ (XB w.heap.size (o, x, y, z) :: _)) := Lib.hid H3
  have HM := Lib.hid hm
  have HL := Lib.hid hl
  have HF := Lib.hid hf
  have AC := Lib.hid (fun W h => at_s b s o x y z hy W h)
  generalize plc s (o, x, y, z) = p at *
  clear H H2 H3 hm hl hf
  have hx8 : (x.toNat : Int) < 8 := by omega
  have hy8 : (y.toNat : Int) < 8 := by omega
  have WC := Lib.hid (fun W r0 r1 hc => byte_y rb mb s.mem p W HF.out HM.out r0 r1 hc)
  generalize s.mem.getD p.toNat 0 = d at *
  have q1 : IntKind.u32.wrap (d.toNat : Int) = ((UInt32.ofNat d.toNat).toNat : Int) := by rw [w8_32, UInt32.toNat_ofNat', Nat.mod_eq_of_lt (by have := d.toNat_lt; omega)]
  generalize UInt32.ofNat d.toNat = u at *
  go_enter Tryz.func85, Tryz.ntmps85
  go_upto_region 1 with fail
  generalize w.heap.size = xb at *
  generalize (w.alloc (.cells #[bv o, bv x, bv y, bv z] 26)) = w1 at *
  refine wp_region_S 12 (SS b xb rb ab s (o, x, y, z)) (by as_aux_lemma => kernel_rfl) ?_
  have hSS : SS b xb rb ab s (o, x, y, z) w1.drew := ss_of H4.out.drew HL.out
  refine wpAnyS_tk (i := 0) (by as_aux_lemma => kernel_rfl) (by intro c a d v w h; cases d <;> exact h) hSS (fun oi hoi => ?_)
  simp only [List.getElem?_toArray, List.getElem?_cons_zero, List.getElem?_cons_succ, Option.some.injEq] at hoi; subst hoi
  refine ⟨?_, by rfl, fun wx hSx => ?_, ?_⟩
  rotate_left
  · obtain ⟨⟨s0, s1, s2, s3, sg, sm⟩, sa⟩ := hSx; have g0 := sg x hx; have g1 := sg y hy; clear sg
    go_simp
    try with_reducible rfl
  try simp only [Act.put, List.setIfInBounds_toArray, List.set_cons_zero, List.set_cons_succ]
  refine wpAnyS_tk (i := 1) (by as_aux_lemma => kernel_rfl) (by intro c a d v w h; cases d <;> exact h) hSS (fun oi hoi => ?_)
  simp only [List.getElem?_toArray, List.getElem?_cons_zero, List.getElem?_cons_succ, Option.some.injEq] at hoi; subst hoi
  refine ⟨?_, by rfl, fun wx hSx => ?_, ?_⟩
  rotate_left
  · obtain ⟨⟨s0, s1, s2, s3, sg, sm⟩, sa⟩ := hSx; have g0 := sg x hx; have g1 := sg y hy; clear sg
    go_simp
    try with_reducible rfl
  try simp only [Act.put, List.setIfInBounds_toArray, List.set_cons_zero, List.set_cons_succ]
  refine wpAnyS_tk (i := 2) (by as_aux_lemma => kernel_rfl) (by intro c a d v w h; cases d <;> exact h) hSS (fun oi hoi => ?_)
  simp only [List.getElem?_toArray, List.getElem?_cons_zero, List.getElem?_cons_succ, Option.some.injEq] at hoi; subst hoi
  refine ⟨?_, by rfl, fun wx hSx => ?_, ?_⟩
  rotate_left
  · obtain ⟨⟨s0, s1, s2, s3, sg, sm⟩, sa⟩ := hSx; have g0 := sg x hx; have g1 := sg y hy; clear sg
    go_simp
    try with_reducible rfl
  try simp only [Act.put, List.setIfInBounds_toArray, List.set_cons_zero, List.set_cons_succ]
  refine wpAnyS_tk (i := 3) (by as_aux_lemma => kernel_rfl) (by intro c a d v w h; cases d <;> exact h) hSS (fun oi hoi => ?_)
  simp only [List.getElem?_toArray, List.getElem?_cons_zero, List.getElem?_cons_succ, Option.some.injEq] at hoi; subst hoi
  refine ⟨?_, by rfl, fun wx hSx => ?_, ?_⟩
  rotate_left
  · obtain ⟨⟨s0, s1, s2, s3, sg, sm⟩, sa⟩ := hSx; have g0 := sg x hx; have g1 := sg y hy; clear sg
    go_simp
    try with_reducible rfl
  try simp only [Act.put, List.setIfInBounds_toArray, List.set_cons_zero, List.set_cons_succ]
  refine wpAnyS_tk (i := 4) (by as_aux_lemma => kernel_rfl) (by intro c a d v w h; cases d <;> exact h) hSS (fun oi hoi => ?_)
  simp only [List.getElem?_toArray, List.getElem?_cons_zero, List.getElem?_cons_succ, Option.some.injEq] at hoi; subst hoi
  refine ⟨?_, by rfl, fun wx hSx => ?_, ?_⟩
  rotate_left
  · obtain ⟨⟨s0, s1, s2, s3, sg, sm⟩, sa⟩ := hSx; have g0 := sg x hx; have g1 := sg y hy; clear sg
    go_simp
    try with_reducible rfl
  try simp only [Act.put, List.setIfInBounds_toArray, List.set_cons_zero, List.set_cons_succ]
  refine wpAnyS_tk (i := 5) (by as_aux_lemma => kernel_rfl) (by intro c a d v w h; cases d <;> exact h) hSS (fun oi hoi => ?_)
  simp only [List.getElem?_toArray, List.getElem?_cons_zero, List.getElem?_cons_succ, Option.some.injEq] at hoi; subst hoi
  refine ⟨?_, by rfl, fun wx hSx => ?_, ?_⟩
  rotate_left
  · obtain ⟨⟨s0, s1, s2, s3, sg, sm⟩, sa⟩ := hSx; have g0 := sg x hx; have g1 := sg y hy; clear sg
    go_simp
    try with_reducible rfl
  try simp only [Act.put, List.setIfInBounds_toArray, List.set_cons_zero, List.set_cons_succ]
  refine wpAnyS_tk (i := 6) (by as_aux_lemma => kernel_rfl) (by intro c a d v w h; cases d <;> exact h) hSS (fun oi hoi => ?_)
  simp only [List.getElem?_toArray, List.getElem?_cons_zero, List.getElem?_cons_succ, Option.some.injEq] at hoi; subst hoi
  refine ⟨?_, by rfl, fun wx hSx => ?_, ?_⟩
  rotate_left
  · obtain ⟨⟨s0, s1, s2, s3, sg, sm⟩, sa⟩ := hSx; have g0 := sg x hx; have g1 := sg y hy; clear sg
    go_simp
    try with_reducible rfl
  try simp only [Act.put, List.setIfInBounds_toArray, List.set_cons_zero, List.set_cons_succ]
  refine wpAnyS_one (i := 7) (by as_aux_lemma => kernel_rfl) ?_
  intro oi hoi K hK
  simp only [List.getElem?_toArray, List.getElem?_cons_zero, List.getElem?_cons_succ, Option.some.injEq] at hoi; subst hoi
  go_simp
  go_at_call 78
  refine (AC.out _ (hSS.sx.rg y hy)).mono ?_; rintro e w2 ⟨rfl, hb⟩
  have H5 := Lib.hid (H4.out.drew.below_read hb)
  clear hSS hb H4 AC
  have hSS : SS b xb rb ab s (o, x, y, z) w2 := ss_of H5.out HL.out
  refine hK.out _ _ (fun _ => hSS) ?_
  clear hK K
  try simp only [Act.put, List.setIfInBounds_toArray, List.set_cons_zero, List.set_cons_succ]
  have r0 : w2.cell? ⟨rb, 0, none⟩ = _ := cell_blk (blk_get (H5.out.pull 3 rfl)) 0
  have r1 : w2.cell? ⟨rb, 1, none⟩ = _ := cell_blk (blk_get (H5.out.pull 3 rfl)) 1
  refine wpAnyS_one (i := 8) (by as_aux_lemma => kernel_rfl) ?_
  intro oi hoi K hK
  simp only [List.getElem?_toArray, List.getElem?_cons_zero, List.getElem?_cons_succ, Option.some.injEq] at hoi; subst hoi
  go_simp
  go_at_call 87
  refine (WC.out w2 r0 r1 (fun k hk => mb_cell (H5.out.pull 2 rfl) hk)).mono ?_; rintro e w3 ⟨rfl, rfl⟩
  refine hK.out _ _ (fun _ => hSS) ?_
  clear hK K
  try simp only [Act.put, List.setIfInBounds_toArray, List.set_cons_zero, List.set_cons_succ]
  refine wpAnyS_tk (i := 9) (by as_aux_lemma => kernel_rfl) (by intro c a d v w h; cases d <;> exact h) hSS (fun oi hoi => ?_)
  simp only [List.getElem?_toArray, List.getElem?_cons_zero, List.getElem?_cons_succ, Option.some.injEq] at hoi; subst hoi
  refine ⟨?_, by rfl, fun wx hSx => ?_, ?_⟩
  rotate_left
  · obtain ⟨⟨s0, s1, s2, s3, sg, sm⟩, sa⟩ := hSx; have g0 := sg x hx; have g1 := sg y hy; clear sg
    go_simp
    try with_reducible rfl
  try simp only [Act.put, List.setIfInBounds_toArray, List.set_cons_zero, List.set_cons_succ]
  refine wpAnyS_tk (i := 10) (by as_aux_lemma => kernel_rfl) (by intro c a d v w h; cases d <;> exact h) hSS (fun oi hoi => ?_)
  simp only [List.getElem?_toArray, List.getElem?_cons_zero, List.getElem?_cons_succ, Option.some.injEq] at hoi; subst hoi
  refine ⟨?_, by rfl, fun wx hSx => ?_, ?_⟩
  rotate_left
  · obtain ⟨⟨s0, s1, s2, s3, sg, sm⟩, sa⟩ := hSx; have g0 := sg x hx; have g1 := sg y hy; clear sg
    go_simp
    try with_reducible rfl
  try simp only [Act.put, List.setIfInBounds_toArray, List.set_cons_zero, List.set_cons_succ]
  refine wpAnyS_one (i := 11) (by as_aux_lemma => kernel_rfl) ?_
  intro oi hoi K hK
  simp only [List.getElem?_toArray, List.getElem?_cons_zero, List.getElem?_cons_succ, Option.some.injEq] at hoi; subst hoi
  go_simp
  go_at_call 86
  refine (must8_y _ _).mono ?_; rintro e w4 ⟨rfl, rfl⟩
  refine hK.out _ _ (fun _ => hSS) ?_
  clear hK K
  try simp only [Act.put, List.setIfInBounds_toArray, List.set_cons_zero, List.set_cons_succ]
  refine wpAnyS_one (i := 12) (by as_aux_lemma => kernel_rfl) ?_
  intro oi hoi K hK
  simp only [List.getElem?_toArray, List.getElem?_cons_zero, List.getElem?_cons_succ, Option.some.injEq] at hoi; subst hoi
  go_simp
  refine hK.out _ _ (fun h => absurd h (by decide)) ?_
  clear hK K
  try simp only [Act.put, List.setIfInBounds_toArray, List.set_cons_zero, List.set_cons_succ]
  refine wpAnyS_done (by as_aux_lemma => kernel_rfl) ?_ _
  have f0 := cb_reg H5.out.tail HL.out x.toNat hx
  have fz := free_blk (blk_get H5.out.tail) x.toNat
  have c1 := hSS.sx.x1
  have HZ : Hid (Hp w0 _ (CR b c (wrg s x u) :: AB ab :: r)) := Lib.hid (cr_shut (s := wrg s x u) (by simpa [wrg] using HL.out) HM.out (cb_setreg H5.out.tail HL.out x.toNat hx u))
  clear hSS H5 HL HM HF r0 r1 WC
  go_wp2
  go_region
  go_wp2
  go_ret
  exact ⟨rfl, HZ.out.drew⟩
set_option maxHeartbeats 8000000 in
set_option maxRecDepth 20000 in
theorem op13n_c {w0 w : World} {r : List Thing} {b ab : Nat} {c : List I4} {s : Cs} (o x y z : UInt8) (hx : x.toNat < 8) (hy : y.toNat < 8) (hf : ¬ (plc s (o, x, y, z)).toNat + 1 ≤ s.mem.length) (H : Hp w0 w (CR b c s :: AB ab :: r)) :
    Calls Tryz.prog 85 #[.pointer (some ⟨b, 0, none⟩), i4v (o, x, y, z), .pointer (some ⟨ab, 0, none⟩)] w fun e w' => e = .panicked [PE 4] ∧ Hp w0 w' (CR b c s :: AB ab :: r) := by
  obtain ⟨rb, mb, vc, vs, hl, hm, H2⟩ := cr_open H
  have H3 := blk_new H2 (.cells #[bv o, bv x, bv y, bv z] 26)
  have H4 : Hid (Hp w0 _ (XB w.heap.size (o, x, y, z) :: _)) := Lib.hid H3
  have HM := Lib.hid hm
  have HL := Lib.hid hl
  have HF := Lib.hid hf
  have AC := Lib.hid (fun W h => at_s b s o x y z hy W h)
  generalize plc s (o, x, y, z) = p at *
  clear H H2 H3 hm hl hf
  have hx8 : (x.toNat : Int) < 8 := by omega
  have hy8 : (y.toNat : Int) < 8 := by omega
  go_enter Tryz.func85, Tryz.ntmps85
  go_upto_region 1 with fail
  generalize w.heap.size = xb at *
  generalize (w.alloc (.cells #[bv o, bv x, bv y, bv z] 26)) = w1 at *
  refine wp_region_S 12 (SS b xb rb ab s (o, x, y, z)) (by as_aux_lemma => kernel_rfl) ?_
  have hSS : SS b xb rb ab s (o, x, y, z) w1.drew := ss_of H4.out.drew HL.out
  refine wpAnyS_tk (i := 0) (by as_aux_lemma => kernel_rfl) (by intro c a d v w h; cases d <;> exact h) hSS (fun oi hoi => ?_)
  simp only [List.getElem?_toArray, List.getElem?_cons_zero, List.getElem?_cons_succ, Option.some.injEq] at hoi; subst hoi
  refine ⟨?_, by rfl, fun wx hSx => ?_, ?_⟩
  rotate_left
  · obtain ⟨⟨s0, s1, s2, s3, sg, sm⟩, sa⟩ := hSx; have g0 := sg x hx; have g1 := sg y hy; clear sg
    go_simp
    try with_reducible rfl
  try simp only [Act.put, List.setIfInBounds_toArray, List.set_cons_zero, List.set_cons_succ]
  refine wpAnyS_tk (i := 1) (by as_aux_lemma => kernel_rfl) (by intro c a d v w h; cases d <;> exact h) hSS (fun oi hoi => ?_)
  simp only [List.getElem?_toArray, List.getElem?_cons_zero, List.getElem?_cons_succ, Option.some.injEq] at hoi; subst hoi
  refine ⟨?_, by rfl, fun wx hSx => ?_, ?_⟩
  rotate_left
  · obtain ⟨⟨s0, s1, s2, s3, sg, sm⟩, sa⟩ := hSx; have g0 := sg x hx; have g1 := sg y hy; clear sg
    go_simp
    try with_reducible rfl
  try simp only [Act.put, List.setIfInBounds_toArray, List.set_cons_zero, List.set_cons_succ]
  refine wpAnyS_tk (i := 2) (by as_aux_lemma => kernel_rfl) (by intro c a d v w h; cases d <;> exact h) hSS (fun oi hoi => ?_)
  simp only [List.getElem?_toArray, List.getElem?_cons_zero, List.getElem?_cons_succ, Option.some.injEq] at hoi; subst hoi
  refine ⟨?_, by rfl, fun wx hSx => ?_, ?_⟩
  rotate_left
  · obtain ⟨⟨s0, s1, s2, s3, sg, sm⟩, sa⟩ := hSx; have g0 := sg x hx; have g1 := sg y hy; clear sg
    go_simp
    try with_reducible rfl
  try simp only [Act.put, List.setIfInBounds_toArray, List.set_cons_zero, List.set_cons_succ]
  refine wpAnyS_tk (i := 3) (by as_aux_lemma => kernel_rfl) (by intro c a d v w h; cases d <;> exact h) hSS (fun oi hoi => ?_)
  simp only [List.getElem?_toArray, List.getElem?_cons_zero, List.getElem?_cons_succ, Option.some.injEq] at hoi; subst hoi
  refine ⟨?_, by rfl, fun wx hSx => ?_, ?_⟩
  rotate_left
  · obtain ⟨⟨s0, s1, s2, s3, sg, sm⟩, sa⟩ := hSx; have g0 := sg x hx; have g1 := sg y hy; clear sg
    go_simp
    try with_reducible rfl
  try simp only [Act.put, List.setIfInBounds_toArray, List.set_cons_zero, List.set_cons_succ]
  refine wpAnyS_tk (i := 4) (by as_aux_lemma => kernel_rfl) (by intro c a d v w h; cases d <;> exact h) hSS (fun oi hoi => ?_)
  simp only [List.getElem?_toArray, List.getElem?_cons_zero, List.getElem?_cons_succ, Option.some.injEq] at hoi; subst hoi
  refine ⟨?_, by rfl, fun wx hSx => ?_, ?_⟩
  rotate_left
  · obtain ⟨⟨s0, s1, s2, s3, sg, sm⟩, sa⟩ := hSx; have g0 := sg x hx; have g1 := sg y hy; clear sg
    go_simp
    try with_reducible rfl
  try simp only [Act.put, List.setIfInBounds_toArray, List.set_cons_zero, List.set_cons_succ]
  refine wpAnyS_tk (i := 5) (by as_aux_lemma => kernel_rfl) (by intro c a d v w h; cases d <;> exact h) hSS (fun oi hoi => ?_)
  simp only [List.getElem?_toArray, List.getElem?_cons_zero, List.getElem?_cons_succ, Option.some.injEq] at hoi; subst hoi
  refine ⟨?_, by rfl, fun wx hSx => ?_, ?_⟩
  rotate_left
  · obtain ⟨⟨s0, s1, s2, s3, sg, sm⟩, sa⟩ := hSx; have g0 := sg x hx; have g1 := sg y hy; clear sg
    go_simp
    try with_reducible rfl
  try simp only [Act.put, List.setIfInBounds_toArray, List.set_cons_zero, List.set_cons_succ]
  refine wpAnyS_tk (i := 6) (by as_aux_lemma => kernel_rfl) (by intro c a d v w h; cases d <;> exact h) hSS (fun oi hoi => ?_)
  simp only [List.getElem?_toArray, List.getElem?_cons_zero, List.getElem?_cons_succ, Option.some.injEq] at hoi; subst hoi
  refine ⟨?_, by rfl, fun wx hSx => ?_, ?_⟩
  rotate_left
  · obtain ⟨⟨s0, s1, s2, s3, sg, sm⟩, sa⟩ := hSx; have g0 := sg x hx; have g1 := sg y hy; clear sg
    go_simp
    try with_reducible rfl
  try simp only [Act.put, List.setIfInBounds_toArray, List.set_cons_zero, List.set_cons_succ]
  refine wpAnyS_one (i := 7) (by as_aux_lemma => kernel_rfl) ?_
  intro oi hoi K hK
  simp only [List.getElem?_toArray, List.getElem?_cons_zero, List.getElem?_cons_succ, Option.some.injEq] at hoi; subst hoi
  go_simp
  go_at_call 78
  refine (AC.out _ (hSS.sx.rg y hy)).mono ?_; rintro e w2 ⟨rfl, hb⟩
  have H5 := Lib.hid (H4.out.drew.below_read hb)
  clear hSS hb H4 AC
  have hSS : SS b xb rb ab s (o, x, y, z) w2 := ss_of H5.out HL.out
  refine hK.out _ _ (fun _ => hSS) ?_
  clear hK K
  try simp only [Act.put, List.setIfInBounds_toArray, List.set_cons_zero, List.set_cons_succ]
  have r0 : w2.cell? ⟨rb, 0, none⟩ = _ := cell_blk (blk_get (H5.out.pull 3 rfl)) 0
  have r1 : w2.cell? ⟨rb, 1, none⟩ = _ := cell_blk (blk_get (H5.out.pull 3 rfl)) 1
  refine wpAnyS_one (i := 8) (by as_aux_lemma => kernel_rfl) ?_
  intro oi hoi K hK
  simp only [List.getElem?_toArray, List.getElem?_cons_zero, List.getElem?_cons_succ, Option.some.injEq] at hoi; subst hoi
  go_simp
  go_at_call 87
  refine (byte_n rb mb s.mem.length p w2 HF.out HM.out r0 r1).mono ?_; rintro e w3 ⟨rfl, rfl⟩
  refine hK.out _ _ (fun _ => hSS) ?_
  clear hK K
  try simp only [Act.put, List.setIfInBounds_toArray, List.set_cons_zero, List.set_cons_succ]
  refine wpAnyS_tk (i := 9) (by as_aux_lemma => kernel_rfl) (by intro c a d v w h; cases d <;> exact h) hSS (fun oi hoi => ?_)
  simp only [List.getElem?_toArray, List.getElem?_cons_zero, List.getElem?_cons_succ, Option.some.injEq] at hoi; subst hoi
  refine ⟨?_, by rfl, fun wx hSx => ?_, ?_⟩
  rotate_left
  · obtain ⟨⟨s0, s1, s2, s3, sg, sm⟩, sa⟩ := hSx; have g0 := sg x hx; have g1 := sg y hy; clear sg
    go_simp
    try with_reducible rfl
  try simp only [Act.put, List.setIfInBounds_toArray, List.set_cons_zero, List.set_cons_succ]
  refine wpAnyS_tk (i := 10) (by as_aux_lemma => kernel_rfl) (by intro c a d v w h; cases d <;> exact h) hSS (fun oi hoi => ?_)
  simp only [List.getElem?_toArray, List.getElem?_cons_zero, List.getElem?_cons_succ, Option.some.injEq] at hoi; subst hoi
  refine ⟨?_, by rfl, fun wx hSx => ?_, ?_⟩
  rotate_left
  · obtain ⟨⟨s0, s1, s2, s3, sg, sm⟩, sa⟩ := hSx; have g0 := sg x hx; have g1 := sg y hy; clear sg
    go_simp
    try with_reducible rfl
  try simp only [Act.put, List.setIfInBounds_toArray, List.set_cons_zero, List.set_cons_succ]
  refine wpAnyS_one (i := 11) (by as_aux_lemma => kernel_rfl) ?_
  intro oi hoi K hK
  simp only [List.getElem?_toArray, List.getElem?_cons_zero, List.getElem?_cons_succ, Option.some.injEq] at hoi; subst hoi
  go_simp
  go_at_call 86
  refine (must8_n _ _).mono ?_; rintro e w4 ⟨rfl, rfl⟩
  exact ⟨rfl, rfl, cr_shut HL.out HM.out H5.out.tail⟩
end Go.Proofs.YtijkkompnfpdeaaGreatDoor
set_option linter.unusedVariables false
set_option linter.unusedSimpArgs false
namespace Go.Proofs.YtijkkompnfpdeaaGreatDoor
open Go.RowKit Go.Joins Go.Shelf
attribute [local go_sem] Oper.semAt_some

set_option maxHeartbeats 8000000 in
set_option maxRecDepth 20000 in
theorem op12y_c {w0 w : World} {r : List Thing} {b ab : Nat} {c : List I4} {s : Cs} (o x y z : UInt8) (hx : x.toNat < 8) (hy : y.toNat < 8) (hf : (plc s (o, x, y, z)).toNat + 4 ≤ s.mem.length) (H : Hp w0 w (CR b c s :: AB ab :: r)) :
    Calls Tryz.prog 88 #[.pointer (some ⟨b, 0, none⟩), i4v (o, x, y, z), .pointer (some ⟨ab, 0, none⟩)] w fun e w' => e = .returned (.int .i64 0) ∧ Hp w0 w' (CR b c { s with mem := layB s.mem (plc s (o, x, y, z)).toNat (w4 (rg s x)) } :: AB ab :: r) := by
  obtain ⟨rb, mb, vc, vs, hl, hm, H2⟩ := cr_open H
  have H3 := blk_new H2 (.cells #[bv o, bv x, bv y, bv z] 26)
  have H4 : Hid (Hp w0 _ (XB w.heap.size (o, x, y, z) :: _)) := Lib.hid H3
  have HM := Lib.hid hm
  have HL := Lib.hid hl
  have HF := Lib.hid hf
  have AC := Lib.hid (fun W h => at_s b s o x y z hy W h)
  generalize plc s (o, x, y, z) = p at *
  clear H H2 H3 hm hl hf
  have hx8 : (x.toNat : Int) < 8 := by omega
  have hy8 : (y.toNat : Int) < 8 := by omega
  have WC := Lib.hid (fun W r (H : Hp w0 W (MB mb s.mem :: RGN rb mb s.mem.length :: r)) => setword_y rb mb s.mem p (rg s x) HF.out HM.out H)
  have HN : Hid ((layB s.mem p.toNat (w4 (rg s x))).length = s.mem.length) := Lib.hid (by simp [layB_len])
  generalize layB s.mem p.toNat (w4 (rg s x)) = m2 at *
  go_enter Tryz.func88, Tryz.ntmps88
  go_upto_region 1 with fail
  generalize w.heap.size = xb at *
  generalize (w.alloc (.cells #[bv o, bv x, bv y, bv z] 26)) = w1 at *
  refine wp_region_S 16 (SS b xb rb ab s (o, x, y, z)) (by as_aux_lemma => kernel_rfl) ?_
  have hSS : SS b xb rb ab s (o, x, y, z) w1.drew := ss_of H4.out.drew HL.out
  refine wpAnyS_tk (i := 0) (by as_aux_lemma => kernel_rfl) (by intro c a d v w h; cases d <;> exact h) hSS (fun oi hoi => ?_)
  simp only [List.getElem?_toArray, List.getElem?_cons_zero, List.getElem?_cons_succ, Option.some.injEq] at hoi; subst hoi
  refine ⟨?_, by rfl, fun wx hSx => ?_, ?_⟩
  rotate_left
  · obtain ⟨⟨s0, s1, s2, s3, sg, sm⟩, sa⟩ := hSx; have g0 := sg x hx; have g1 := sg y hy; clear sg
    go_simp
    try with_reducible rfl
  try simp only [Act.put, List.setIfInBounds_toArray, List.set_cons_zero, List.set_cons_succ]
  refine wpAnyS_tk (i := 1) (by as_aux_lemma => kernel_rfl) (by intro c a d v w h; cases d <;> exact h) hSS (fun oi hoi => ?_)
  simp only [List.getElem?_toArray, List.getElem?_cons_zero, List.getElem?_cons_succ, Option.some.injEq] at hoi; subst hoi
  refine ⟨?_, by rfl, fun wx hSx => ?_, ?_⟩
  rotate_left
  · obtain ⟨⟨s0, s1, s2, s3, sg, sm⟩, sa⟩ := hSx; have g0 := sg x hx; have g1 := sg y hy; clear sg
    go_simp
    try with_reducible rfl
  try simp only [Act.put, List.setIfInBounds_toArray, List.set_cons_zero, List.set_cons_succ]
  refine wpAnyS_tk (i := 2) (by as_aux_lemma => kernel_rfl) (by intro c a d v w h; cases d <;> exact h) hSS (fun oi hoi => ?_)
  simp only [List.getElem?_toArray, List.getElem?_cons_zero, List.getElem?_cons_succ, Option.some.injEq] at hoi; subst hoi
  refine ⟨?_, by rfl, fun wx hSx => ?_, ?_⟩
  rotate_left
  · obtain ⟨⟨s0, s1, s2, s3, sg, sm⟩, sa⟩ := hSx; have g0 := sg x hx; have g1 := sg y hy; clear sg
    go_simp
    try with_reducible rfl
  try simp only [Act.put, List.setIfInBounds_toArray, List.set_cons_zero, List.set_cons_succ]
  refine wpAnyS_tk (i := 3) (by as_aux_lemma => kernel_rfl) (by intro c a d v w h; cases d <;> exact h) hSS (fun oi hoi => ?_)
  simp only [List.getElem?_toArray, List.getElem?_cons_zero, List.getElem?_cons_succ, Option.some.injEq] at hoi; subst hoi
  refine ⟨?_, by rfl, fun wx hSx => ?_, ?_⟩
  rotate_left
  · obtain ⟨⟨s0, s1, s2, s3, sg, sm⟩, sa⟩ := hSx; have g0 := sg x hx; have g1 := sg y hy; clear sg
    go_simp
    try with_reducible rfl
  try simp only [Act.put, List.setIfInBounds_toArray, List.set_cons_zero, List.set_cons_succ]
  refine wpAnyS_tk (i := 4) (by as_aux_lemma => kernel_rfl) (by intro c a d v w h; cases d <;> exact h) hSS (fun oi hoi => ?_)
  simp only [List.getElem?_toArray, List.getElem?_cons_zero, List.getElem?_cons_succ, Option.some.injEq] at hoi; subst hoi
  refine ⟨?_, by rfl, fun wx hSx => ?_, ?_⟩
  rotate_left
  · obtain ⟨⟨s0, s1, s2, s3, sg, sm⟩, sa⟩ := hSx; have g0 := sg x hx; have g1 := sg y hy; clear sg
    go_simp
    try with_reducible rfl
  try simp only [Act.put, List.setIfInBounds_toArray, List.set_cons_zero, List.set_cons_succ]
  refine wpAnyS_tk (i := 5) (by as_aux_lemma => kernel_rfl) (by intro c a d v w h; cases d <;> exact h) hSS (fun oi hoi => ?_)
  simp only [List.getElem?_toArray, List.getElem?_cons_zero, List.getElem?_cons_succ, Option.some.injEq] at hoi; subst hoi
  refine ⟨?_, by rfl, fun wx hSx => ?_, ?_⟩
  rotate_left
  · obtain ⟨⟨s0, s1, s2, s3, sg, sm⟩, sa⟩ := hSx; have g0 := sg x hx; have g1 := sg y hy; clear sg
    go_simp
    try with_reducible rfl
  try simp only [Act.put, List.setIfInBounds_toArray, List.set_cons_zero, List.set_cons_succ]
  refine wpAnyS_tk (i := 6) (by as_aux_lemma => kernel_rfl) (by intro c a d v w h; cases d <;> exact h) hSS (fun oi hoi => ?_)
  simp only [List.getElem?_toArray, List.getElem?_cons_zero, List.getElem?_cons_succ, Option.some.injEq] at hoi; subst hoi
  refine ⟨?_, by rfl, fun wx hSx => ?_, ?_⟩
  rotate_left
  · obtain ⟨⟨s0, s1, s2, s3, sg, sm⟩, sa⟩ := hSx; have g0 := sg x hx; have g1 := sg y hy; clear sg
    go_simp
    try with_reducible rfl
  try simp only [Act.put, List.setIfInBounds_toArray, List.set_cons_zero, List.set_cons_succ]
  refine wpAnyS_tk (i := 8) (by as_aux_lemma => kernel_rfl) (by intro c a d v w h; cases d <;> exact h) hSS (fun oi hoi => ?_)
  simp only [List.getElem?_toArray, List.getElem?_cons_zero, List.getElem?_cons_succ, Option.some.injEq] at hoi; subst hoi
  refine ⟨?_, by rfl, fun wx hSx => ?_, ?_⟩
  rotate_left
  · obtain ⟨⟨s0, s1, s2, s3, sg, sm⟩, sa⟩ := hSx; have g0 := sg x hx; have g1 := sg y hy; clear sg
    go_simp
    try with_reducible rfl
  try simp only [Act.put, List.setIfInBounds_toArray, List.set_cons_zero, List.set_cons_succ]
  refine wpAnyS_tk (i := 9) (by as_aux_lemma => kernel_rfl) (by intro c a d v w h; cases d <;> exact h) hSS (fun oi hoi => ?_)
  simp only [List.getElem?_toArray, List.getElem?_cons_zero, List.getElem?_cons_succ, Option.some.injEq] at hoi; subst hoi
  refine ⟨?_, by rfl, fun wx hSx => ?_, ?_⟩
  rotate_left
  · obtain ⟨⟨s0, s1, s2, s3, sg, sm⟩, sa⟩ := hSx; have g0 := sg x hx; have g1 := sg y hy; clear sg
    go_simp
    try with_reducible rfl
  try simp only [Act.put, List.setIfInBounds_toArray, List.set_cons_zero, List.set_cons_succ]
  refine wpAnyS_tk (i := 10) (by as_aux_lemma => kernel_rfl) (by intro c a d v w h; cases d <;> exact h) hSS (fun oi hoi => ?_)
  simp only [List.getElem?_toArray, List.getElem?_cons_zero, List.getElem?_cons_succ, Option.some.injEq] at hoi; subst hoi
  refine ⟨?_, by rfl, fun wx hSx => ?_, ?_⟩
  rotate_left
  · obtain ⟨⟨s0, s1, s2, s3, sg, sm⟩, sa⟩ := hSx; have g0 := sg x hx; have g1 := sg y hy; clear sg
    go_simp
    try with_reducible rfl
  try simp only [Act.put, List.setIfInBounds_toArray, List.set_cons_zero, List.set_cons_succ]
  refine wpAnyS_tk (i := 11) (by as_aux_lemma => kernel_rfl) (by intro c a d v w h; cases d <;> exact h) hSS (fun oi hoi => ?_)
  simp only [List.getElem?_toArray, List.getElem?_cons_zero, List.getElem?_cons_succ, Option.some.injEq] at hoi; subst hoi
  refine ⟨?_, by rfl, fun wx hSx => ?_, ?_⟩
  rotate_left
  · obtain ⟨⟨s0, s1, s2, s3, sg, sm⟩, sa⟩ := hSx; have g0 := sg x hx; have g1 := sg y hy; clear sg
    go_simp
    try with_reducible rfl
  try simp only [Act.put, List.setIfInBounds_toArray, List.set_cons_zero, List.set_cons_succ]
  refine wpAnyS_tk (i := 12) (by as_aux_lemma => kernel_rfl) (by intro c a d v w h; cases d <;> exact h) hSS (fun oi hoi => ?_)
  simp only [List.getElem?_toArray, List.getElem?_cons_zero, List.getElem?_cons_succ, Option.some.injEq] at hoi; subst hoi
  refine ⟨?_, by rfl, fun wx hSx => ?_, ?_⟩
  rotate_left
  · obtain ⟨⟨s0, s1, s2, s3, sg, sm⟩, sa⟩ := hSx; have g0 := sg x hx; have g1 := sg y hy; clear sg
    go_simp
    try with_reducible rfl
  try simp only [Act.put, List.setIfInBounds_toArray, List.set_cons_zero, List.set_cons_succ]
  refine wpAnyS_tk (i := 13) (by as_aux_lemma => kernel_rfl) (by intro c a d v w h; cases d <;> exact h) hSS (fun oi hoi => ?_)
  simp only [List.getElem?_toArray, List.getElem?_cons_zero, List.getElem?_cons_succ, Option.some.injEq] at hoi; subst hoi
  refine ⟨?_, by rfl, fun wx hSx => ?_, ?_⟩
  rotate_left
  · obtain ⟨⟨s0, s1, s2, s3, sg, sm⟩, sa⟩ := hSx; have g0 := sg x hx; have g1 := sg y hy; clear sg
    go_simp
    try with_reducible rfl
  try simp only [Act.put, List.setIfInBounds_toArray, List.set_cons_zero, List.set_cons_succ]
  refine wpAnyS_tk (i := 14) (by as_aux_lemma => kernel_rfl) (by intro c a d v w h; cases d <;> exact h) hSS (fun oi hoi => ?_)
  simp only [List.getElem?_toArray, List.getElem?_cons_zero, List.getElem?_cons_succ, Option.some.injEq] at hoi; subst hoi
  refine ⟨?_, by rfl, fun wx hSx => ?_, ?_⟩
  rotate_left
  · obtain ⟨⟨s0, s1, s2, s3, sg, sm⟩, sa⟩ := hSx; have g0 := sg x hx; have g1 := sg y hy; clear sg
    go_simp
    try with_reducible rfl
  try simp only [Act.put, List.setIfInBounds_toArray, List.set_cons_zero, List.set_cons_succ]
  refine wpAnyS_one (i := 7) (by as_aux_lemma => kernel_rfl) ?_
  intro oi hoi K hK
  simp only [List.getElem?_toArray, List.getElem?_cons_zero, List.getElem?_cons_succ, Option.some.injEq] at hoi; subst hoi
  go_simp
  go_at_call 78
  refine (AC.out _ (hSS.sx.rg y hy)).mono ?_; rintro e w2 ⟨rfl, hb⟩
  have H5 := Lib.hid (H4.out.drew.below_read hb)
  clear hSS hb H4 AC
  have hSS : SS b xb rb ab s (o, x, y, z) w2 := ss_of H5.out HL.out
  refine hK.out _ _ (fun _ => hSS) ?_
  clear hK K
  try simp only [Act.put, List.setIfInBounds_toArray, List.set_cons_zero, List.set_cons_succ]
  refine wpAnyS_one (i := 15) (by as_aux_lemma => kernel_rfl) ?_
  intro oi hoi K hK
  simp only [List.getElem?_toArray, List.getElem?_cons_zero, List.getElem?_cons_succ, Option.some.injEq] at hoi; subst hoi
  go_simp
  go_at_call 90
  refine (WC.out w2 _ ((H5.out.pull 2 rfl).pull 3 rfl).up1).mono ?_; rintro e w3 ⟨rfl, H6⟩
  have H7 := Lib.hid ((H6.pull 3 rfl).pull 3 rfl)
  refine hK.out _ _ (fun _ => ss_of H7.out HL.out) ?_
  clear hK K
  try simp only [Act.put, List.setIfInBounds_toArray, List.set_cons_zero, List.set_cons_succ]
  refine wpAnyS_one (i := 16) (by as_aux_lemma => kernel_rfl) ?_
  intro oi hoi K hK
  simp only [List.getElem?_toArray, List.getElem?_cons_zero, List.getElem?_cons_succ, Option.some.injEq] at hoi; subst hoi
  go_simp
  go_at_call 89
  refine (none_y _).mono ?_; rintro e w4 ⟨rfl, hb⟩
  have H8 : Hp w0 w4 (CB b rb s vc vs :: MB mb m2 :: RGN rb mb m2.length :: OwnI4 vc c :: OwnU8 vs s.says :: AB ab :: r) := by rw [HN.out]; exact (H7.out.below_read hb).tail
  have HZ : Hid (Hp w0 w4 (CR b c { s with mem := m2 } :: AB ab :: r)) := Lib.hid (cr_shut (s := { s with mem := m2 }) HL.out (by show m2.length ≤ 4096; rw [HN.out]; exact HM.out) H8)
  refine hK.out _ _ (fun h => absurd h (by decide)) ?_
  clear hK K
  try simp only [Act.put, List.setIfInBounds_toArray, List.set_cons_zero, List.set_cons_succ]
  refine wpAnyS_done (by as_aux_lemma => kernel_rfl) ?_ _
  clear hSS H5 H6 H7 H8 HL HM HF WC HN hb
  go_wp2
  go_ret
  exact ⟨rfl, HZ.out⟩
set_option maxHeartbeats 8000000 in
set_option maxRecDepth 20000 in
theorem op12n_c {w0 w : World} {r : List Thing} {b ab : Nat} {c : List I4} {s : Cs} (o x y z : UInt8) (hx : x.toNat < 8) (hy : y.toNat < 8) (hf : ¬ (plc s (o, x, y, z)).toNat + 4 ≤ s.mem.length) (H : Hp w0 w (CR b c s :: AB ab :: r)) :
    Calls Tryz.prog 88 #[.pointer (some ⟨b, 0, none⟩), i4v (o, x, y, z), .pointer (some ⟨ab, 0, none⟩)] w fun e w' => e = .panicked [PE 4] ∧ Hp w0 w' (CR b c s :: AB ab :: r) := by
  obtain ⟨rb, mb, vc, vs, hl, hm, H2⟩ := cr_open H
  have H3 := blk_new H2 (.cells #[bv o, bv x, bv y, bv z] 26)
  have H4 : Hid (Hp w0 _ (XB w.heap.size (o, x, y, z) :: _)) := Lib.hid H3
  have HM := Lib.hid hm
  have HL := Lib.hid hl
  have HF := Lib.hid hf
  have AC := Lib.hid (fun W h => at_s b s o x y z hy W h)
  generalize plc s (o, x, y, z) = p at *
  clear H H2 H3 hm hl hf
  have hx8 : (x.toNat : Int) < 8 := by omega
  have hy8 : (y.toNat : Int) < 8 := by omega
  have WC := Lib.hid (fun W r0 r1 => setword_n rb mb s.mem.length p (rg s x) W HF.out HM.out r0 r1)
  go_enter Tryz.func88, Tryz.ntmps88
  go_upto_region 1 with fail
  generalize w.heap.size = xb at *
  generalize (w.alloc (.cells #[bv o, bv x, bv y, bv z] 26)) = w1 at *
  refine wp_region_S 16 (SS b xb rb ab s (o, x, y, z)) (by as_aux_lemma => kernel_rfl) ?_
  have hSS : SS b xb rb ab s (o, x, y, z) w1.drew := ss_of H4.out.drew HL.out
  refine wpAnyS_tk (i := 0) (by as_aux_lemma => kernel_rfl) (by intro c a d v w h; cases d <;> exact h) hSS (fun oi hoi => ?_)
  simp only [List.getElem?_toArray, List.getElem?_cons_zero, List.getElem?_cons_succ, Option.some.injEq] at hoi; subst hoi
  refine ⟨?_, by rfl, fun wx hSx => ?_, ?_⟩
  rotate_left
  · obtain ⟨⟨s0, s1, s2, s3, sg, sm⟩, sa⟩ := hSx; have g0 := sg x hx; have g1 := sg y hy; clear sg
    go_simp
    try with_reducible rfl
  try simp only [Act.put, List.setIfInBounds_toArray, List.set_cons_zero, List.set_cons_succ]
  refine wpAnyS_tk (i := 1) (by as_aux_lemma => kernel_rfl) (by intro c a d v w h; cases d <;> exact h) hSS (fun oi hoi => ?_)
  simp only [List.getElem?_toArray, List.getElem?_cons_zero, List.getElem?_cons_succ, Option.some.injEq] at hoi; subst hoi
  refine ⟨?_, by rfl, fun wx hSx => ?_, ?_⟩
  rotate_left
  · obtain ⟨⟨s0, s1, s2, s3, sg, sm⟩, sa⟩ := hSx; have g0 := sg x hx; have g1 := sg y hy; clear sg
    go_simp
    try with_reducible rfl
  try simp only [Act.put, List.setIfInBounds_toArray, List.set_cons_zero, List.set_cons_succ]
  refine wpAnyS_tk (i := 2) (by as_aux_lemma => kernel_rfl) (by intro c a d v w h; cases d <;> exact h) hSS (fun oi hoi => ?_)
  simp only [List.getElem?_toArray, List.getElem?_cons_zero, List.getElem?_cons_succ, Option.some.injEq] at hoi; subst hoi
  refine ⟨?_, by rfl, fun wx hSx => ?_, ?_⟩
  rotate_left
  · obtain ⟨⟨s0, s1, s2, s3, sg, sm⟩, sa⟩ := hSx; have g0 := sg x hx; have g1 := sg y hy; clear sg
    go_simp
    try with_reducible rfl
  try simp only [Act.put, List.setIfInBounds_toArray, List.set_cons_zero, List.set_cons_succ]
  refine wpAnyS_tk (i := 3) (by as_aux_lemma => kernel_rfl) (by intro c a d v w h; cases d <;> exact h) hSS (fun oi hoi => ?_)
  simp only [List.getElem?_toArray, List.getElem?_cons_zero, List.getElem?_cons_succ, Option.some.injEq] at hoi; subst hoi
  refine ⟨?_, by rfl, fun wx hSx => ?_, ?_⟩
  rotate_left
  · obtain ⟨⟨s0, s1, s2, s3, sg, sm⟩, sa⟩ := hSx; have g0 := sg x hx; have g1 := sg y hy; clear sg
    go_simp
    try with_reducible rfl
  try simp only [Act.put, List.setIfInBounds_toArray, List.set_cons_zero, List.set_cons_succ]
  refine wpAnyS_tk (i := 4) (by as_aux_lemma => kernel_rfl) (by intro c a d v w h; cases d <;> exact h) hSS (fun oi hoi => ?_)
  simp only [List.getElem?_toArray, List.getElem?_cons_zero, List.getElem?_cons_succ, Option.some.injEq] at hoi; subst hoi
  refine ⟨?_, by rfl, fun wx hSx => ?_, ?_⟩
  rotate_left
  · obtain ⟨⟨s0, s1, s2, s3, sg, sm⟩, sa⟩ := hSx; have g0 := sg x hx; have g1 := sg y hy; clear sg
    go_simp
    try with_reducible rfl
  try simp only [Act.put, List.setIfInBounds_toArray, List.set_cons_zero, List.set_cons_succ]
  refine wpAnyS_tk (i := 5) (by as_aux_lemma => kernel_rfl) (by intro c a d v w h; cases d <;> exact h) hSS (fun oi hoi => ?_)
  simp only [List.getElem?_toArray, List.getElem?_cons_zero, List.getElem?_cons_succ, Option.some.injEq] at hoi; subst hoi
  refine ⟨?_, by rfl, fun wx hSx => ?_, ?_⟩
  rotate_left
  · obtain ⟨⟨s0, s1, s2, s3, sg, sm⟩, sa⟩ := hSx; have g0 := sg x hx; have g1 := sg y hy; clear sg
    go_simp
    try with_reducible rfl
  try simp only [Act.put, List.setIfInBounds_toArray, List.set_cons_zero, List.set_cons_succ]
  refine wpAnyS_tk (i := 6) (by as_aux_lemma => kernel_rfl) (by intro c a d v w h; cases d <;> exact h) hSS (fun oi hoi => ?_)
  simp only [List.getElem?_toArray, List.getElem?_cons_zero, List.getElem?_cons_succ, Option.some.injEq] at hoi; subst hoi
  refine ⟨?_, by rfl, fun wx hSx => ?_, ?_⟩
  rotate_left
  · obtain ⟨⟨s0, s1, s2, s3, sg, sm⟩, sa⟩ := hSx; have g0 := sg x hx; have g1 := sg y hy; clear sg
    go_simp
    try with_reducible rfl
  try simp only [Act.put, List.setIfInBounds_toArray, List.set_cons_zero, List.set_cons_succ]
  refine wpAnyS_tk (i := 8) (by as_aux_lemma => kernel_rfl) (by intro c a d v w h; cases d <;> exact h) hSS (fun oi hoi => ?_)
  simp only [List.getElem?_toArray, List.getElem?_cons_zero, List.getElem?_cons_succ, Option.some.injEq] at hoi; subst hoi
  refine ⟨?_, by rfl, fun wx hSx => ?_, ?_⟩
  rotate_left
  · obtain ⟨⟨s0, s1, s2, s3, sg, sm⟩, sa⟩ := hSx; have g0 := sg x hx; have g1 := sg y hy; clear sg
    go_simp
    try with_reducible rfl
  try simp only [Act.put, List.setIfInBounds_toArray, List.set_cons_zero, List.set_cons_succ]
  refine wpAnyS_tk (i := 9) (by as_aux_lemma => kernel_rfl) (by intro c a d v w h; cases d <;> exact h) hSS (fun oi hoi => ?_)
  simp only [List.getElem?_toArray, List.getElem?_cons_zero, List.getElem?_cons_succ, Option.some.injEq] at hoi; subst hoi
  refine ⟨?_, by rfl, fun wx hSx => ?_, ?_⟩
  rotate_left
  · obtain ⟨⟨s0, s1, s2, s3, sg, sm⟩, sa⟩ := hSx; have g0 := sg x hx; have g1 := sg y hy; clear sg
    go_simp
    try with_reducible rfl
  try simp only [Act.put, List.setIfInBounds_toArray, List.set_cons_zero, List.set_cons_succ]
  refine wpAnyS_tk (i := 10) (by as_aux_lemma => kernel_rfl) (by intro c a d v w h; cases d <;> exact h) hSS (fun oi hoi => ?_)
  simp only [List.getElem?_toArray, List.getElem?_cons_zero, List.getElem?_cons_succ, Option.some.injEq] at hoi; subst hoi
  refine ⟨?_, by rfl, fun wx hSx => ?_, ?_⟩
  rotate_left
  · obtain ⟨⟨s0, s1, s2, s3, sg, sm⟩, sa⟩ := hSx; have g0 := sg x hx; have g1 := sg y hy; clear sg
    go_simp
    try with_reducible rfl
  try simp only [Act.put, List.setIfInBounds_toArray, List.set_cons_zero, List.set_cons_succ]
  refine wpAnyS_tk (i := 11) (by as_aux_lemma => kernel_rfl) (by intro c a d v w h; cases d <;> exact h) hSS (fun oi hoi => ?_)
  simp only [List.getElem?_toArray, List.getElem?_cons_zero, List.getElem?_cons_succ, Option.some.injEq] at hoi; subst hoi
  refine ⟨?_, by rfl, fun wx hSx => ?_, ?_⟩
  rotate_left
  · obtain ⟨⟨s0, s1, s2, s3, sg, sm⟩, sa⟩ := hSx; have g0 := sg x hx; have g1 := sg y hy; clear sg
    go_simp
    try with_reducible rfl
  try simp only [Act.put, List.setIfInBounds_toArray, List.set_cons_zero, List.set_cons_succ]
  refine wpAnyS_tk (i := 12) (by as_aux_lemma => kernel_rfl) (by intro c a d v w h; cases d <;> exact h) hSS (fun oi hoi => ?_)
  simp only [List.getElem?_toArray, List.getElem?_cons_zero, List.getElem?_cons_succ, Option.some.injEq] at hoi; subst hoi
  refine ⟨?_, by rfl, fun wx hSx => ?_, ?_⟩
  rotate_left
  · obtain ⟨⟨s0, s1, s2, s3, sg, sm⟩, sa⟩ := hSx; have g0 := sg x hx; have g1 := sg y hy; clear sg
    go_simp
    try with_reducible rfl
  try simp only [Act.put, List.setIfInBounds_toArray, List.set_cons_zero, List.set_cons_succ]
  refine wpAnyS_tk (i := 13) (by as_aux_lemma => kernel_rfl) (by intro c a d v w h; cases d <;> exact h) hSS (fun oi hoi => ?_)
  simp only [List.getElem?_toArray, List.getElem?_cons_zero, List.getElem?_cons_succ, Option.some.injEq] at hoi; subst hoi
  refine ⟨?_, by rfl, fun wx hSx => ?_, ?_⟩
  rotate_left
  · obtain ⟨⟨s0, s1, s2, s3, sg, sm⟩, sa⟩ := hSx; have g0 := sg x hx; have g1 := sg y hy; clear sg
    go_simp
    try with_reducible rfl
  try simp only [Act.put, List.setIfInBounds_toArray, List.set_cons_zero, List.set_cons_succ]
  refine wpAnyS_tk (i := 14) (by as_aux_lemma => kernel_rfl) (by intro c a d v w h; cases d <;> exact h) hSS (fun oi hoi => ?_)
  simp only [List.getElem?_toArray, List.getElem?_cons_zero, List.getElem?_cons_succ, Option.some.injEq] at hoi; subst hoi
  refine ⟨?_, by rfl, fun wx hSx => ?_, ?_⟩
  rotate_left
  · obtain ⟨⟨s0, s1, s2, s3, sg, sm⟩, sa⟩ := hSx; have g0 := sg x hx; have g1 := sg y hy; clear sg
    go_simp
    try with_reducible rfl
  try simp only [Act.put, List.setIfInBounds_toArray, List.set_cons_zero, List.set_cons_succ]
  refine wpAnyS_one (i := 7) (by as_aux_lemma => kernel_rfl) ?_
  intro oi hoi K hK
  simp only [List.getElem?_toArray, List.getElem?_cons_zero, List.getElem?_cons_succ, Option.some.injEq] at hoi; subst hoi
  go_simp
  go_at_call 78
  refine (AC.out _ (hSS.sx.rg y hy)).mono ?_; rintro e w2 ⟨rfl, hb⟩
  have H5 := Lib.hid (H4.out.drew.below_read hb)
  clear hSS hb H4 AC
  have hSS : SS b xb rb ab s (o, x, y, z) w2 := ss_of H5.out HL.out
  refine hK.out _ _ (fun _ => hSS) ?_
  clear hK K
  try simp only [Act.put, List.setIfInBounds_toArray, List.set_cons_zero, List.set_cons_succ]
  have r0 : w2.cell? ⟨rb, 0, none⟩ = _ := cell_blk (blk_get (H5.out.pull 3 rfl)) 0
  have r1 : w2.cell? ⟨rb, 1, none⟩ = _ := cell_blk (blk_get (H5.out.pull 3 rfl)) 1
  refine wpAnyS_one (i := 15) (by as_aux_lemma => kernel_rfl) ?_
  intro oi hoi K hK
  simp only [List.getElem?_toArray, List.getElem?_cons_zero, List.getElem?_cons_succ, Option.some.injEq] at hoi; subst hoi
  go_simp
  go_at_call 90
  refine (WC.out w2 r0 r1).mono ?_; rintro e w3 ⟨rfl, hb⟩
  have H6 := Lib.hid (H5.out.below_read hb)
  refine hK.out _ _ (fun _ => ss_of H6.out HL.out) ?_
  clear hK K
  try simp only [Act.put, List.setIfInBounds_toArray, List.set_cons_zero, List.set_cons_succ]
  refine wpAnyS_one (i := 16) (by as_aux_lemma => kernel_rfl) ?_
  intro oi hoi K hK
  simp only [List.getElem?_toArray, List.getElem?_cons_zero, List.getElem?_cons_succ, Option.some.injEq] at hoi; subst hoi
  go_simp
  go_at_call 89
  refine (none_n _).mono ?_; rintro e w4 ⟨rfl, hb2⟩
  exact ⟨rfl, rfl, cr_shut HL.out HM.out (H6.out.below_read hb2).tail⟩
end Go.Proofs.YtijkkompnfpdeaaGreatDoor
