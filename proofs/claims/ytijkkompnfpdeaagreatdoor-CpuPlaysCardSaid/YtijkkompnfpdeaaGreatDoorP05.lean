/- Cores: what an instruction does, the closures that call: walked. -/
import Derived.Test.YtijkkompnfpdeaaGreatDoorP04
set_option linter.unusedVariables false
set_option linter.unusedSimpArgs false
namespace Go.Proofs.YtijkkompnfpdeaaGreatDoor
open Go.RowKit Go.Joins Go.Shelf
attribute [local go_sem] Oper.semAt_some

section
variable {P : Program} {ops : Array Oper} {Q : Exit → Act → World → Prop} {md : Region.Mode} {S : World → Prop} {s : Nat}
/-- A take, by one reckoning. -/
theorem wpAnyS_tk {i : Nat} {fuel : Nat} {listed : Array Bool} {a : Act} {w : World}
    (hb : (Region.noSelect ops && Region.sinkB md ops s && Region.chainB md ops s && decide (s < ops.size) && decide (i < s) && headB md ops s listed && Region.free md ops listed i && (Region.ready md ops listed).contains i) = true)
    (hQ : ∀ (c : _) (a : Act) (d : Option Tmp) (v : Value) (w : World), Q (.panic c) (a.put d v) w → Q (.panic c) a w) (hS : S w)
    (h : ∀ oi, ops[i]? = some oi → ∃ v, Region.wanted oi (yielded ops a.tmps) = true ∧ (∀ w, S w → (execOp a.eval oi).run P w = .ok (.value v) w) ∧ wpAnyS P md ops Q S s fuel (listed.setIfInBounds i true) (a.put oi.dst v) w) : wpAnyS P md ops Q S s (fuel + 1) listed a w := by
  simp only [Bool.and_eq_true] at hb
  obtain ⟨⟨⟨⟨⟨⟨⟨h1, h2⟩, h3⟩, h4⟩, h5⟩, h6⟩, h7⟩, h8⟩ := hb
  exact wpAnyS_take h1 h2 h3 h4 h5 h6 h7 h8 hQ hS h
end
/-- An instruction, and the core that it is for. -/
structure SX (b xb rb : Nat) (s : Cs) (x : I4) (W : World) : Prop where
  x0 : W.cell? ⟨xb, 0, none⟩ = some (bv x.1)
  x1 : W.cell? ⟨xb, 1, none⟩ = some (bv x.2.1)
  x2 : W.cell? ⟨xb, 2, none⟩ = some (bv x.2.2.1)
  x3 : W.cell? ⟨xb, 3, none⟩ = some (bv x.2.2.2)
  rg : ∀ k : UInt8, k.toNat < 8 → W.cell? ⟨b, k.toNat, none⟩ = some (wv (Go.Proofs.YtijkkompnfpdeaaGreatDoor.rg s k))
  m : W.cell? ⟨b, 9, none⟩ = some (.pointer (some ⟨rb, 0, none⟩))
abbrev XB (xb : Nat) (x : I4) : Thing := Blk xb (.cells #[bv x.1, bv x.2.1, bv x.2.2.1, bv x.2.2.2] 26 (0, 0))
abbrev AB (ab : Nat) : Thing := Blk ab (.cells #[fn_ 78] 104 (0, 0))
theorem sx_of {w0 W : World} {r : List Thing} {b xb rb : Nat} {s : Cs} {x : I4} {vc vs : Value} (H : Hp w0 W (XB xb x :: CB b rb s vc vs :: r)) (hl : s.r.length = 8) : SX b xb rb s x W :=
  ⟨cell_blk (blk_get H) 0, cell_blk (blk_get H) 1, cell_blk (blk_get H) 2, cell_blk (blk_get H) 3, fun k hk => cb_reg H.tail hl k.toNat hk, cb_cell H.tail hl 1⟩
theorem w8_i8 (z : UInt8) : IntKind.i8.wrap (z.toNat : Int) = s8 z := by
  have := z.toNat_lt
  unfold s8
  simp [IntKind.wrap, IntKind.bits, IntKind.signed]
  split <;> split <;> omega
theorem s8_b (z : UInt8) : -128 ≤ s8 z ∧ s8 z < 128 := by
  have := z.toNat_lt
  unfold s8
  split <;> omega
/-- The same, and the closure that finds places. -/
structure SS (b xb rb ab : Nat) (s : Cs) (x : I4) (W : World) : Prop where
  sx : SX b xb rb s x W
  a : W.cell? ⟨ab, 0, none⟩ = some (fn_ 78)
theorem ss_of {w0 W : World} {r : List Thing} {b xb rb ab : Nat} {s : Cs} {x : I4} {vc vs : Value} {t1 t2 t3 t4 : Thing} (H : Hp w0 W (XB xb x :: CB b rb s vc vs :: t1 :: t2 :: t3 :: t4 :: AB ab :: r)) (hl : s.r.length = 8) : SS b xb rb ab s x W :=
  ⟨sx_of H hl, cell_blk (blk_get (H.pull 6 rfl)) 0⟩
set_option maxHeartbeats 4000000 in
set_option maxRecDepth 20000 in
theorem at_c (b : Nat) (o x y z : UInt8) (u : UInt32) (hy : y.toNat < 8) (w : World) (h : w.cell? ⟨b, y.toNat, none⟩ = some (wv u)) :
    Calls Tryz.prog 78 #[.pointer (some ⟨b, 0, none⟩), i4v (o, x, y, z)] w fun e w' => e = .returned (wv (u + UInt32.ofNat z.toNat)) ∧ Below w.heap.size w w' := by
  have HB := Lib.hid ((Hp.start w).alloc (.cells #[bv o, bv x, bv y, bv z] 26))
  have q1 : (y.toNat : Int) < 8 := by omega
  have q2 := w8_32 z
  have q3 : ((u.toNat : Int) + (z.toNat : Int)) % 4294967296 = ((u + UInt32.ofNat z.toNat).toNat : Int) := by
    have h := u32_add u (UInt32.ofNat z.toNat)
    rw [IntKind.wrap_u32, UInt32.toNat_ofNat', Nat.mod_eq_of_lt (by have := z.toNat_lt; omega)] at h
    exact h
  have Q3 := Lib.hid q3
  clear q3
  have h2 : (w.alloc (.cells #[bv o, bv x, bv y, bv z] 26)).cell? ⟨b, y.toNat, none⟩ = some (wv u) := cell_alloc_l' _ h
  go_enter Tryz.func78, Tryz.ntmps78
  go_wp2
  go_quiet (fail)
  go_wp2
  go_ret
  refine ⟨?_, (HB.out.drewN _).below⟩
  exact congrArg (fun t => Ending.returned (.int .u32 t)) Q3.out
theorem at_s (b : Nat) (s : Cs) (o x y z : UInt8) (hy : y.toNat < 8) (w : World) (h : w.cell? ⟨b, y.toNat, none⟩ = some (wv (rg s y))) :
    Calls Tryz.prog 78 #[.pointer (some ⟨b, 0, none⟩), i4v (o, x, y, z)] w fun e w' => e = .returned (wv (plc s (o, x, y, z))) ∧ Below w.heap.size w w' :=
  at_c b o x y z _ hy w h
set_option maxHeartbeats 8000000 in
set_option maxRecDepth 20000 in
theorem op11y_c {w0 w : World} {r : List Thing} {b ab : Nat} {c : List I4} {s : Cs} (o x y z : UInt8) (hx : x.toNat < 8) (hy : y.toNat < 8) (hf : (plc s (o, x, y, z)).toNat + 4 ≤ s.mem.length) (H : Hp w0 w (CR b c s :: AB ab :: r)) :
    Calls Tryz.prog 82 #[.pointer (some ⟨b, 0, none⟩), i4v (o, x, y, z), .pointer (some ⟨ab, 0, none⟩)] w fun e w' => e = .returned (.int .i64 0) ∧ Hp w0 w' (CR b c (wrg s x (ld4 s.mem (plc s (o, x, y, z)).toNat)) :: AB ab :: r) := by
  obtain ⟨rb, mb, vc, vs, hl, hm, H2⟩ := cr_open H
  have H3 := blk_new H2 (.cells #[bv o, bv x, bv y, bv z] 26)
  have H4 : Hid (Hp w0 _ (XB w.heap.size (o, x, y, z) :: _)) := Lib.hid H3
  have HM := Lib.hid hm
  have HL := Lib.hid hl
  have HF := Lib.hid hf
  have AC := Lib.hid (fun W h => at_s b s o x y z hy W h)
  generalize plc s (o, x, y, z) = p at *
  clear H H2 H3 hm hl hf
  have hx8 : (x.toNat : Int) < 8 := by omega
  have hy8 : (y.toNat : Int) < 8 := by omega
  have WC := Lib.hid (fun W r0 r1 hc => word_y rb mb s.mem p W HF.out HM.out r0 r1 hc)
  generalize ld4 s.mem p.toNat = u at *
  go_enter Tryz.func82, Tryz.ntmps82
  go_upto_region 1 with fail
  generalize w.heap.size = xb at *
  generalize (w.alloc (.cells #[bv o, bv x, bv y, bv z] 26)) = w1 at *
  refine wp_region_S 18 (SS b xb rb ab s (o, x, y, z)) (by as_aux_lemma => kernel_rfl) ?_
  have hSS : SS b xb rb ab s (o, x, y, z) w1.drew := ss_of H4.out.drew HL.out
  refine wpAnyS_tk (i := 0) (by as_aux_lemma => kernel_rfl) (by intro c a d v w h; cases d <;> exact h) hSS (fun oi hoi => ?_)
  simp only [List.getElem?_toArray, List.getElem?_cons_zero, List.getElem?_cons_succ, Option.some.injEq] at hoi; subst hoi
  refine ⟨?_, by rfl, fun wx hSx => ?_, ?_⟩
  rotate_left
  · obtain ⟨⟨s0, s1, s2, s3, sg, sm⟩, sa⟩ := hSx; have g0 := sg x hx; have g1 := sg y hy; clear sg
    go_simp
    try with_reducible rfl
  try simp only [Act.put, List.setIfInBounds_toArray, List.set_cons_zero, List.set_cons_succ]
  refine wpAnyS_tk (i := 1) (by as_aux_lemma => kernel_rfl) (by intro c a d v w h; cases d <;> exact h) hSS (fun oi hoi => ?_)
  simp only [List.getElem?_toArray, List.getElem?_cons_zero, List.getElem?_cons_succ, Option.some.injEq] at hoi; subst hoi
  refine ⟨?_, by rfl, fun wx hSx => ?_, ?_⟩
  rotate_left
  · obtain ⟨⟨s0, s1, s2, s3, sg, sm⟩, sa⟩ := hSx; have g0 := sg x hx; have g1 := sg y hy; clear sg
    go_simp
    try with_reducible rfl
  try simp only [Act.put, List.setIfInBounds_toArray, List.set_cons_zero, List.set_cons_succ]
  refine wpAnyS_tk (i := 2) (by as_aux_lemma => kernel_rfl) (by intro c a d v w h; cases d <;> exact h) hSS (fun oi hoi => ?_)
  simp only [List.getElem?_toArray, List.getElem?_cons_zero, List.getElem?_cons_succ, Option.some.injEq] at hoi; subst hoi
  refine ⟨?_, by rfl, fun wx hSx => ?_, ?_⟩
  rotate_left
  · obtain ⟨⟨s0, s1, s2, s3, sg, sm⟩, sa⟩ := hSx; have g0 := sg x hx; have g1 := sg y hy; clear sg
    go_simp
    try with_reducible rfl
  try simp only [Act.put, List.setIfInBounds_toArray, List.set_cons_zero, List.set_cons_succ]
  refine wpAnyS_tk (i := 3) (by as_aux_lemma => kernel_rfl) (by intro c a d v w h; cases d <;> exact h) hSS (fun oi hoi => ?_)
  simp only [List.getElem?_toArray, List.getElem?_cons_zero, List.getElem?_cons_succ, Option.some.injEq] at hoi; subst hoi
  refine ⟨?_, by rfl, fun wx hSx => ?_, ?_⟩
  rotate_left
  · obtain ⟨⟨s0, s1, s2, s3, sg, sm⟩, sa⟩ := hSx; have g0 := sg x hx; have g1 := sg y hy; clear sg
    go_simp
    try with_reducible rfl
  try simp only [Act.put, List.setIfInBounds_toArray, List.set_cons_zero, List.set_cons_succ]
  refine wpAnyS_tk (i := 4) (by as_aux_lemma => kernel_rfl) (by intro c a d v w h; cases d <;> exact h) hSS (fun oi hoi => ?_)
  simp only [List.getElem?_toArray, List.getElem?_cons_zero, List.getElem?_cons_succ, Option.some.injEq] at hoi; subst hoi
  refine ⟨?_, by rfl, fun wx hSx => ?_, ?_⟩
  rotate_left
  · obtain ⟨⟨s0, s1, s2, s3, sg, sm⟩, sa⟩ := hSx; have g0 := sg x hx; have g1 := sg y hy; clear sg
    go_simp
    try with_reducible rfl
  try simp only [Act.put, List.setIfInBounds_toArray, List.set_cons_zero, List.set_cons_succ]
  refine wpAnyS_tk (i := 5) (by as_aux_lemma => kernel_rfl) (by intro c a d v w h; cases d <;> exact h) hSS (fun oi hoi => ?_)
  simp only [List.getElem?_toArray, List.getElem?_cons_zero, List.getElem?_cons_succ, Option.some.injEq] at hoi; subst hoi
  refine ⟨?_, by rfl, fun wx hSx => ?_, ?_⟩
  rotate_left
  · obtain ⟨⟨s0, s1, s2, s3, sg, sm⟩, sa⟩ := hSx; have g0 := sg x hx; have g1 := sg y hy; clear sg
    go_simp
    try with_reducible rfl
  try simp only [Act.put, List.setIfInBounds_toArray, List.set_cons_zero, List.set_cons_succ]
  refine wpAnyS_tk (i := 6) (by as_aux_lemma => kernel_rfl) (by intro c a d v w h; cases d <;> exact h) hSS (fun oi hoi => ?_)
  simp only [List.getElem?_toArray, List.getElem?_cons_zero, List.getElem?_cons_succ, Option.some.injEq] at hoi; subst hoi
  refine ⟨?_, by rfl, fun wx hSx => ?_, ?_⟩
  rotate_left
  · obtain ⟨⟨s0, s1, s2, s3, sg, sm⟩, sa⟩ := hSx; have g0 := sg x hx; have g1 := sg y hy; clear sg
    go_simp
    try with_reducible rfl
  try simp only [Act.put, List.setIfInBounds_toArray, List.set_cons_zero, List.set_cons_succ]
  refine wpAnyS_tk (i := 7) (by as_aux_lemma => kernel_rfl) (by intro c a d v w h; cases d <;> exact h) hSS (fun oi hoi => ?_)
  simp only [List.getElem?_toArray, List.getElem?_cons_zero, List.getElem?_cons_succ, Option.some.injEq] at hoi; subst hoi
  refine ⟨?_, by rfl, fun wx hSx => ?_, ?_⟩
  rotate_left
  · obtain ⟨⟨s0, s1, s2, s3, sg, sm⟩, sa⟩ := hSx; have g0 := sg x hx; have g1 := sg y hy; clear sg
    go_simp
    try with_reducible rfl
  try simp only [Act.put, List.setIfInBounds_toArray, List.set_cons_zero, List.set_cons_succ]
  refine wpAnyS_tk (i := 8) (by as_aux_lemma => kernel_rfl) (by intro c a d v w h; cases d <;> exact h) hSS (fun oi hoi => ?_)
  simp only [List.getElem?_toArray, List.getElem?_cons_zero, List.getElem?_cons_succ, Option.some.injEq] at hoi; subst hoi
  refine ⟨?_, by rfl, fun wx hSx => ?_, ?_⟩
  rotate_left
  · obtain ⟨⟨s0, s1, s2, s3, sg, sm⟩, sa⟩ := hSx; have g0 := sg x hx; have g1 := sg y hy; clear sg
    go_simp
    try with_reducible rfl
  try simp only [Act.put, List.setIfInBounds_toArray, List.set_cons_zero, List.set_cons_succ]
  refine wpAnyS_tk (i := 9) (by as_aux_lemma => kernel_rfl) (by intro c a d v w h; cases d <;> exact h) hSS (fun oi hoi => ?_)
  simp only [List.getElem?_toArray, List.getElem?_cons_zero, List.getElem?_cons_succ, Option.some.injEq] at hoi; subst hoi
  refine ⟨?_, by rfl, fun wx hSx => ?_, ?_⟩
  rotate_left
  · obtain ⟨⟨s0, s1, s2, s3, sg, sm⟩, sa⟩ := hSx; have g0 := sg x hx; have g1 := sg y hy; clear sg
    go_simp
    try with_reducible rfl
  try simp only [Act.put, List.setIfInBounds_toArray, List.set_cons_zero, List.set_cons_succ]
  refine wpAnyS_tk (i := 15) (by as_aux_lemma => kernel_rfl) (by intro c a d v w h; cases d <;> exact h) hSS (fun oi hoi => ?_)
  simp only [List.getElem?_toArray, List.getElem?_cons_zero, List.getElem?_cons_succ, Option.some.injEq] at hoi; subst hoi
  refine ⟨?_, by rfl, fun wx hSx => ?_, ?_⟩
  rotate_left
  · obtain ⟨⟨s0, s1, s2, s3, sg, sm⟩, sa⟩ := hSx; have g0 := sg x hx; have g1 := sg y hy; clear sg
    go_simp
    try with_reducible rfl
  try simp only [Act.put, List.setIfInBounds_toArray, List.set_cons_zero, List.set_cons_succ]
  refine wpAnyS_tk (i := 16) (by as_aux_lemma => kernel_rfl) (by intro c a d v w h; cases d <;> exact h) hSS (fun oi hoi => ?_)
  simp only [List.getElem?_toArray, List.getElem?_cons_zero, List.getElem?_cons_succ, Option.some.injEq] at hoi; subst hoi
  refine ⟨?_, by rfl, fun wx hSx => ?_, ?_⟩
  rotate_left
  · obtain ⟨⟨s0, s1, s2, s3, sg, sm⟩, sa⟩ := hSx; have g0 := sg x hx; have g1 := sg y hy; clear sg
    go_simp
    try with_reducible rfl
  try simp only [Act.put, List.setIfInBounds_toArray, List.set_cons_zero, List.set_cons_succ]
  refine wpAnyS_one (i := 10) (by as_aux_lemma => kernel_rfl) ?_
  intro oi hoi K hK
  simp only [List.getElem?_toArray, List.getElem?_cons_zero, List.getElem?_cons_succ, Option.some.injEq] at hoi; subst hoi
  go_simp
  go_at_call 78
  refine (AC.out _ (hSS.sx.rg y hy)).mono ?_; rintro e w2 ⟨rfl, hb⟩
  have H5 := Lib.hid (H4.out.drew.below_read hb)
  clear hSS hb H4 AC
  have hSS : SS b xb rb ab s (o, x, y, z) w2 := ss_of H5.out HL.out
  refine hK.out _ _ (fun _ => hSS) ?_
  clear hK K
  try simp only [Act.put, List.setIfInBounds_toArray, List.set_cons_zero, List.set_cons_succ]
  have r0 : w2.cell? ⟨rb, 0, none⟩ = _ := cell_blk (blk_get (H5.out.pull 3 rfl)) 0
  have r1 : w2.cell? ⟨rb, 1, none⟩ = _ := cell_blk (blk_get (H5.out.pull 3 rfl)) 1
  refine wpAnyS_one (i := 11) (by as_aux_lemma => kernel_rfl) ?_
  intro oi hoi K hK
  simp only [List.getElem?_toArray, List.getElem?_cons_zero, List.getElem?_cons_succ, Option.some.injEq] at hoi; subst hoi
  go_simp
  go_at_call 84
  refine (WC.out w2 r0 r1 (fun k hk => mb_cell (H5.out.pull 2 rfl) hk)).mono ?_; rintro e w3 ⟨rfl, rfl⟩
  refine hK.out _ _ (fun _ => hSS) ?_
  clear hK K
  try simp only [Act.put, List.setIfInBounds_toArray, List.set_cons_zero, List.set_cons_succ]
  refine wpAnyS_tk (i := 12) (by as_aux_lemma => kernel_rfl) (by intro c a d v w h; cases d <;> exact h) hSS (fun oi hoi => ?_)
  simp only [List.getElem?_toArray, List.getElem?_cons_zero, List.getElem?_cons_succ, Option.some.injEq] at hoi; subst hoi
  refine ⟨?_, by rfl, fun wx hSx => ?_, ?_⟩
  rotate_left
  · obtain ⟨⟨s0, s1, s2, s3, sg, sm⟩, sa⟩ := hSx; have g0 := sg x hx; have g1 := sg y hy; clear sg
    go_simp
    try with_reducible rfl
  try simp only [Act.put, List.setIfInBounds_toArray, List.set_cons_zero, List.set_cons_succ]
  refine wpAnyS_tk (i := 13) (by as_aux_lemma => kernel_rfl) (by intro c a d v w h; cases d <;> exact h) hSS (fun oi hoi => ?_)
  simp only [List.getElem?_toArray, List.getElem?_cons_zero, List.getElem?_cons_succ, Option.some.injEq] at hoi; subst hoi
  refine ⟨?_, by rfl, fun wx hSx => ?_, ?_⟩
  rotate_left
  · obtain ⟨⟨s0, s1, s2, s3, sg, sm⟩, sa⟩ := hSx; have g0 := sg x hx; have g1 := sg y hy; clear sg
    go_simp
    try with_reducible rfl
  try simp only [Act.put, List.setIfInBounds_toArray, List.set_cons_zero, List.set_cons_succ]
  refine wpAnyS_one (i := 14) (by as_aux_lemma => kernel_rfl) ?_
  intro oi hoi K hK
  simp only [List.getElem?_toArray, List.getElem?_cons_zero, List.getElem?_cons_succ, Option.some.injEq] at hoi; subst hoi
  go_simp
  go_at_call 83
  refine (must32_y _ _).mono ?_; rintro e w4 ⟨rfl, rfl⟩
  refine hK.out _ _ (fun _ => hSS) ?_
  clear hK K
  try simp only [Act.put, List.setIfInBounds_toArray, List.set_cons_zero, List.set_cons_succ]
  refine wpAnyS_tk (i := 17) (by as_aux_lemma => kernel_rfl) (by intro c a d v w h; cases d <;> exact h) hSS (fun oi hoi => ?_)
  simp only [List.getElem?_toArray, List.getElem?_cons_zero, List.getElem?_cons_succ, Option.some.injEq] at hoi; subst hoi
  refine ⟨?_, by rfl, fun wx hSx => ?_, ?_⟩
  rotate_left
  · obtain ⟨⟨s0, s1, s2, s3, sg, sm⟩, sa⟩ := hSx; have g0 := sg x hx; have g1 := sg y hy; clear sg
    go_simp
    try with_reducible rfl
  try simp only [Act.put, List.setIfInBounds_toArray, List.set_cons_zero, List.set_cons_succ]
  have f0 := cb_reg H5.out.tail HL.out x.toNat hx
  have fz := free_blk (blk_get H5.out.tail) x.toNat
  refine wpAnyS_one (i := 18) (by as_aux_lemma => kernel_rfl) ?_
  intro oi hoi K hK
  simp only [List.getElem?_toArray, List.getElem?_cons_zero, List.getElem?_cons_succ, Option.some.injEq] at hoi; subst hoi
  go_simp
  refine hK.out _ _ (fun h => absurd h (by decide)) ?_
  clear hK K
  try simp only [Act.put, List.setIfInBounds_toArray, List.set_cons_zero, List.set_cons_succ]
  refine wpAnyS_done (by as_aux_lemma => kernel_rfl) ?_ _
  have HZ : Hid (Hp w0 _ (CR b c (wrg s x u) :: AB ab :: r)) := Lib.hid (cr_shut (s := wrg s x u) (by simpa [wrg] using HL.out) HM.out (cb_setreg H5.out.tail HL.out x.toNat hx u))
  clear hSS H5 HL HM HF r0 r1 f0 fz
  go_wp2
  go_ret
  exact ⟨rfl, HZ.out⟩
set_option maxHeartbeats 8000000 in
set_option maxRecDepth 20000 in
theorem op11n_c {w0 w : World} {r : List Thing} {b ab : Nat} {c : List I4} {s : Cs} (o x y z : UInt8) (hx : x.toNat < 8) (hy : y.toNat < 8) (hf : ¬ (plc s (o, x, y, z)).toNat + 4 ≤ s.mem.length) (H : Hp w0 w (CR b c s :: AB ab :: r)) :
    Calls Tryz.prog 82 #[.pointer (some ⟨b, 0, none⟩), i4v (o, x, y, z), .pointer (some ⟨ab, 0, none⟩)] w fun e w' => e = .panicked [PE 4] ∧ Hp w0 w' (CR b c s :: AB ab :: r) := by
  obtain ⟨rb, mb, vc, vs, hl, hm, H2⟩ := cr_open H
  have H3 := blk_new H2 (.cells #[bv o, bv x, bv y, bv z] 26)
  have H4 : Hid (Hp w0 _ (XB w.heap.size (o, x, y, z) :: _)) := Lib.hid H3
  have HM := Lib.hid hm
  have HL := Lib.hid hl
  have HF := Lib.hid hf
  have AC := Lib.hid (fun W h => at_s b s o x y z hy W h)
  generalize plc s (o, x, y, z) = p at *
  clear H H2 H3 hm hl hf
  have hx8 : (x.toNat : Int) < 8 := by omega
  have hy8 : (y.toNat : Int) < 8 := by omega
  go_enter Tryz.func82, Tryz.ntmps82
  go_upto_region 1 with fail
  generalize w.heap.size = xb at *
  generalize (w.alloc (.cells #[bv o, bv x, bv y, bv z] 26)) = w1 at *
  refine wp_region_S 18 (SS b xb rb ab s (o, x, y, z)) (by as_aux_lemma => kernel_rfl) ?_
  have hSS : SS b xb rb ab s (o, x, y, z) w1.drew := ss_of H4.out.drew HL.out
  refine wpAnyS_tk (i := 0) (by as_aux_lemma => kernel_rfl) (by intro c a d v w h; cases d <;> exact h) hSS (fun oi hoi => ?_)
  simp only [List.getElem?_toArray, List.getElem?_cons_zero, List.getElem?_cons_succ, Option.some.injEq] at hoi; subst hoi
  refine ⟨?_, by rfl, fun wx hSx => ?_, ?_⟩
  rotate_left
  · obtain ⟨⟨s0, s1, s2, s3, sg, sm⟩, sa⟩ := hSx; have g0 := sg x hx; have g1 := sg y hy; clear sg
    go_simp
    try with_reducible rfl
  try simp only [Act.put, List.setIfInBounds_toArray, List.set_cons_zero, List.set_cons_succ]
  refine wpAnyS_tk (i := 1) (by as_aux_lemma => kernel_rfl) (by intro c a d v w h; cases d <;> exact h) hSS (fun oi hoi => ?_)
  simp only [List.getElem?_toArray, List.getElem?_cons_zero, List.getElem?_cons_succ, Option.some.injEq] at hoi; subst hoi
  refine ⟨?_, by rfl, fun wx hSx => ?_, ?_⟩
  rotate_left
  · obtain ⟨⟨s0, s1, s2, s3, sg, sm⟩, sa⟩ := hSx; have g0 := sg x hx; have g1 := sg y hy; clear sg
    go_simp
    try with_reducible rfl
  try simp only [Act.put, List.setIfInBounds_toArray, List.set_cons_zero, List.set_cons_succ]
  refine wpAnyS_tk (i := 2) (by as_aux_lemma => kernel_rfl) (by intro c a d v w h; cases d <;> exact h) hSS (fun oi hoi => ?_)
  simp only [List.getElem?_toArray, List.getElem?_cons_zero, List.getElem?_cons_succ, Option.some.injEq] at hoi; subst hoi
  refine ⟨?_, by rfl, fun wx hSx => ?_, ?_⟩
  rotate_left
  · obtain ⟨⟨s0, s1, s2, s3, sg, sm⟩, sa⟩ := hSx; have g0 := sg x hx; have g1 := sg y hy; clear sg
    go_simp
    try with_reducible rfl
  try simp only [Act.put, List.setIfInBounds_toArray, List.set_cons_zero, List.set_cons_succ]
  refine wpAnyS_tk (i := 3) (by as_aux_lemma => kernel_rfl) (by intro c a d v w h; cases d <;> exact h) hSS (fun oi hoi => ?_)
  simp only [List.getElem?_toArray, List.getElem?_cons_zero, List.getElem?_cons_succ, Option.some.injEq] at hoi; subst hoi
  refine ⟨?_, by rfl, fun wx hSx => ?_, ?_⟩
  rotate_left
  · obtain ⟨⟨s0, s1, s2, s3, sg, sm⟩, sa⟩ := hSx; have g0 := sg x hx; have g1 := sg y hy; clear sg
    go_simp
    try with_reducible rfl
  try simp only [Act.put, List.setIfInBounds_toArray, List.set_cons_zero, List.set_cons_succ]
  refine wpAnyS_tk (i := 4) (by as_aux_lemma => kernel_rfl) (by intro c a d v w h; cases d <;> exact h) hSS (fun oi hoi => ?_)
  simp only [List.getElem?_toArray, List.getElem?_cons_zero, List.getElem?_cons_succ, Option.some.injEq] at hoi; subst hoi
  refine ⟨?_, by rfl, fun wx hSx => ?_, ?_⟩
  rotate_left
  · obtain ⟨⟨s0, s1, s2, s3, sg, sm⟩, sa⟩ := hSx; have g0 := sg x hx; have g1 := sg y hy; clear sg
    go_simp
    try with_reducible rfl
  try simp only [Act.put, List.setIfInBounds_toArray, List.set_cons_zero, List.set_cons_succ]
  refine wpAnyS_tk (i := 5) (by as_aux_lemma => kernel_rfl) (by intro c a d v w h; cases d <;> exact h) hSS (fun oi hoi => ?_)
  simp only [List.getElem?_toArray, List.getElem?_cons_zero, List.getElem?_cons_succ, Option.some.injEq] at hoi; subst hoi
  refine ⟨?_, by rfl, fun wx hSx => ?_, ?_⟩
  rotate_left
  · obtain ⟨⟨s0, s1, s2, s3, sg, sm⟩, sa⟩ := hSx; have g0 := sg x hx; have g1 := sg y hy; clear sg
    go_simp
    try with_reducible rfl
  try simp only [Act.put, List.setIfInBounds_toArray, List.set_cons_zero, List.set_cons_succ]
  refine wpAnyS_tk (i := 6) (by as_aux_lemma => kernel_rfl) (by intro c a d v w h; cases d <;> exact h) hSS (fun oi hoi => ?_)
  simp only [List.getElem?_toArray, List.getElem?_cons_zero, List.getElem?_cons_succ, Option.some.injEq] at hoi; subst hoi
  refine ⟨?_, by rfl, fun wx hSx => ?_, ?_⟩
  rotate_left
  · obtain ⟨⟨s0, s1, s2, s3, sg, sm⟩, sa⟩ := hSx; have g0 := sg x hx; have g1 := sg y hy; clear sg
    go_simp
    try with_reducible rfl
  try simp only [Act.put, List.setIfInBounds_toArray, List.set_cons_zero, List.set_cons_succ]
  refine wpAnyS_tk (i := 7) (by as_aux_lemma => kernel_rfl) (by intro c a d v w h; cases d <;> exact h) hSS (fun oi hoi => ?_)
  simp only [List.getElem?_toArray, List.getElem?_cons_zero, List.getElem?_cons_succ, Option.some.injEq] at hoi; subst hoi
  refine ⟨?_, by rfl, fun wx hSx => ?_, ?_⟩
  rotate_left
  · obtain ⟨⟨s0, s1, s2, s3, sg, sm⟩, sa⟩ := hSx; have g0 := sg x hx; have g1 := sg y hy; clear sg
    go_simp
    try with_reducible rfl
  try simp only [Act.put, List.setIfInBounds_toArray, List.set_cons_zero, List.set_cons_succ]
  refine wpAnyS_tk (i := 8) (by as_aux_lemma => kernel_rfl) (by intro c a d v w h; cases d <;> exact h) hSS (fun oi hoi => ?_)
  simp only [List.getElem?_toArray, List.getElem?_cons_zero, List.getElem?_cons_succ, Option.some.injEq] at hoi; subst hoi
  refine ⟨?_, by rfl, fun wx hSx => ?_, ?_⟩
  rotate_left
  · obtain ⟨⟨s0, s1, s2, s3, sg, sm⟩, sa⟩ := hSx; have g0 := sg x hx; have g1 := sg y hy; clear sg
    go_simp
    try with_reducible rfl
  try simp only [Act.put, List.setIfInBounds_toArray, List.set_cons_zero, List.set_cons_succ]
  refine wpAnyS_tk (i := 9) (by as_aux_lemma => kernel_rfl) (by intro c a d v w h; cases d <;> exact h) hSS (fun oi hoi => ?_)
  simp only [List.getElem?_toArray, List.getElem?_cons_zero, List.getElem?_cons_succ, Option.some.injEq] at hoi; subst hoi
  refine ⟨?_, by rfl, fun wx hSx => ?_, ?_⟩
  rotate_left
  · obtain ⟨⟨s0, s1, s2, s3, sg, sm⟩, sa⟩ := hSx; have g0 := sg x hx; have g1 := sg y hy; clear sg
    go_simp
    try with_reducible rfl
  try simp only [Act.put, List.setIfInBounds_toArray, List.set_cons_zero, List.set_cons_succ]
  refine wpAnyS_tk (i := 15) (by as_aux_lemma => kernel_rfl) (by intro c a d v w h; cases d <;> exact h) hSS (fun oi hoi => ?_)
  simp only [List.getElem?_toArray, List.getElem?_cons_zero, List.getElem?_cons_succ, Option.some.injEq] at hoi; subst hoi
  refine ⟨?_, by rfl, fun wx hSx => ?_, ?_⟩
  rotate_left
  · obtain ⟨⟨s0, s1, s2, s3, sg, sm⟩, sa⟩ := hSx; have g0 := sg x hx; have g1 := sg y hy; clear sg
    go_simp
    try with_reducible rfl
  try simp only [Act.put, List.setIfInBounds_toArray, List.set_cons_zero, List.set_cons_succ]
  refine wpAnyS_tk (i := 16) (by as_aux_lemma => kernel_rfl) (by intro c a d v w h; cases d <;> exact h) hSS (fun oi hoi => ?_)
  simp only [List.getElem?_toArray, List.getElem?_cons_zero, List.getElem?_cons_succ, Option.some.injEq] at hoi; subst hoi
  refine ⟨?_, by rfl, fun wx hSx => ?_, ?_⟩
  rotate_left
  · obtain ⟨⟨s0, s1, s2, s3, sg, sm⟩, sa⟩ := hSx; have g0 := sg x hx; have g1 := sg y hy; clear sg
    go_simp
    try with_reducible rfl
  try simp only [Act.put, List.setIfInBounds_toArray, List.set_cons_zero, List.set_cons_succ]
  refine wpAnyS_one (i := 10) (by as_aux_lemma => kernel_rfl) ?_
  intro oi hoi K hK
  simp only [List.getElem?_toArray, List.getElem?_cons_zero, List.getElem?_cons_succ, Option.some.injEq] at hoi; subst hoi
  go_simp
  go_at_call 78
  refine (AC.out _ (hSS.sx.rg y hy)).mono ?_; rintro e w2 ⟨rfl, hb⟩
  have H5 := Lib.hid (H4.out.drew.below_read hb)
  clear hSS hb H4 AC
  have hSS : SS b xb rb ab s (o, x, y, z) w2 := ss_of H5.out HL.out
  refine hK.out _ _ (fun _ => hSS) ?_
  clear hK K
  try simp only [Act.put, List.setIfInBounds_toArray, List.set_cons_zero, List.set_cons_succ]
  have r0 : w2.cell? ⟨rb, 0, none⟩ = _ := cell_blk (blk_get (H5.out.pull 3 rfl)) 0
  have r1 : w2.cell? ⟨rb, 1, none⟩ = _ := cell_blk (blk_get (H5.out.pull 3 rfl)) 1
  refine wpAnyS_one (i := 11) (by as_aux_lemma => kernel_rfl) ?_
  intro oi hoi K hK
  simp only [List.getElem?_toArray, List.getElem?_cons_zero, List.getElem?_cons_succ, Option.some.injEq] at hoi; subst hoi
  go_simp
  go_at_call 84
  refine (word_n rb mb s.mem.length p w2 HF.out HM.out r0 r1).mono ?_; rintro e w3 ⟨rfl, rfl⟩
  refine hK.out _ _ (fun _ => hSS) ?_
  clear hK K
  try simp only [Act.put, List.setIfInBounds_toArray, List.set_cons_zero, List.set_cons_succ]
  refine wpAnyS_tk (i := 12) (by as_aux_lemma => kernel_rfl) (by intro c a d v w h; cases d <;> exact h) hSS (fun oi hoi => ?_)
  simp only [List.getElem?_toArray, List.getElem?_cons_zero, List.getElem?_cons_succ, Option.some.injEq] at hoi; subst hoi
  refine ⟨?_, by rfl, fun wx hSx => ?_, ?_⟩
  rotate_left
  · obtain ⟨⟨s0, s1, s2, s3, sg, sm⟩, sa⟩ := hSx; have g0 := sg x hx; have g1 := sg y hy; clear sg
    go_simp
    try with_reducible rfl
  try simp only [Act.put, List.setIfInBounds_toArray, List.set_cons_zero, List.set_cons_succ]
  refine wpAnyS_tk (i := 13) (by as_aux_lemma => kernel_rfl) (by intro c a d v w h; cases d <;> exact h) hSS (fun oi hoi => ?_)
  simp only [List.getElem?_toArray, List.getElem?_cons_zero, List.getElem?_cons_succ, Option.some.injEq] at hoi; subst hoi
  refine ⟨?_, by rfl, fun wx hSx => ?_, ?_⟩
  rotate_left
  · obtain ⟨⟨s0, s1, s2, s3, sg, sm⟩, sa⟩ := hSx; have g0 := sg x hx; have g1 := sg y hy; clear sg
    go_simp
    try with_reducible rfl
  try simp only [Act.put, List.setIfInBounds_toArray, List.set_cons_zero, List.set_cons_succ]
  refine wpAnyS_one (i := 14) (by as_aux_lemma => kernel_rfl) ?_
  intro oi hoi K hK
  simp only [List.getElem?_toArray, List.getElem?_cons_zero, List.getElem?_cons_succ, Option.some.injEq] at hoi; subst hoi
  go_simp
  go_at_call 83
  refine (must32_n _ _).mono ?_; rintro e w4 ⟨rfl, rfl⟩
  exact ⟨rfl, rfl, cr_shut HL.out HM.out H5.out.tail⟩
end Go.Proofs.YtijkkompnfpdeaaGreatDoor
