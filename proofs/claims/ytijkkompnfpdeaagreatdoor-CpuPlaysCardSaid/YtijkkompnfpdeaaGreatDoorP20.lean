/- The document's core: a step of the code: reckoned, told, asked: walked. -/
import Derived.Test.YtijkkompnfpdeaaGreatDoorP18
import Derived.Test.YtijkkompnfpdeaaGreatDoorP19
set_option linter.unusedVariables false
set_option linter.unusedSimpArgs false
namespace Go.Proofs.YtijkkompnfpdeaaGreatDoor
open Go.RowKit Go.Joins Go.Shelf
attribute [local go_sem] Oper.semAt_some

set_option maxHeartbeats 16000000 in
set_option maxRecDepth 20000 in
theorem rstep_do2 {w0 w : World} {r : List Thing} {b : Nat} {c : List I4} {s : Cs} (ha : s.asked = false) (k : Nat) (hk : s.at_ = (k : Int)) (hlt : k < c.length) (hlen : c.length ≤ 1024) (o x y z : UInt8) (hx : c[k] = (o, x, y, z)) (ho : 3 ≤ o.toNat ∧ o.toNat ≤ 10) (hxr : x.toNat < 8) (hyr : y.toNat < 8) (hzr : z.toNat < 8) (u v d : UInt32) (hu : rg s y = u) (hv : rg s z = v) (hd : doP o.toNat u v = d) (H : Hp w0 w (DR b c s :: r)) :
    Calls Tryz.prog 19 #[.pointer (some ⟨b, 0, none⟩)] w fun e w' => e = .returned (stV false ak0 0) ∧ Hp w0 w' (DR b c { wrg s x d with at_ := s.at_ + 1 } :: r) := by
  have HC := Lib.hid (fun (W : World) => rdo_all o ho.1 ho.2 u v W)
  rw [hd] at HC
  clear hd
  have HO := Lib.hid ho
  clear ho
  have HR := Lib.hid (blk_new H ZA)
  clear H
  go_enter Tryz.func19, Tryz.ntmps19
  go_upto_region 1 with fail
  generalize w.heap.size = b3 at *
  generalize w.alloc _ = W at *
  obtain ⟨mb, C1, -, ⟨a, cc, C4, -⟩, -, C3, -, -⟩ := df_of HR.out.tail
  rw [ha] at C3
  rw [hk] at C1
  have hn2 : decide ((k : Int) < 0) = false := by simp
  have hn3 : decide ((c.length : Int) ≤ (k : Int)) = false := by simp; omega
  go_wp2
  go_quiet (fail)
  go_upto_region 5 with fail
  have HR1 := Lib.hid (HR.out.drewN nq)
  generalize W.drewN nq = W1 at *
  clear HR C1 C3 C4 hn2 hn3
  obtain ⟨mb', C1, -, ⟨a', cc', C4, C4'⟩, -, -, -, -⟩ := df_of HR1.out.tail
  obtain ⟨g, oo, rfl, i0, i1, i2, i3⟩ := ins_cells C4' hlt
  rw [hx] at i0 i1 i2 i3
  rw [hk] at C1
  have hSS : S8 b g oo k c.length cc' (o, x, y, z) W1.drew := ⟨C4, C1, i0, i1, i2, i3⟩
  have hlt' : (k : Int) < (c.length : Int) := by omega
  clear C1 C4 C4' i0 i1 i2 i3
  refine wp_region_S 11 (S8 b g oo k c.length cc' (o, x, y, z)) (by as_aux_lemma => kernel_rfl) ?_
  refine wpAnyS_tk (i := 0) (by as_aux_lemma => kernel_rfl) (by intro c a d v w h; cases d <;> exact h) hSS (fun oi hoi => ?_)
  simp only [List.getElem?_toArray, List.getElem?_cons_zero, List.getElem?_cons_succ, Option.some.injEq] at hoi; subst hoi
  refine ⟨?_, by rfl, fun wx hSx => ?_, ?_⟩
  rotate_left
  · obtain ⟨s1, s2, s3, s4, s5, s6⟩ := hSx
    go_simp
    try with_reducible rfl
  try simp only [Act.put, List.setIfInBounds_toArray, List.set_cons_zero, List.set_cons_succ]
  refine wpAnyS_tk (i := 1) (by as_aux_lemma => kernel_rfl) (by intro c a d v w h; cases d <;> exact h) hSS (fun oi hoi => ?_)
  simp only [List.getElem?_toArray, List.getElem?_cons_zero, List.getElem?_cons_succ, Option.some.injEq] at hoi; subst hoi
  refine ⟨?_, by rfl, fun wx hSx => ?_, ?_⟩
  rotate_left
  · obtain ⟨s1, s2, s3, s4, s5, s6⟩ := hSx
    go_simp
    try with_reducible rfl
  try simp only [Act.put, List.setIfInBounds_toArray, List.set_cons_zero, List.set_cons_succ]
  refine wpAnyS_tk (i := 2) (by as_aux_lemma => kernel_rfl) (by intro c a d v w h; cases d <;> exact h) hSS (fun oi hoi => ?_)
  simp only [List.getElem?_toArray, List.getElem?_cons_zero, List.getElem?_cons_succ, Option.some.injEq] at hoi; subst hoi
  refine ⟨?_, by rfl, fun wx hSx => ?_, ?_⟩
  rotate_left
  · obtain ⟨s1, s2, s3, s4, s5, s6⟩ := hSx
    go_simp
    try with_reducible rfl
  try simp only [Act.put, List.setIfInBounds_toArray, List.set_cons_zero, List.set_cons_succ]
  refine wpAnyS_tk (i := 3) (by as_aux_lemma => kernel_rfl) (by intro c a d v w h; cases d <;> exact h) hSS (fun oi hoi => ?_)
  simp only [List.getElem?_toArray, List.getElem?_cons_zero, List.getElem?_cons_succ, Option.some.injEq] at hoi; subst hoi
  refine ⟨?_, by rfl, fun wx hSx => ?_, ?_⟩
  rotate_left
  · obtain ⟨s1, s2, s3, s4, s5, s6⟩ := hSx
    go_simp
    try with_reducible rfl
  try simp only [Act.put, List.setIfInBounds_toArray, List.set_cons_zero, List.set_cons_succ]
  refine wpAnyS_tk (i := 4) (by as_aux_lemma => kernel_rfl) (by intro c a d v w h; cases d <;> exact h) hSS (fun oi hoi => ?_)
  simp only [List.getElem?_toArray, List.getElem?_cons_zero, List.getElem?_cons_succ, Option.some.injEq] at hoi; subst hoi
  refine ⟨?_, by rfl, fun wx hSx => ?_, ?_⟩
  rotate_left
  · obtain ⟨s1, s2, s3, s4, s5, s6⟩ := hSx
    go_simp
    try with_reducible rfl
  try simp only [Act.put, List.setIfInBounds_toArray, List.set_cons_zero, List.set_cons_succ]
  refine wpAnyS_tk (i := 5) (by as_aux_lemma => kernel_rfl) (by intro c a d v w h; cases d <;> exact h) hSS (fun oi hoi => ?_)
  simp only [List.getElem?_toArray, List.getElem?_cons_zero, List.getElem?_cons_succ, Option.some.injEq] at hoi; subst hoi
  refine ⟨?_, by rfl, fun wx hSx => ?_, ?_⟩
  rotate_left
  · obtain ⟨s1, s2, s3, s4, s5, s6⟩ := hSx
    go_simp
    try with_reducible rfl
  try simp only [Act.put, List.setIfInBounds_toArray, List.set_cons_zero, List.set_cons_succ]
  refine wpAnyS_tk (i := 6) (by as_aux_lemma => kernel_rfl) (by intro c a d v w h; cases d <;> exact h) hSS (fun oi hoi => ?_)
  simp only [List.getElem?_toArray, List.getElem?_cons_zero, List.getElem?_cons_succ, Option.some.injEq] at hoi; subst hoi
  refine ⟨?_, by rfl, fun wx hSx => ?_, ?_⟩
  rotate_left
  · obtain ⟨s1, s2, s3, s4, s5, s6⟩ := hSx
    go_simp
    try with_reducible rfl
  try simp only [Act.put, List.setIfInBounds_toArray, List.set_cons_zero, List.set_cons_succ]
  refine wpAnyS_tk (i := 7) (by as_aux_lemma => kernel_rfl) (by intro c a d v w h; cases d <;> exact h) hSS (fun oi hoi => ?_)
  simp only [List.getElem?_toArray, List.getElem?_cons_zero, List.getElem?_cons_succ, Option.some.injEq] at hoi; subst hoi
  refine ⟨?_, by rfl, fun wx hSx => ?_, ?_⟩
  rotate_left
  · obtain ⟨s1, s2, s3, s4, s5, s6⟩ := hSx
    go_simp
    try with_reducible rfl
  try simp only [Act.put, List.setIfInBounds_toArray, List.set_cons_zero, List.set_cons_succ]
  refine wpAnyS_tk (i := 8) (by as_aux_lemma => kernel_rfl) (by intro c a d v w h; cases d <;> exact h) hSS (fun oi hoi => ?_)
  simp only [List.getElem?_toArray, List.getElem?_cons_zero, List.getElem?_cons_succ, Option.some.injEq] at hoi; subst hoi
  refine ⟨?_, by rfl, fun wx hSx => ?_, ?_⟩
  rotate_left
  · obtain ⟨s1, s2, s3, s4, s5, s6⟩ := hSx
    go_simp
    try with_reducible rfl
  try simp only [Act.put, List.setIfInBounds_toArray, List.set_cons_zero, List.set_cons_succ]
  refine wpAnyS_tk (i := 9) (by as_aux_lemma => kernel_rfl) (by intro c a d v w h; cases d <;> exact h) hSS (fun oi hoi => ?_)
  simp only [List.getElem?_toArray, List.getElem?_cons_zero, List.getElem?_cons_succ, Option.some.injEq] at hoi; subst hoi
  refine ⟨?_, by rfl, fun wx hSx => ?_, ?_⟩
  rotate_left
  · obtain ⟨s1, s2, s3, s4, s5, s6⟩ := hSx
    go_simp
    try with_reducible rfl
  try simp only [Act.put, List.setIfInBounds_toArray, List.set_cons_zero, List.set_cons_succ]
  refine wpAnyS_one (i := 10) (by as_aux_lemma => kernel_rfl) ?_
  intro oi hoi K hK
  simp only [List.getElem?_toArray, List.getElem?_cons_zero, List.getElem?_cons_succ, Option.some.injEq] at hoi; subst hoi
  go_simp
  refine hK.out _ _ (fun _ => hSS.alloc _) ?_
  clear hK K
  try simp only [Act.put, List.setIfInBounds_toArray, List.set_cons_zero, List.set_cons_succ]
  refine wpAnyS_one (i := 11) (by as_aux_lemma => kernel_rfl) ?_
  intro oi hoi K hK
  simp only [List.getElem?_toArray, List.getElem?_cons_zero, List.getElem?_cons_succ, Option.some.injEq] at hoi; subst hoi
  go_simp
  refine hK.out _ _ (fun h => absurd h (by decide)) ?_
  clear hK K
  try simp only [Act.put, List.setIfInBounds_toArray, List.set_cons_zero, List.set_cons_succ]
  refine wpAnyS_done (by as_aux_lemma => kernel_rfl) ?_ _
  clear hSS hlt'
  have HR2 : Hid (Hp w0 _ (Blk b3 ZA :: DR b c s :: XB W1.heap.size (o, x, y, z) :: r)) := Lib.hid (((blk_new HR1.out (.cells #[bv o, bv x, bv y, bv z] 26)).drew.pull 2 rfl).pull 2 rfl)
  generalize W1.heap.size = xb at *
  generalize (W1.alloc _).drew = W2 at *
  clear HR1
  have x0 : W2.cell? ⟨xb, 0, none⟩ = some (bv o) := cell_blk (blk_get (HR2.out.pull 2 rfl)) 0
  have x1 : W2.cell? ⟨xb, 1, none⟩ = some (bv x) := cell_blk (blk_get (HR2.out.pull 2 rfl)) 1
  have x2 : W2.cell? ⟨xb, 2, none⟩ = some (bv y) := cell_blk (blk_get (HR2.out.pull 2 rfl)) 2
  have x3 : W2.cell? ⟨xb, 3, none⟩ = some (bv z) := cell_blk (blk_get (HR2.out.pull 2 rfl)) 3
  have hw : IntKind.i64.wrap ((k : Int) + 1) = (k : Int) + 1 := by rw [IntKind.wrap_i64]; omega
  obtain ⟨mb2, C8, -, -, C11, -, fr, RG⟩ := df_of HR2.out.tail
  rw [hk] at C8
  have n0 : ¬ ((o.toNat : Int) = 0) := by have := HO.out; omega
  have n1 : ¬ ((o.toNat : Int) = 1) := by have := HO.out; omega
  have n2 : ¬ ((o.toNat : Int) = 2) := by have := HO.out; omega
  have n11 : ¬ ((o.toNat : Int) = 11) := by have := HO.out; omega
  have n12 : ¬ ((o.toNat : Int) = 12) := by have := HO.out; omega
  have n13 : ¬ ((o.toNat : Int) = 13) := by have := HO.out; omega
  have n14 : ¬ ((o.toNat : Int) = 14) := by have := HO.out; omega
  have n15 : ¬ ((o.toNat : Int) = 15) := by have := HO.out; omega
  have n16 : ¬ ((o.toNat : Int) = 16) := by have := HO.out; omega
  have n17 : ¬ ((o.toNat : Int) = 17) := by have := HO.out; omega
  have n18 : ¬ ((o.toNat : Int) = 18) := by have := HO.out; omega
  have n19 : ¬ ((o.toNat : Int) = 19) := by have := HO.out; omega
  have n20 : ¬ ((o.toNat : Int) = 20) := by have := HO.out; omega
  have n21 : ¬ ((o.toNat : Int) = 21) := by have := HO.out; omega
  have n22 : ¬ ((o.toNat : Int) = 22) := by have := HO.out; omega
  have f1 : W2.cell? ⟨b, y.toNat, none⟩ = some (wv u) := hu ▸ RG y.toNat hyr
  have f2 : W2.cell? ⟨b, z.toNat, none⟩ = some (wv v) := hv ▸ RG z.toNat hzr
  have q4 : (x.toNat : Int) < 8 := by omega
  have q5 : (y.toNat : Int) < 8 := by omega
  have q6 : (z.toNat : Int) < 8 := by omega
  have HU := Lib.hid hu
  have HV := Lib.hid hv
  clear fr RG C11 hu hv
  go_upto_region 8 with fail
  clear n0 n1 n2 n11 n12 n13 n14 n15 n16 n17 n18 n19 n20 n21 n22
  clear C8 hw
  refine wp_region_Tn 27 26 (fun W => W.cell? ⟨xb, 0, none⟩ = some (bv o) ∧ W.cell? ⟨xb, 1, none⟩ = some (bv x) ∧ W.cell? ⟨xb, 2, none⟩ = some (bv y) ∧ W.cell? ⟨xb, 3, none⟩ = some (bv z) ∧ W.cell? ⟨b, y.toNat, none⟩ = some (wv u) ∧ W.cell? ⟨b, z.toNat, none⟩ = some (wv v)) (by as_aux_lemma => kernel_rfl) (by rfl) ?_
  have hSS : (fun (W : World) => W.cell? ⟨xb, 0, none⟩ = some (bv o) ∧ W.cell? ⟨xb, 1, none⟩ = some (bv x) ∧ W.cell? ⟨xb, 2, none⟩ = some (bv y) ∧ W.cell? ⟨xb, 3, none⟩ = some (bv z) ∧ W.cell? ⟨b, y.toNat, none⟩ = some (wv u) ∧ W.cell? ⟨b, z.toNat, none⟩ = some (wv v)) W2.drew := ⟨x0, x1, x2, x3, f1, f2⟩
  clear x0 x1 x2 x3 f1 f2
  iterate 19
    refine wpT_sq 27 (by as_aux_lemma => kernel_rfl) (by intro c a d v w h; cases d <;> exact h) hSS (fun oi hoi => ?_)
    simp only [Nat.reduceAdd, Nat.reduceSub, List.getElem?_toArray, List.getElem?_cons_zero, List.getElem?_cons_succ, Option.some.injEq] at hoi
    subst hoi
    refine ⟨?_, by rfl, fun wx hSx => ?_, ?_⟩
    rotate_left
    · obtain ⟨s0, s1, s2, s3, s4, s5⟩ := hSx
      go_simp
      try with_reducible rfl
    try simp only [Nat.reduceAdd, Nat.reduceSub, Act.put, List.setIfInBounds_toArray, List.set_cons_zero, List.set_cons_succ]
  refine wpT_tk (i := 23) (by as_aux_lemma => kernel_rfl) (by intro c a d v w h; cases d <;> exact h) hSS (fun oi hoi => ?_)
  simp only [List.getElem?_toArray, List.getElem?_cons_zero, List.getElem?_cons_succ, Option.some.injEq] at hoi; subst hoi
  refine ⟨?_, by rfl, fun wx hSx => ?_, ?_⟩
  rotate_left
  · obtain ⟨s0, s1, s2, s3, s4, s5⟩ := hSx
    go_simp
    try with_reducible rfl
  try simp only [Act.put, List.setIfInBounds_toArray, List.set_cons_zero, List.set_cons_succ]
  refine wpT_tk (i := 24) (by as_aux_lemma => kernel_rfl) (by intro c a d v w h; cases d <;> exact h) hSS (fun oi hoi => ?_)
  simp only [List.getElem?_toArray, List.getElem?_cons_zero, List.getElem?_cons_succ, Option.some.injEq] at hoi; subst hoi
  refine ⟨?_, by rfl, fun wx hSx => ?_, ?_⟩
  rotate_left
  · obtain ⟨s0, s1, s2, s3, s4, s5⟩ := hSx
    go_simp
    try with_reducible rfl
  try simp only [Act.put, List.setIfInBounds_toArray, List.set_cons_zero, List.set_cons_succ]
  refine wpT_one (i := 19) (by as_aux_lemma => kernel_rfl) ?_
  intro oi hoi K hK
  simp only [List.getElem?_toArray, List.getElem?_cons_zero, List.getElem?_cons_succ, Option.some.injEq] at hoi; subst hoi
  go_simp
  go_at_call 46
  refine (HC.out _).mono ?_; rintro e w3 ⟨rfl, hb3⟩
  have H3 := Lib.hid (HR2.out.drew.below_read hb3)
  clear HC HR2 hb3 hSS
  obtain ⟨-, -, -, -, -, -, fr3, RG3⟩ := df_of H3.out.tail
  have hSS : (fun (W : World) => W.cell? ⟨xb, 0, none⟩ = some (bv o) ∧ W.cell? ⟨xb, 1, none⟩ = some (bv x) ∧ W.cell? ⟨xb, 2, none⟩ = some (bv y) ∧ W.cell? ⟨xb, 3, none⟩ = some (bv z) ∧ W.cell? ⟨b, y.toNat, none⟩ = some (wv u) ∧ W.cell? ⟨b, z.toNat, none⟩ = some (wv v)) w3 := ⟨cell_blk (blk_get (H3.out.pull 2 rfl)) 0, cell_blk (blk_get (H3.out.pull 2 rfl)) 1, cell_blk (blk_get (H3.out.pull 2 rfl)) 2, cell_blk (blk_get (H3.out.pull 2 rfl)) 3, HU.out ▸ RG3 y.toNat hyr, HV.out ▸ RG3 z.toNat hzr⟩
  have f0 := RG3 x.toNat hxr
  have fz := fr3 x.toNat
  clear fr3 RG3
  refine hK.out _ _ (fun _ => hSS) ?_
  clear hK K
  try simp only [Act.put, List.setIfInBounds_toArray, List.set_cons_zero, List.set_cons_succ]
  refine wpT_tk (i := 20) (by as_aux_lemma => kernel_rfl) (by intro c a d v w h; cases d <;> exact h) hSS (fun oi hoi => ?_)
  simp only [List.getElem?_toArray, List.getElem?_cons_zero, List.getElem?_cons_succ, Option.some.injEq] at hoi; subst hoi
  refine ⟨?_, by rfl, fun wx hSx => ?_, ?_⟩
  rotate_left
  · obtain ⟨s0, s1, s2, s3, s4, s5⟩ := hSx
    go_simp
    try with_reducible rfl
  try simp only [Act.put, List.setIfInBounds_toArray, List.set_cons_zero, List.set_cons_succ]
  refine wpT_tk (i := 21) (by as_aux_lemma => kernel_rfl) (by intro c a d v w h; cases d <;> exact h) hSS (fun oi hoi => ?_)
  simp only [List.getElem?_toArray, List.getElem?_cons_zero, List.getElem?_cons_succ, Option.some.injEq] at hoi; subst hoi
  refine ⟨?_, by rfl, fun wx hSx => ?_, ?_⟩
  rotate_left
  · obtain ⟨s0, s1, s2, s3, s4, s5⟩ := hSx
    go_simp
    try with_reducible rfl
  try simp only [Act.put, List.setIfInBounds_toArray, List.set_cons_zero, List.set_cons_succ]
  refine wpT_fr (i := 22) (by as_aux_lemma => kernel_rfl) (by intro c a d v w h; cases d <;> exact h) (fun _ => hSS) (fun oi hoi => ?_)
  simp only [List.getElem?_toArray, List.getElem?_cons_zero, List.getElem?_cons_succ, Option.some.injEq] at hoi; subst hoi
  refine ⟨?_, by rfl, fun wx => ?_, ?_⟩
  rotate_left
  · go_simp
    try with_reducible rfl
  try simp only [Act.put, List.setIfInBounds_toArray, List.set_cons_zero, List.set_cons_succ]
  refine wpT_tk (i := 25) (by as_aux_lemma => kernel_rfl) (by intro c a d v w h; cases d <;> exact h) hSS (fun oi hoi => ?_)
  simp only [List.getElem?_toArray, List.getElem?_cons_zero, List.getElem?_cons_succ, Option.some.injEq] at hoi; subst hoi
  refine ⟨?_, by rfl, fun wx hSx => ?_, ?_⟩
  rotate_left
  · obtain ⟨s0, s1, s2, s3, s4, s5⟩ := hSx
    go_simp
    try with_reducible rfl
  try simp only [Act.put, List.setIfInBounds_toArray, List.set_cons_zero, List.set_cons_succ]
  have HH := Lib.hid ((d_reg H3.out.up1 x hxr d).up1)
  refine wpT_one (i := 26) (by as_aux_lemma => kernel_rfl) ?_
  intro oi hoi K hK
  simp only [List.getElem?_toArray, List.getElem?_cons_zero, List.getElem?_cons_succ, Option.some.injEq] at hoi; subst hoi
  go_simp
  refine hK.out _ _ (fun h => absurd h (by decide)) ?_
  clear hK K
  try simp only [Act.put, List.setIfInBounds_toArray, List.set_cons_zero, List.set_cons_succ]
  refine wpT_done (by as_aux_lemma => kernel_rfl) ?_ _
  clear hSS f0 fz q4 q5 q6 H3
  go_upto_region 40 with fail
  generalize World.setCell _ _ _ = W4 at *
  have HR4 := HH
  clear HH
  obtain ⟨-, D8, -, -, -, -, fr8, -⟩ := df_of HR4.out.tail
  have z8 := fr8 8
  have HR5 := Lib.hid ((d_at HR4.out.up1 ((k : Int) + 1)).up1)
  clear fr8
  go_upto_region 41 with fail
  generalize World.setCell _ _ _ = HR5w at *
  clear HR4 D8 z8
  rw [← hk] at HR5
  obtain ⟨d0, d1, d2, d3, d4, z0, z1, z2, z3, z4⟩ := zf_of HR5.out
  have HZ := Lib.hid (z_set HR5.out ak0)
  clear HR5
  go_wp2
  exact bodyPost_ret (res3d _ rfl rfl rfl HZ.out) rfl ⟨rfl, HZ.out.tail.up1.tail⟩
set_option maxHeartbeats 16000000 in
set_option maxRecDepth 20000 in
theorem rstep_ask {w0 w : World} {r : List Thing} {b : Nat} {c : List I4} {s : Cs} (ha : s.asked = false) (k : Nat) (hk : s.at_ = (k : Int)) (hlt : k < c.length) (hlen : c.length ≤ 1024) (o x y z : UInt8) (hx : c[k] = (o, x, y, z)) (ho : o.toNat = 21) (u0 u1 u2 u3 : UInt32) (e0 : s.r.getD 0 0 = u0) (e1 : s.r.getD 1 0 = u1) (e2 : s.r.getD 2 0 = u2) (e3 : s.r.getD 3 0 = u3) (H : Hp w0 w (DR b c s :: r)) :
    Calls Tryz.prog 19 #[.pointer (some ⟨b, 0, none⟩)] w fun e w' => e = .returned (stV true ⟨x, u0, u1, u2, sg u3⟩ 0) ∧ Hp w0 w' (DR b c { s with asked := true, at_ := s.at_ + 1 } :: r) := by
  have E0 := Lib.hid e0
  have E1 := Lib.hid e1
  have E2 := Lib.hid e2
  have E3 := Lib.hid e3
  clear e0 e1 e2 e3
  have HO := Lib.hid ho
  clear ho
  have HR := Lib.hid (blk_new H ZA)
  clear H
  go_enter Tryz.func19, Tryz.ntmps19
  go_upto_region 1 with fail
  generalize w.heap.size = b3 at *
  generalize w.alloc _ = W at *
  obtain ⟨mb, C1, -, ⟨a, cc, C4, -⟩, -, C3, -, -⟩ := df_of HR.out.tail
  rw [ha] at C3
  rw [hk] at C1
  have hn2 : decide ((k : Int) < 0) = false := by simp
  have hn3 : decide ((c.length : Int) ≤ (k : Int)) = false := by simp; omega
  go_wp2
  go_quiet (fail)
  go_upto_region 5 with fail
  have HR1 := Lib.hid (HR.out.drewN nq)
  generalize W.drewN nq = W1 at *
  clear HR C1 C3 C4 hn2 hn3
  obtain ⟨mb', C1, -, ⟨a', cc', C4, C4'⟩, -, -, -, -⟩ := df_of HR1.out.tail
  obtain ⟨g, oo, rfl, i0, i1, i2, i3⟩ := ins_cells C4' hlt
  rw [hx] at i0 i1 i2 i3
  rw [hk] at C1
  have hSS : S8 b g oo k c.length cc' (o, x, y, z) W1.drew := ⟨C4, C1, i0, i1, i2, i3⟩
  have hlt' : (k : Int) < (c.length : Int) := by omega
  clear C1 C4 C4' i0 i1 i2 i3
  refine wp_region_S 11 (S8 b g oo k c.length cc' (o, x, y, z)) (by as_aux_lemma => kernel_rfl) ?_
  refine wpAnyS_tk (i := 0) (by as_aux_lemma => kernel_rfl) (by intro c a d v w h; cases d <;> exact h) hSS (fun oi hoi => ?_)
  simp only [List.getElem?_toArray, List.getElem?_cons_zero, List.getElem?_cons_succ, Option.some.injEq] at hoi; subst hoi
  refine ⟨?_, by rfl, fun wx hSx => ?_, ?_⟩
  rotate_left
  · obtain ⟨s1, s2, s3, s4, s5, s6⟩ := hSx
    go_simp
    try with_reducible rfl
  try simp only [Act.put, List.setIfInBounds_toArray, List.set_cons_zero, List.set_cons_succ]
  refine wpAnyS_tk (i := 1) (by as_aux_lemma => kernel_rfl) (by intro c a d v w h; cases d <;> exact h) hSS (fun oi hoi => ?_)
  simp only [List.getElem?_toArray, List.getElem?_cons_zero, List.getElem?_cons_succ, Option.some.injEq] at hoi; subst hoi
  refine ⟨?_, by rfl, fun wx hSx => ?_, ?_⟩
  rotate_left
  · obtain ⟨s1, s2, s3, s4, s5, s6⟩ := hSx
    go_simp
    try with_reducible rfl
  try simp only [Act.put, List.setIfInBounds_toArray, List.set_cons_zero, List.set_cons_succ]
  refine wpAnyS_tk (i := 2) (by as_aux_lemma => kernel_rfl) (by intro c a d v w h; cases d <;> exact h) hSS (fun oi hoi => ?_)
  simp only [List.getElem?_toArray, List.getElem?_cons_zero, List.getElem?_cons_succ, Option.some.injEq] at hoi; subst hoi
  refine ⟨?_, by rfl, fun wx hSx => ?_, ?_⟩
  rotate_left
  · obtain ⟨s1, s2, s3, s4, s5, s6⟩ := hSx
    go_simp
    try with_reducible rfl
  try simp only [Act.put, List.setIfInBounds_toArray, List.set_cons_zero, List.set_cons_succ]
  refine wpAnyS_tk (i := 3) (by as_aux_lemma => kernel_rfl) (by intro c a d v w h; cases d <;> exact h) hSS (fun oi hoi => ?_)
  simp only [List.getElem?_toArray, List.getElem?_cons_zero, List.getElem?_cons_succ, Option.some.injEq] at hoi; subst hoi
  refine ⟨?_, by rfl, fun wx hSx => ?_, ?_⟩
  rotate_left
  · obtain ⟨s1, s2, s3, s4, s5, s6⟩ := hSx
    go_simp
    try with_reducible rfl
  try simp only [Act.put, List.setIfInBounds_toArray, List.set_cons_zero, List.set_cons_succ]
  refine wpAnyS_tk (i := 4) (by as_aux_lemma => kernel_rfl) (by intro c a d v w h; cases d <;> exact h) hSS (fun oi hoi => ?_)
  simp only [List.getElem?_toArray, List.getElem?_cons_zero, List.getElem?_cons_succ, Option.some.injEq] at hoi; subst hoi
  refine ⟨?_, by rfl, fun wx hSx => ?_, ?_⟩
  rotate_left
  · obtain ⟨s1, s2, s3, s4, s5, s6⟩ := hSx
    go_simp
    try with_reducible rfl
  try simp only [Act.put, List.setIfInBounds_toArray, List.set_cons_zero, List.set_cons_succ]
  refine wpAnyS_tk (i := 5) (by as_aux_lemma => kernel_rfl) (by intro c a d v w h; cases d <;> exact h) hSS (fun oi hoi => ?_)
  simp only [List.getElem?_toArray, List.getElem?_cons_zero, List.getElem?_cons_succ, Option.some.injEq] at hoi; subst hoi
  refine ⟨?_, by rfl, fun wx hSx => ?_, ?_⟩
  rotate_left
  · obtain ⟨s1, s2, s3, s4, s5, s6⟩ := hSx
    go_simp
    try with_reducible rfl
  try simp only [Act.put, List.setIfInBounds_toArray, List.set_cons_zero, List.set_cons_succ]
  refine wpAnyS_tk (i := 6) (by as_aux_lemma => kernel_rfl) (by intro c a d v w h; cases d <;> exact h) hSS (fun oi hoi => ?_)
  simp only [List.getElem?_toArray, List.getElem?_cons_zero, List.getElem?_cons_succ, Option.some.injEq] at hoi; subst hoi
  refine ⟨?_, by rfl, fun wx hSx => ?_, ?_⟩
  rotate_left
  · obtain ⟨s1, s2, s3, s4, s5, s6⟩ := hSx
    go_simp
    try with_reducible rfl
  try simp only [Act.put, List.setIfInBounds_toArray, List.set_cons_zero, List.set_cons_succ]
  refine wpAnyS_tk (i := 7) (by as_aux_lemma => kernel_rfl) (by intro c a d v w h; cases d <;> exact h) hSS (fun oi hoi => ?_)
  simp only [List.getElem?_toArray, List.getElem?_cons_zero, List.getElem?_cons_succ, Option.some.injEq] at hoi; subst hoi
  refine ⟨?_, by rfl, fun wx hSx => ?_, ?_⟩
  rotate_left
  · obtain ⟨s1, s2, s3, s4, s5, s6⟩ := hSx
    go_simp
    try with_reducible rfl
  try simp only [Act.put, List.setIfInBounds_toArray, List.set_cons_zero, List.set_cons_succ]
  refine wpAnyS_tk (i := 8) (by as_aux_lemma => kernel_rfl) (by intro c a d v w h; cases d <;> exact h) hSS (fun oi hoi => ?_)
  simp only [List.getElem?_toArray, List.getElem?_cons_zero, List.getElem?_cons_succ, Option.some.injEq] at hoi; subst hoi
  refine ⟨?_, by rfl, fun wx hSx => ?_, ?_⟩
  rotate_left
  · obtain ⟨s1, s2, s3, s4, s5, s6⟩ := hSx
    go_simp
    try with_reducible rfl
  try simp only [Act.put, List.setIfInBounds_toArray, List.set_cons_zero, List.set_cons_succ]
  refine wpAnyS_tk (i := 9) (by as_aux_lemma => kernel_rfl) (by intro c a d v w h; cases d <;> exact h) hSS (fun oi hoi => ?_)
  simp only [List.getElem?_toArray, List.getElem?_cons_zero, List.getElem?_cons_succ, Option.some.injEq] at hoi; subst hoi
  refine ⟨?_, by rfl, fun wx hSx => ?_, ?_⟩
  rotate_left
  · obtain ⟨s1, s2, s3, s4, s5, s6⟩ := hSx
    go_simp
    try with_reducible rfl
  try simp only [Act.put, List.setIfInBounds_toArray, List.set_cons_zero, List.set_cons_succ]
  refine wpAnyS_one (i := 10) (by as_aux_lemma => kernel_rfl) ?_
  intro oi hoi K hK
  simp only [List.getElem?_toArray, List.getElem?_cons_zero, List.getElem?_cons_succ, Option.some.injEq] at hoi; subst hoi
  go_simp
  refine hK.out _ _ (fun _ => hSS.alloc _) ?_
  clear hK K
  try simp only [Act.put, List.setIfInBounds_toArray, List.set_cons_zero, List.set_cons_succ]
  refine wpAnyS_one (i := 11) (by as_aux_lemma => kernel_rfl) ?_
  intro oi hoi K hK
  simp only [List.getElem?_toArray, List.getElem?_cons_zero, List.getElem?_cons_succ, Option.some.injEq] at hoi; subst hoi
  go_simp
  refine hK.out _ _ (fun h => absurd h (by decide)) ?_
  clear hK K
  try simp only [Act.put, List.setIfInBounds_toArray, List.set_cons_zero, List.set_cons_succ]
  refine wpAnyS_done (by as_aux_lemma => kernel_rfl) ?_ _
  clear hSS hlt'
  have HR2 : Hid (Hp w0 _ (Blk b3 ZA :: DR b c s :: XB W1.heap.size (o, x, y, z) :: r)) := Lib.hid (((blk_new HR1.out (.cells #[bv o, bv x, bv y, bv z] 26)).drew.pull 2 rfl).pull 2 rfl)
  generalize W1.heap.size = xb at *
  generalize (W1.alloc _).drew = W2 at *
  clear HR1
  have x0 : W2.cell? ⟨xb, 0, none⟩ = some (bv o) := cell_blk (blk_get (HR2.out.pull 2 rfl)) 0
  have x1 : W2.cell? ⟨xb, 1, none⟩ = some (bv x) := cell_blk (blk_get (HR2.out.pull 2 rfl)) 1
  have x2 : W2.cell? ⟨xb, 2, none⟩ = some (bv y) := cell_blk (blk_get (HR2.out.pull 2 rfl)) 2
  have x3 : W2.cell? ⟨xb, 3, none⟩ = some (bv z) := cell_blk (blk_get (HR2.out.pull 2 rfl)) 3
  have hw : IntKind.i64.wrap ((k : Int) + 1) = (k : Int) + 1 := by rw [IntKind.wrap_i64]; omega
  obtain ⟨mb2, C8, -, -, C11, -, fr, RG⟩ := df_of HR2.out.tail
  rw [hk] at C8
  rw [show bv o = .int .u8 21 by unfold bv; rw [HO.out]; rfl] at x0
  clear fr RG C11 x2 x3
  have SC := Lib.hid (fun W => rsigned_c u3 W)
  go_upto_region 35 with fail
  clear C8 hw
  have HR4 := HR2
  clear HR2 x0 x1
  obtain ⟨-, D8, -, -, -, -, fr8, -⟩ := df_of HR4.out.tail
  have z8 := fr8 8
  have HR5 := Lib.hid ((d_at HR4.out.up1 ((k : Int) + 1)).up1)
  clear fr8
  go_upto_region 36 with fail
  generalize World.setCell _ _ _ = W5 at *
  clear D8 z8
  obtain ⟨-, -, -, -, -, D12, fr8, -⟩ := df_of HR5.out.tail
  have z8 := fr8 12
  have HR6 := Lib.hid ((d_asked HR5.out.up1 true).up1)
  clear fr8 HR4
  rw [show ({ s with at_ := (k : Int) + 1 } : Cs).asked = false from ha] at D12
  go_upto_region 37 with fail
  generalize World.setCell _ _ _ = W6 at *
  clear HR5 D12 z8
  have x0 : W6.cell? ⟨xb, 0, none⟩ = some (bv o) := cell_blk (blk_get (HR6.out.pull 2 rfl)) 0
  rw [show bv o = .int .u8 21 by unfold bv; rw [HO.out]; rfl] at x0
  go_upto_region 39 with fail
  clear x0
  obtain ⟨-, -, -, -, -, -, -, RG6⟩ := df_of HR6.out.tail
  have hSS : (fun (W : World) => W.cell? ⟨xb, 1, none⟩ = some (bv x) ∧ W.cell? ⟨b, 0, none⟩ = some (wv u0) ∧ W.cell? ⟨b, 1, none⟩ = some (wv u1) ∧ W.cell? ⟨b, 2, none⟩ = some (wv u2) ∧ W.cell? ⟨b, 3, none⟩ = some (wv u3)) W6.drew := ⟨cell_blk (blk_get (HR6.out.pull 2 rfl)) 1, E0.out ▸ RG6 0 (by omega), E1.out ▸ RG6 1 (by omega), E2.out ▸ RG6 2 (by omega), E3.out ▸ RG6 3 (by omega)⟩
  clear RG6
  refine wp_region_Tn 27 25 (fun W => W.cell? ⟨xb, 1, none⟩ = some (bv x) ∧ W.cell? ⟨b, 0, none⟩ = some (wv u0) ∧ W.cell? ⟨b, 1, none⟩ = some (wv u1) ∧ W.cell? ⟨b, 2, none⟩ = some (wv u2) ∧ W.cell? ⟨b, 3, none⟩ = some (wv u3)) (by as_aux_lemma => kernel_rfl) (by rfl) ?_
  iterate 22
    refine wpT_sq 27 (by as_aux_lemma => kernel_rfl) (by intro c a d v w h; cases d <;> exact h) hSS (fun oi hoi => ?_)
    simp only [Nat.reduceAdd, Nat.reduceSub, List.getElem?_toArray, List.getElem?_cons_zero, List.getElem?_cons_succ, Option.some.injEq] at hoi
    subst hoi
    refine ⟨?_, by rfl, fun wx hSx => ?_, ?_⟩
    rotate_left
    · obtain ⟨s1, s2, s3, s4, s5⟩ := hSx
      go_simp
      try with_reducible rfl
    try simp only [Nat.reduceAdd, Nat.reduceSub, Act.put, List.setIfInBounds_toArray, List.set_cons_zero, List.set_cons_succ]
  refine wpT_one (i := 22) (by as_aux_lemma => kernel_rfl) ?_
  intro oi hoi K hK
  simp only [List.getElem?_toArray, List.getElem?_cons_zero, List.getElem?_cons_succ, Option.some.injEq] at hoi; subst hoi
  go_simp
  go_at_call 45
  refine (SC.out _).mono ?_; rintro e w2 ⟨rfl, rfl⟩
  refine hK.out _ _ (fun _ => hSS) ?_
  clear hK K
  try simp only [Act.put, List.setIfInBounds_toArray, List.set_cons_zero, List.set_cons_succ]
  iterate 2
    refine wpT_sq 27 (by as_aux_lemma => kernel_rfl) (by intro c a d v w h; cases d <;> exact h) hSS (fun oi hoi => ?_)
    simp only [Nat.reduceAdd, Nat.reduceSub, List.getElem?_toArray, List.getElem?_cons_zero, List.getElem?_cons_succ, Option.some.injEq] at hoi
    subst hoi
    refine ⟨?_, by rfl, fun wx hSx => ?_, ?_⟩
    rotate_left
    · obtain ⟨s1, s2, s3, s4, s5⟩ := hSx
      go_simp
      try with_reducible rfl
    try simp only [Nat.reduceAdd, Nat.reduceSub, Act.put, List.setIfInBounds_toArray, List.set_cons_zero, List.set_cons_succ]
  obtain ⟨d0, d1, d2, d3, d4, z0, z1, z2, z3, z4⟩ := zf_of HR6.out
  have HZ := Lib.hid ((z_set HR6.out ⟨x, u0, u1, u2, sg u3⟩).drew)
  clear HR6
  refine wpT_one (i := 25) (by as_aux_lemma => kernel_rfl) ?_
  intro oi hoi K hK
  simp only [List.getElem?_toArray, List.getElem?_cons_zero, List.getElem?_cons_succ, Option.some.injEq] at hoi; subst hoi
  go_simp
  refine hK.out _ _ (fun h => absurd h (by decide)) ?_
  clear hK K
  try simp only [Act.put, List.setIfInBounds_toArray, List.set_cons_zero, List.set_cons_succ]
  refine wpT_one (i := 26) (by as_aux_lemma => kernel_rfl) ?_
  intro oi hoi K hK
  simp only [List.getElem?_toArray, List.getElem?_cons_zero, List.getElem?_cons_succ, Option.some.injEq] at hoi; subst hoi
  go_simp
  refine hK.out _ _ (fun h => absurd h (by decide)) ?_
  clear hK K
  try simp only [Act.put, List.setIfInBounds_toArray, List.set_cons_zero, List.set_cons_succ]
  refine wpT_done (by as_aux_lemma => kernel_rfl) ?_ _
  go_wp2
  exact bodyPost_ret (res3d _ rfl rfl rfl HZ.out) rfl ⟨rfl, HZ.out.tail.up1.tail⟩
end Go.Proofs.YtijkkompnfpdeaaGreatDoor
