/- The document's core: a step of the code: told: walked. The document's core: any step; made: walked. Instructions: the document's Check and Get (timekeeperref02). -/
import Derived.Test.YtijkkompnfpdeaaGreatDoorP20
import Derived.Test.YtijkkompnfpdeaaGreatDoorP02
set_option linter.unusedVariables false
set_option linter.unusedSimpArgs false
namespace Go.Proofs.YtijkkompnfpdeaaGreatDoor
open Go.RowKit Go.Joins Go.Shelf
attribute [local go_sem] Oper.semAt_some

set_option maxHeartbeats 16000000 in
set_option maxRecDepth 20000 in
theorem rstep_tell {w0 w : World} {r : List Thing} {b : Nat} {c : List I4} {s : Cs} (ha : s.asked = false) (k : Nat) (hk : s.at_ = (k : Int)) (hlt : k < c.length) (hlen : c.length ≤ 1024) (o x y z : UInt8) (hx : c[k] = (o, x, y, z)) (ho : o.toNat = 20) (hxr : x.toNat < 8) (sd : List UInt8) (u : UInt32) (d : UInt8) (hd : UInt8.ofNat u.toNat = d) (hu : rg s x = u) (hsd : s.says ++ [d] = sd) (hs : sd.length ≤ 256) (H : Hp w0 w (DR b c s :: r)) :
    Calls Tryz.prog 19 #[.pointer (some ⟨b, 0, none⟩)] w fun e w' => e = .returned (stV false ak0 0) ∧ Hp w0 w' (DR b c { ({ s with says := sd } : Cs) with at_ := s.at_ + 1 } :: r) := by
  have hcat : (⟨s.says.toArray⟩ ++ ⟨#[d]⟩ : ByteArray) = ⟨sd.toArray⟩ := by rw [← hsd]; apply ByteArray.ext; simp
  have HS2 := Lib.hid hs
  have HSL : Hid (s.says.length + 1 = sd.length) := Lib.hid (by rw [← hsd]; simp)
  have HU : Hid (s.r.getD x.toNat 0 = u) := Lib.hid hu
  have HCAT := Lib.hid hcat
  clear hs hcat hsd
  have HO := Lib.hid ho
  clear ho
  have HR := Lib.hid (blk_new H ZA)
  clear H
  go_enter Tryz.func19, Tryz.ntmps19
  go_upto_region 1 with fail
  generalize w.heap.size = b3 at *
  generalize w.alloc _ = W at *
  obtain ⟨mb, C1, -, ⟨a, cc, C4, -⟩, -, C3, -, -⟩ := df_of HR.out.tail
  rw [ha] at C3
  rw [hk] at C1
  have hn2 : decide ((k : Int) < 0) = false := by simp
  have hn3 : decide ((c.length : Int) ≤ (k : Int)) = false := by simp; omega
  go_wp2
  go_quiet (fail)
  go_upto_region 5 with fail
  have HR1 := Lib.hid (HR.out.drewN nq)
  generalize W.drewN nq = W1 at *
  clear HR C1 C3 C4 hn2 hn3
  obtain ⟨mb', C1, -, ⟨a', cc', C4, C4'⟩, -, -, -, -⟩ := df_of HR1.out.tail
  obtain ⟨g, oo, rfl, i0, i1, i2, i3⟩ := ins_cells C4' hlt
  rw [hx] at i0 i1 i2 i3
  rw [hk] at C1
  have hSS : S8 b g oo k c.length cc' (o, x, y, z) W1.drew := ⟨C4, C1, i0, i1, i2, i3⟩
  have hlt' : (k : Int) < (c.length : Int) := by omega
  clear C1 C4 C4' i0 i1 i2 i3
  refine wp_region_S 11 (S8 b g oo k c.length cc' (o, x, y, z)) (by as_aux_lemma => kernel_rfl) ?_
  refine wpAnyS_tk (i := 0) (by as_aux_lemma => kernel_rfl) (by intro c a d v w h; cases d <;> exact h) hSS (fun oi hoi => ?_)
  simp only [List.getElem?_toArray, List.getElem?_cons_zero, List.getElem?_cons_succ, Option.some.injEq] at hoi; subst hoi
  refine ⟨?_, by rfl, fun wx hSx => ?_, ?_⟩
  rotate_left
  · obtain ⟨s1, s2, s3, s4, s5, s6⟩ := hSx
    go_simp
    try with_reducible rfl
  try simp only [Act.put, List.setIfInBounds_toArray, List.set_cons_zero, List.set_cons_succ]
  refine wpAnyS_tk (i := 1) (by as_aux_lemma => kernel_rfl) (by intro c a d v w h; cases d <;> exact h) hSS (fun oi hoi => ?_)
  simp only [List.getElem?_toArray, List.getElem?_cons_zero, List.getElem?_cons_succ, Option.some.injEq] at hoi; subst hoi
  refine ⟨?_, by rfl, fun wx hSx => ?_, ?_⟩
  rotate_left
  · obtain ⟨s1, s2, s3, s4, s5, s6⟩ := hSx
    go_simp
    try with_reducible rfl
  try simp only [Act.put, List.setIfInBounds_toArray, List.set_cons_zero, List.set_cons_succ]
  refine wpAnyS_tk (i := 2) (by as_aux_lemma => kernel_rfl) (by intro c a d v w h; cases d <;> exact h) hSS (fun oi hoi => ?_)
  simp only [List.getElem?_toArray, List.getElem?_cons_zero, List.getElem?_cons_succ, Option.some.injEq] at hoi; subst hoi
  refine ⟨?_, by rfl, fun wx hSx => ?_, ?_⟩
  rotate_left
  · obtain ⟨s1, s2, s3, s4, s5, s6⟩ := hSx
    go_simp
    try with_reducible rfl
  try simp only [Act.put, List.setIfInBounds_toArray, List.set_cons_zero, List.set_cons_succ]
  refine wpAnyS_tk (i := 3) (by as_aux_lemma => kernel_rfl) (by intro c a d v w h; cases d <;> exact h) hSS (fun oi hoi => ?_)
  simp only [List.getElem?_toArray, List.getElem?_cons_zero, List.getElem?_cons_succ, Option.some.injEq] at hoi; subst hoi
  refine ⟨?_, by rfl, fun wx hSx => ?_, ?_⟩
  rotate_left
  · obtain ⟨s1, s2, s3, s4, s5, s6⟩ := hSx
    go_simp
    try with_reducible rfl
  try simp only [Act.put, List.setIfInBounds_toArray, List.set_cons_zero, List.set_cons_succ]
  refine wpAnyS_tk (i := 4) (by as_aux_lemma => kernel_rfl) (by intro c a d v w h; cases d <;> exact h) hSS (fun oi hoi => ?_)
  simp only [List.getElem?_toArray, List.getElem?_cons_zero, List.getElem?_cons_succ, Option.some.injEq] at hoi; subst hoi
  refine ⟨?_, by rfl, fun wx hSx => ?_, ?_⟩
  rotate_left
  · obtain ⟨s1, s2, s3, s4, s5, s6⟩ := hSx
    go_simp
    try with_reducible rfl
  try simp only [Act.put, List.setIfInBounds_toArray, List.set_cons_zero, List.set_cons_succ]
  refine wpAnyS_tk (i := 5) (by as_aux_lemma => kernel_rfl) (by intro c a d v w h; cases d <;> exact h) hSS (fun oi hoi => ?_)
  simp only [List.getElem?_toArray, List.getElem?_cons_zero, List.getElem?_cons_succ, Option.some.injEq] at hoi; subst hoi
  refine ⟨?_, by rfl, fun wx hSx => ?_, ?_⟩
  rotate_left
  · obtain ⟨s1, s2, s3, s4, s5, s6⟩ := hSx
    go_simp
    try with_reducible rfl
  try simp only [Act.put, List.setIfInBounds_toArray, List.set_cons_zero, List.set_cons_succ]
  refine wpAnyS_tk (i := 6) (by as_aux_lemma => kernel_rfl) (by intro c a d v w h; cases d <;> exact h) hSS (fun oi hoi => ?_)
  simp only [List.getElem?_toArray, List.getElem?_cons_zero, List.getElem?_cons_succ, Option.some.injEq] at hoi; subst hoi
  refine ⟨?_, by rfl, fun wx hSx => ?_, ?_⟩
  rotate_left
  · obtain ⟨s1, s2, s3, s4, s5, s6⟩ := hSx
    go_simp
    try with_reducible rfl
  try simp only [Act.put, List.setIfInBounds_toArray, List.set_cons_zero, List.set_cons_succ]
  refine wpAnyS_tk (i := 7) (by as_aux_lemma => kernel_rfl) (by intro c a d v w h; cases d <;> exact h) hSS (fun oi hoi => ?_)
  simp only [List.getElem?_toArray, List.getElem?_cons_zero, List.getElem?_cons_succ, Option.some.injEq] at hoi; subst hoi
  refine ⟨?_, by rfl, fun wx hSx => ?_, ?_⟩
  rotate_left
  · obtain ⟨s1, s2, s3, s4, s5, s6⟩ := hSx
    go_simp
    try with_reducible rfl
  try simp only [Act.put, List.setIfInBounds_toArray, List.set_cons_zero, List.set_cons_succ]
  refine wpAnyS_tk (i := 8) (by as_aux_lemma => kernel_rfl) (by intro c a d v w h; cases d <;> exact h) hSS (fun oi hoi => ?_)
  simp only [List.getElem?_toArray, List.getElem?_cons_zero, List.getElem?_cons_succ, Option.some.injEq] at hoi; subst hoi
  refine ⟨?_, by rfl, fun wx hSx => ?_, ?_⟩
  rotate_left
  · obtain ⟨s1, s2, s3, s4, s5, s6⟩ := hSx
    go_simp
    try with_reducible rfl
  try simp only [Act.put, List.setIfInBounds_toArray, List.set_cons_zero, List.set_cons_succ]
  refine wpAnyS_tk (i := 9) (by as_aux_lemma => kernel_rfl) (by intro c a d v w h; cases d <;> exact h) hSS (fun oi hoi => ?_)
  simp only [List.getElem?_toArray, List.getElem?_cons_zero, List.getElem?_cons_succ, Option.some.injEq] at hoi; subst hoi
  refine ⟨?_, by rfl, fun wx hSx => ?_, ?_⟩
  rotate_left
  · obtain ⟨s1, s2, s3, s4, s5, s6⟩ := hSx
    go_simp
    try with_reducible rfl
  try simp only [Act.put, List.setIfInBounds_toArray, List.set_cons_zero, List.set_cons_succ]
  refine wpAnyS_one (i := 10) (by as_aux_lemma => kernel_rfl) ?_
  intro oi hoi K hK
  simp only [List.getElem?_toArray, List.getElem?_cons_zero, List.getElem?_cons_succ, Option.some.injEq] at hoi; subst hoi
  go_simp
  refine hK.out _ _ (fun _ => hSS.alloc _) ?_
  clear hK K
  try simp only [Act.put, List.setIfInBounds_toArray, List.set_cons_zero, List.set_cons_succ]
  refine wpAnyS_one (i := 11) (by as_aux_lemma => kernel_rfl) ?_
  intro oi hoi K hK
  simp only [List.getElem?_toArray, List.getElem?_cons_zero, List.getElem?_cons_succ, Option.some.injEq] at hoi; subst hoi
  go_simp
  refine hK.out _ _ (fun h => absurd h (by decide)) ?_
  clear hK K
  try simp only [Act.put, List.setIfInBounds_toArray, List.set_cons_zero, List.set_cons_succ]
  refine wpAnyS_done (by as_aux_lemma => kernel_rfl) ?_ _
  clear hSS hlt'
  have HR2 : Hid (Hp w0 _ (Blk b3 ZA :: DR b c s :: XB W1.heap.size (o, x, y, z) :: r)) := Lib.hid (((blk_new HR1.out (.cells #[bv o, bv x, bv y, bv z] 26)).drew.pull 2 rfl).pull 2 rfl)
  generalize W1.heap.size = xb at *
  generalize (W1.alloc _).drew = W2 at *
  clear HR1
  have x0 : W2.cell? ⟨xb, 0, none⟩ = some (bv o) := cell_blk (blk_get (HR2.out.pull 2 rfl)) 0
  have x1 : W2.cell? ⟨xb, 1, none⟩ = some (bv x) := cell_blk (blk_get (HR2.out.pull 2 rfl)) 1
  have x2 : W2.cell? ⟨xb, 2, none⟩ = some (bv y) := cell_blk (blk_get (HR2.out.pull 2 rfl)) 2
  have x3 : W2.cell? ⟨xb, 3, none⟩ = some (bv z) := cell_blk (blk_get (HR2.out.pull 2 rfl)) 3
  have hw : IntKind.i64.wrap ((k : Int) + 1) = (k : Int) + 1 := by rw [IntKind.wrap_i64]; omega
  obtain ⟨mb2, C8, -, -, C11, -, fr, RG⟩ := df_of HR2.out.tail
  rw [hk] at C8
  rw [show bv o = .int .u8 20 by unfold bv; rw [HO.out]; rfl] at x0
  obtain ⟨-, -, -, -, C11', -, -, -⟩ := df_of HR2.out.tail
  have f0 : W2.cell? ⟨b, x.toNat, none⟩ = some (wv u) := hu ▸ RG x.toNat hxr
  have fz := fr 11
  have q4 : (x.toNat : Int) < 8 := by omega
  have q5 : (u.toNat : Int) % 256 = (d.toNat : Int) := by rw [← hd, UInt8.toNat_ofNat']; omega
  clear fr RG C11 hu hd
  go_upto_region 30 with fail
  clear C8 hw x0 x2 x3
  refine wp_region_Tn 19 18 (fun W => W.cell? ⟨xb, 1, none⟩ = some (bv x) ∧ W.cell? ⟨b, x.toNat, none⟩ = some (wv u) ∧ W.cell? ⟨b, 11, none⟩ = some (.string ⟨s.says.toArray⟩)) (by as_aux_lemma => kernel_rfl) (by rfl) ?_
  have hSS : (fun (W : World) => W.cell? ⟨xb, 1, none⟩ = some (bv x) ∧ W.cell? ⟨b, x.toNat, none⟩ = some (wv u) ∧ W.cell? ⟨b, 11, none⟩ = some (.string ⟨s.says.toArray⟩)) W2.drew := ⟨x1, f0, C11'⟩
  clear x1 f0
  iterate 13
    refine wpT_sq 19 (by as_aux_lemma => kernel_rfl) (by intro c a d v w h; cases d <;> exact h) hSS (fun oi hoi => ?_)
    simp only [Nat.reduceAdd, Nat.reduceSub, List.getElem?_toArray, List.getElem?_cons_zero, List.getElem?_cons_succ, Option.some.injEq] at hoi
    subst hoi
    refine ⟨?_, by rfl, fun wx hSx => ?_, ?_⟩
    rotate_left
    · obtain ⟨s0, s1, s2⟩ := hSx
      go_simp
      try with_reducible rfl
    try simp only [Nat.reduceAdd, Nat.reduceSub, Act.put, List.setIfInBounds_toArray, List.set_cons_zero, List.set_cons_succ]
  rw [show IntKind.u8.wrap (u.toNat : Int) = (d.toNat : Int) by rw [IntKind.wrap_u8]; exact q5]
  have HB := Lib.hid ((blk_new HR2.out (.cells #[bv d] 5)).drew)
  have hcv := conv_cells (W2.alloc (.cells #[bv d] 5)).drew (some ⟨W2.heap.size, 0, none⟩) 1 [d] (fun j hj => by
    obtain rfl : j = 0 := by simpa using hj
    exact ⟨_, 0, rfl, cell_blk (blk_get HB.out) 0⟩)
  have HCV := Lib.hid hcv
  have x1' := cell_blk (blk_get (HB.out.pull 3 rfl)) 1
  obtain ⟨-, -, -, -, C11', -, fr', RG'⟩ := df_of (HB.out.pull 2 rfl)
  have f0' := RG' x.toNat hxr
  have fz' := fr' 11
  rw [HU.out] at f0'
  have hS2 : _ ∧ _ ∧ _ := ⟨x1', f0', C11'⟩
  clear fr' RG' hcv fz
  refine wpT_one (i := 13) (by as_aux_lemma => kernel_rfl) ?_
  intro oi hoi K hK
  simp only [List.getElem?_toArray, List.getElem?_cons_zero, List.getElem?_cons_succ, Option.some.injEq] at hoi; subst hoi
  go_simp
  refine hK.out _ _ (fun _ => hS2) ?_
  clear hK K
  try simp only [Act.put, List.setIfInBounds_toArray, List.set_cons_zero, List.set_cons_succ]
  clear hSS
  refine wpT_one (i := 14) (by as_aux_lemma => kernel_rfl) ?_
  intro oi hoi K hK
  simp only [List.getElem?_toArray, List.getElem?_cons_zero, List.getElem?_cons_succ, Option.some.injEq] at hoi; subst hoi
  have hcv : (convert 22 9 (.slice (some ⟨W2.heap.size, 0, none⟩) 1 1)).run Tryz.prog (W2.alloc (.cells #[.int .u8 (d.toNat : Int)] 5)).drew = .ok (.string ⟨#[d]⟩) (W2.alloc (.cells #[.int .u8 (d.toNat : Int)] 5)).drew := HCV.out
  go_simp
  refine hK.out _ _ (fun _ => hS2) ?_
  clear hK K
  try simp only [Act.put, List.setIfInBounds_toArray, List.set_cons_zero, List.set_cons_succ]
  refine wpT_one (i := 15) (by as_aux_lemma => kernel_rfl) ?_
  intro oi hoi K hK
  simp only [List.getElem?_toArray, List.getElem?_cons_zero, List.getElem?_cons_succ, Option.some.injEq] at hoi; subst hoi
  go_simp
  rw [if_neg (show ¬ 9223372036854775807 < s.says.length + 1 by have h1 := HSL.out; have h2 := HS2.out; omega), HCAT.out]
  refine hK.out _ _ (fun _ => hS2) ?_
  clear hK K
  try simp only [Act.put, List.setIfInBounds_toArray, List.set_cons_zero, List.set_cons_succ]
  refine wpT_tk (i := 16) (by as_aux_lemma => kernel_rfl) (by intro c a d v w h; cases d <;> exact h) hS2 (fun oi hoi => ?_)
  simp only [List.getElem?_toArray, List.getElem?_cons_zero, List.getElem?_cons_succ, Option.some.injEq] at hoi; subst hoi
  refine ⟨?_, by rfl, fun wx hSx => ?_, ?_⟩
  rotate_left
  · obtain ⟨s0, s1, s2⟩ := hSx
    go_simp
    try with_reducible rfl
  try simp only [Act.put, List.setIfInBounds_toArray, List.set_cons_zero, List.set_cons_succ]
  refine wpT_tk (i := 17) (by as_aux_lemma => kernel_rfl) (by intro c a d v w h; cases d <;> exact h) hS2 (fun oi hoi => ?_)
  simp only [List.getElem?_toArray, List.getElem?_cons_zero, List.getElem?_cons_succ, Option.some.injEq] at hoi; subst hoi
  refine ⟨?_, by rfl, fun wx hSx => ?_, ?_⟩
  rotate_left
  · obtain ⟨s0, s1, s2⟩ := hSx
    go_simp
    try with_reducible rfl
  try simp only [Act.put, List.setIfInBounds_toArray, List.set_cons_zero, List.set_cons_succ]
  have HH : Hid (Hp w0 ((W2.alloc (.cells #[.int .u8 (d.toNat : Int)] 5)).setCell ⟨b, 11, none⟩ (.string ⟨sd.toArray⟩)).drew _) := Lib.hid (((d_says ((blk_new HR2.out (.cells #[bv d] 5)).pull 2 rfl) sd).pull 2 rfl).drew)
  refine wpT_one (i := 18) (by as_aux_lemma => kernel_rfl) ?_
  intro oi hoi K hK
  simp only [List.getElem?_toArray, List.getElem?_cons_zero, List.getElem?_cons_succ, Option.some.injEq] at hoi; subst hoi
  go_simp
  refine hK.out _ _ (fun h => absurd h (by decide)) ?_
  clear hK K
  try simp only [Act.put, List.setIfInBounds_toArray, List.set_cons_zero, List.set_cons_succ]
  refine wpT_done (by as_aux_lemma => kernel_rfl) ?_ _
  clear hS2 x1' f0' fz' C11' HB HCV HCAT
  go_upto_region 31 with fail
  generalize ((W2.alloc (.cells #[.int .u8 (d.toNat : Int)] 5)).setCell ⟨b, 11, none⟩ (.string ⟨sd.toArray⟩)).drew = W4 at *
  have HR4 := HH
  clear HH HR2 C11'
  obtain ⟨-, -, -, -, D11, -, -, -⟩ := df_of HR4.out.tail
  have hl : ¬ ((256 : Int) < (sd.length : Int)) := by have := HS2.out; omega
  go_upto_region 40 with fail
  clear D11 hl q4 q5
  obtain ⟨-, D8, -, -, -, -, fr8, -⟩ := df_of HR4.out.tail
  have z8 := fr8 8
  have HR5 := Lib.hid ((d_at HR4.out.up1 ((k : Int) + 1)).up1)
  clear fr8
  go_upto_region 41 with fail
  generalize World.setCell _ _ _ = HR5w at *
  clear HR4 D8 z8
  rw [← hk] at HR5
  obtain ⟨d0, d1, d2, d3, d4, z0, z1, z2, z3, z4⟩ := zf_of HR5.out
  have HZ := Lib.hid (z_set HR5.out ak0)
  clear HR5 ha hk
  go_wp2
  exact bodyPost_ret (res3d _ rfl rfl rfl HZ.out) rfl ⟨rfl, HZ.out.tail.up1.tail.up1.tail⟩
end Go.Proofs.YtijkkompnfpdeaaGreatDoor
set_option linter.unusedVariables false
set_option linter.unusedSimpArgs false
namespace Go.Proofs.YtijkkompnfpdeaaGreatDoor
open Go.RowKit Go.Joins Go.Shelf
attribute [local go_sem] Oper.semAt_some

theorem fin_at {w0 w' : World} {r : List Thing} {b : Nat} {c : List I4} {t : Cs} {A B : Int} (h : A = B) (H : Hp w0 w' (DR b c { t with at_ := A } :: r)) : Hp w0 w' (DR b c { t with at_ := B } :: r) := h ▸ H
theorem doesC_mv {o x y z : UInt8} {s t : Cs} {d : Int} (h1 : 11 ≤ o.toNat) (h2 : o.toNat ≤ 14) (h : doesC (o, x, y, z) s = some (t, d)) : t.at_ = s.at_ ∧ d = 0 := by
  refine ⟨(doesC_mem h).2.2.1, ?_⟩
  have hk : o.toNat = 11 ∨ o.toNat = 12 ∨ o.toNat = 13 ∨ o.toNat = 14 := by omega
  unfold doesC at h
  rcases hk with hk | hk | hk | hk <;> simp only [hk] at h <;> split at h <;> first | (cases h; done) | (obtain ⟨_, rfl⟩ := Prod.mk.inj (Option.some.inj h); rfl)
theorem rstep_do {w0 w : World} {r : List Thing} {b : Nat} {c : List I4} {s : Cs} (ha : s.asked = false) (k : Nat) (hk : s.at_ = (k : Int)) (hlt : k < c.length) (hlen : c.length ≤ 1024) (o x y z : UInt8) (hx : c[k] = (o, x, y, z)) (hik : ik (o, x, y, z) = true) (ho : o.toNat ≤ 20) (hs : s.says.length < 256) (t : Cs) (d : Int) (hd : doesC (o, x, y, z) s = some (t, d)) (H : Hp w0 w (DR b c s :: r)) :
    Calls Tryz.prog 19 #[.pointer (some ⟨b, 0, none⟩)] w fun e w' => e = .returned (stV false ak0 0) ∧ Hp w0 w' (DR b c { t with at_ := t.at_ + (1 + d) } :: r) := by
  have R := ik_regs hik
  by_cases hm : 11 ≤ o.toNat ∧ o.toNat ≤ 14
  · obtain ⟨e1, rfl⟩ := doesC_mv hm.1 hm.2 hd
    exact (rstep_mvy ha k hk hlt hlen o x y z hx hm.1 hm.2 hik t 0 hd H).mono fun e w' h => ⟨h.1, fin_at (by omega) h.2⟩
  by_cases hc : 15 ≤ o.toNat ∧ o.toNat ≤ 18
  · have e : doesC (o, x, y, z) s = some (s, if holdsP o.toNat (rg s x) (rg s y) then s8 z else 0) := by
      have hk : o.toNat = 15 ∨ o.toNat = 16 ∨ o.toNat = 17 ∨ o.toNat = 18 := by omega
      unfold doesC
      rcases hk with hk | hk | hk | hk <;> simp only [hk]
    rw [e] at hd
    obtain ⟨rfl, rfl⟩ := Prod.mk.inj (Option.some.inj hd)
    exact (rstep_cmp ha k hk hlt hlen o x y z hx hc.1 hc.2 (R.rx (by omega) (by omega)) (R.ry (by omega) (by omega)) _ _ rfl rfl _ rfl (if holdsP o.toNat (rg s x) (rg s y) = true then s8 z else 0) (fun h => (if_pos h).symm) (fun h => (if_neg (by simp [h])).symm) H).mono fun e w' h => ⟨h.1, fin_at (by omega) h.2⟩
  by_cases hr : 3 ≤ o.toNat ∧ o.toNat ≤ 10
  · have e : doesC (o, x, y, z) s = some (wrg s x (doP o.toNat (rg s y) (rg s z)), 0) := by
      have hk : o.toNat = 3 ∨ o.toNat = 4 ∨ o.toNat = 5 ∨ o.toNat = 6 ∨ o.toNat = 7 ∨ o.toNat = 8 ∨ o.toNat = 9 ∨ o.toNat = 10 := by omega
      unfold doesC
      rcases hk with hk | hk | hk | hk | hk | hk | hk | hk <;> simp only [hk]
    rw [e] at hd
    obtain ⟨rfl, rfl⟩ := Prod.mk.inj (Option.some.inj hd)
    exact (rstep_do2 ha k hk hlt hlen o x y z hx hr (R.rx (by omega) (by omega)) (R.ry (by omega) (by omega)) (R.rz (by omega) (by omega)) _ _ _ rfl rfl rfl H).mono fun e w' h => ⟨h.1, fin_at (by show s.at_ + 1 = s.at_ + (1 + 0); omega) h.2⟩
  have hk2 : o.toNat = 0 ∨ o.toNat = 1 ∨ o.toNat = 2 ∨ o.toNat = 19 ∨ o.toNat = 20 := by omega
  unfold doesC at hd
  rcases hk2 with h | h | h | h | h <;> simp only [h] at hd <;> obtain ⟨rfl, rfl⟩ := Prod.mk.inj (Option.some.inj hd)
  · exact (rstep_nop ha k hk hlt hlen o x y z hx h H).mono fun e w' h => ⟨h.1, fin_at (by omega) h.2⟩
  · exact (rstep_set ha k hk hlt hlen o x y z hx h (R.rx (by omega) (by omega)) _ rfl H).mono fun e w' h => ⟨h.1, fin_at (by show s.at_ + 1 = s.at_ + (1 + 0); omega) h.2⟩
  · exact (rstep_move ha k hk hlt hlen o x y z hx h (R.rx (by omega) (by omega)) (R.ry (by omega) (by omega)) _ rfl H).mono fun e w' h => ⟨h.1, fin_at (by show s.at_ + 1 = s.at_ + (1 + 0); omega) h.2⟩
  · exact (rstep_go ha k hk hlt hlen o x y z hx h _ rfl H).mono fun e w' h => ⟨h.1, fin_at (by omega) h.2⟩
  · exact (rstep_tell ha k hk hlt hlen o x y z hx h (R.rx2 h) _ _ _ rfl rfl rfl (by simp; omega) H).mono fun e w' h => ⟨h.1, fin_at (by show s.at_ + 1 = s.at_ + (1 + 0); omega) h.2⟩
theorem rstep_fault {w0 w : World} {r : List Thing} {b : Nat} {c : List I4} {s : Cs} (ha : s.asked = false) (k : Nat) (hk : s.at_ = (k : Int)) (hlt : k < c.length) (hlen : c.length ≤ 1024) (o x y z : UInt8) (hx : c[k] = (o, x, y, z)) (hik : ik (o, x, y, z) = true) (ho : o.toNat ≤ 20) (hd : doesC (o, x, y, z) s = none) (H : Hp w0 w (DR b c s :: r)) :
    Calls Tryz.prog 19 #[.pointer (some ⟨b, 0, none⟩)] w fun e w' => e = .returned (stV false ak0 15) ∧ Hp w0 w' (DR b c s :: r) := by
  by_cases hm : 11 ≤ o.toNat ∧ o.toNat ≤ 14
  · exact rstep_mvn ha k hk hlt hlen o x y z hx hm.1 hm.2 hik hd H
  exfalso
  have hk2 : o.toNat = 0 ∨ o.toNat = 1 ∨ o.toNat = 2 ∨ o.toNat = 3 ∨ o.toNat = 4 ∨ o.toNat = 5 ∨ o.toNat = 6 ∨ o.toNat = 7 ∨ o.toNat = 8 ∨ o.toNat = 9 ∨ o.toNat = 10 ∨ o.toNat = 15 ∨ o.toNat = 16 ∨ o.toNat = 17 ∨ o.toNat = 18 ∨ o.toNat = 19 ∨ o.toNat = 20 := by omega
  unfold doesC at hd
  rcases hk2 with h | h | h | h | h | h | h | h | h | h | h | h | h | h | h | h | h <;> simp only [h] at hd <;> cases hd
/-- Any step. -/
theorem rstep_c {w0 w : World} {r : List Thing} {b : Nat} {c : List I4} {s : Cs} (hc : c.all ik = true) (hlen : c.length ≤ 1024) (hs : s.says.length < 256) (H : Hp w0 w (DR b c s :: r)) :
    Calls Tryz.prog 19 #[.pointer (some ⟨b, 0, none⟩)] w fun e w' => e = .returned (stV (stepC c s).2.1 (stepC c s).2.2.1 (stepC c s).2.2.2) ∧ Hp w0 w' (DR b c (stepC c s).1 :: r) := by
  unfold stepC
  cases ha : s.asked with
  | true => simp only [if_true]; exact rstep_asked ha H
  | false =>
    simp only [Bool.false_eq_true, if_false]
    by_cases h0 : s.at_ < 0
    · rw [dif_neg (by omega)]; exact rstep_low ha h0 H
    · by_cases h1 : (c.length : Int) ≤ s.at_
      · rw [dif_neg (by omega)]; exact rstep_high ha h0 h1 H
      · rw [dif_pos (by omega)]
        have hlt : s.at_.toNat < c.length := by omega
        have hk : s.at_ = (s.at_.toNat : Int) := by omega
        have hik : ik c[s.at_.toNat] = true := List.all_eq_true.1 hc _ (List.getElem_mem hlt)
        generalize hx : c[s.at_.toNat] = x at *
        obtain ⟨o, x, y, z⟩ := x
        have R := ik_regs hik
        simp only []
        by_cases h21 : 21 ≤ o.toNat
        · rw [if_pos h21]
          by_cases h22 : o.toNat = 22
          · have e : askC (o, x, y, z) s = { ak0 with what := 20 } := by simp [askC, h22]
            simp only [e]
            exact rstep_end ha _ hk hlt hlen o x y z hx h22 H
          · have e : askC (o, x, y, z) s = ⟨x, s.r.getD 0 0, s.r.getD 1 0, s.r.getD 2 0, sg (s.r.getD 3 0)⟩ := by unfold askC; rw [if_neg h22]
            simp only [e]
            exact rstep_ask ha _ hk hlt hlen o x y z hx (by have := R.ra; omega) _ _ _ _ rfl rfl rfl rfl H
        · rw [if_neg h21]
          cases hd : doesC (o, x, y, z) s with
          | some q =>
            obtain ⟨t, d⟩ := q
            exact rstep_do ha _ hk hlt hlen o x y z hx hik (by omega) hs t d hd H
          | none => exact rstep_fault ha _ hk hlt hlen o x y z hx hik (by omega) hd H
end Go.Proofs.YtijkkompnfpdeaaGreatDoor
set_option linter.unusedVariables false
set_option linter.unusedSimpArgs false
namespace Go.Proofs.YtijkkompnfpdeaaGreatDoor
open Go.RowKit Go.Lib
attribute [local go_sem] Oper.semAt_some

abbrev FIELDS : Array Value := #[.string ⟨#[]⟩, .string ⟨#[114, 110]⟩, .string ⟨#[114, 114]⟩, .string ⟨#[114, 114, 114]⟩, .string ⟨#[114, 114, 114]⟩, .string ⟨#[114, 114, 114]⟩, .string ⟨#[114, 114, 114]⟩, .string ⟨#[114, 114, 114]⟩, .string ⟨#[114, 114, 114]⟩, .string ⟨#[114, 114, 114]⟩, .string ⟨#[114, 114, 114]⟩, .string ⟨#[114, 114, 98]⟩, .string ⟨#[114, 114, 98]⟩, .string ⟨#[114, 114, 98]⟩, .string ⟨#[114, 114, 98]⟩, .string ⟨#[114, 114, 115]⟩, .string ⟨#[114, 114, 115]⟩, .string ⟨#[114, 114, 115]⟩, .string ⟨#[114, 114, 115]⟩, .string ⟨#[110]⟩, .string ⟨#[114]⟩, .string ⟨#[119]⟩, .string ⟨#[]⟩]
abbrev WORDS : Array Value := #[.string ⟨#[110, 111, 112]⟩, .string ⟨#[115, 101, 116]⟩, .string ⟨#[109, 111, 118, 101]⟩, .string ⟨#[97, 100, 100]⟩, .string ⟨#[115, 117, 98]⟩, .string ⟨#[109, 117, 108]⟩, .string ⟨#[97, 110, 100]⟩, .string ⟨#[111, 114]⟩, .string ⟨#[120, 111, 114]⟩, .string ⟨#[108, 101, 102, 116]⟩, .string ⟨#[114, 105, 103, 104, 116]⟩, .string ⟨#[108, 111, 97, 100]⟩, .string ⟨#[115, 116, 111, 114, 101]⟩, .string ⟨#[98, 121, 116, 101]⟩, .string ⟨#[112, 117, 116]⟩, .string ⟨#[115, 97, 109, 101]⟩, .string ⟨#[111, 116, 104, 101, 114]⟩, .string ⟨#[108, 101, 115, 115]⟩, .string ⟨#[98, 101, 108, 111, 119]⟩, .string ⟨#[103, 111]⟩, .string ⟨#[116, 101, 108, 108]⟩, .string ⟨#[97, 115, 107]⟩, .string ⟨#[101, 110, 100]⟩]
theorem fields_get (op : Nat) (h : op ≤ 22) : FIELDS[op]? = some (.string (fd op)) := by
  exact match op, h with
  | 0, _ => rfl
  | 1, _ => rfl
  | 2, _ => rfl
  | 3, _ => rfl
  | 4, _ => rfl
  | 5, _ => rfl
  | 6, _ => rfl
  | 7, _ => rfl
  | 8, _ => rfl
  | 9, _ => rfl
  | 10, _ => rfl
  | 11, _ => rfl
  | 12, _ => rfl
  | 13, _ => rfl
  | 14, _ => rfl
  | 15, _ => rfl
  | 16, _ => rfl
  | 17, _ => rfl
  | 18, _ => rfl
  | 19, _ => rfl
  | 20, _ => rfl
  | 21, _ => rfl
  | 22, _ => rfl
  | n + 23, h => absurd h (by omega)
theorem words_get (op : Nat) (h : op ≤ 22) : WORDS[op]? = some (.string (wd op)) := by
  exact match op, h with
  | 0, _ => rfl
  | 1, _ => rfl
  | 2, _ => rfl
  | 3, _ => rfl
  | 4, _ => rfl
  | 5, _ => rfl
  | 6, _ => rfl
  | 7, _ => rfl
  | 8, _ => rfl
  | 9, _ => rfl
  | 10, _ => rfl
  | 11, _ => rfl
  | 12, _ => rfl
  | 13, _ => rfl
  | 14, _ => rfl
  | 15, _ => rfl
  | 16, _ => rfl
  | 17, _ => rfl
  | 18, _ => rfl
  | 19, _ => rfl
  | 20, _ => rfl
  | 21, _ => rfl
  | 22, _ => rfl
  | n + 23, h => absurd h (by omega)
set_option maxHeartbeats 1000000 in
set_option maxRecDepth 20000 in
theorem fields_c {w0 w : World} {r : List Thing} (H : Hp w0 w r) :
    Calls Tryz.prog 132 #[] w fun e w' => ∃ g, e = .returned (.slice (some ⟨g, 0, none⟩) 23 23) ∧ Hp w0 w' (Blk g (.cells FIELDS 9 (0, 0)) :: r) := by
  have H1 := Lib.hid (blk_new H (.cells FIELDS 9))
  clear H
  go_enter Tryz.func132, Tryz.ntmps132
  go_wp2
  go_ret
  exact ⟨_, rfl, H1.out⟩
set_option maxHeartbeats 1000000 in
set_option maxRecDepth 20000 in
theorem words_c {w0 w : World} {r : List Thing} (H : Hp w0 w r) :
    Calls Tryz.prog 131 #[] w fun e w' => ∃ g, e = .returned (.slice (some ⟨g, 0, none⟩) 23 23) ∧ Hp w0 w' (Blk g (.cells WORDS 9 (0, 0)) :: r) := by
  have H1 := Lib.hid (blk_new H (.cells WORDS 9))
  clear H
  go_enter Tryz.func131, Tryz.ntmps131
  go_wp2
  go_ret
  exact ⟨_, rfl, H1.out⟩

theorem tby_cons (c : UInt8) (cs : List UInt8) : tby (c :: cs) = kby c + tby cs := by simp [tby]
theorem kby_pos (c : UInt8) : 1 ≤ kby c := by unfold kby; split <;> omega
theorem len_tby : ∀ l : List UInt8, l.length ≤ tby l
  | [] => Nat.zero_le _
  | c :: cs => by
    have := len_tby cs
    rw [tby_cons, List.length_cons]
    have : 1 ≤ kby c := by unfold kby; split <;> omega
    omega
theorem rck_cons {ch : UInt8} {cs : List UInt8} {L : List Int} {q : Nat} (hk : isK ch = true) (hl : L.length = q) (hq : kby ch ≤ q) :
    rck (ch :: cs) L = ((if ch = 114 then decide (L.getD 0 0 ≤ 7) else if ch = 119 then decide (1 ≤ L.getD 0 0) && decide (L.getD 0 0 ≤ 20) else true) && rck cs (L.drop (kby ch))) := by
  have e : L.headD 0 = L.getD 0 0 := by cases L <;> rfl
  unfold isK at hk
  simp only [Bool.or_eq_true, beq_iff_eq] at hk
  rcases hk with (((rfl | rfl) | rfl) | rfl) | rfl <;> simp [rck, e, kby, List.head?_eq_getElem?]

set_option maxHeartbeats 8000000 in
set_option maxRecDepth 20000 in
theorem rcheck_c {w0 w : World} {r : List Thing} {op : Nat} {a b c : Int} (H : Hp w0 w r) (hb : By3 a b c) (hop : op < 256) :
    Calls Tryz.prog 103 #[inS op a b c] w fun e w' => e = .returned (.bool (ck op a b c)) ∧ Hp w0 w' r := by
  have HX := Lib.hid (blk_new H (.cells #[.int .u8 op, .int .u8 a, .int .u8 b, .int .u8 c] 26))
  clear H
  have hwop : IntKind.i64.wrap (op : Int) = op := by rw [IntKind.wrap_i64]; omega
  go_enter Tryz.func103, Tryz.ntmps103
  by_cases h22 : op ≤ 22
  · have c1 : ¬ 23 ≤ (op : Int) := by omega
    have c12 : decide (23 ≤ (op : Int)) = false := by simpa using c1
    go_upto_region 1 with fail
    have x0 : (w.alloc (.cells #[.int .u8 op, .int .u8 a, .int .u8 b, .int .u8 c] 26)).cell? ⟨w.heap.size, 0, none⟩ = some (.int .u8 op) := cell_blk (blk_get HX.out) 0
    generalize (w.alloc (.cells #[.int .u8 op, .int .u8 a, .int .u8 b, .int .u8 c] 26)) = w1 at *
    generalize w.heap.size = xb at *
    go_region_held3 (fun x => x.cell? ⟨xb, 0, none⟩ = some (.int .u8 op)) (first | exact x0) (first | (go_at_call 131; refine (words_c HX.out.drew).mono ?_; rintro e wf ⟨g1, rfl, H1⟩; have x0 : wf.cell? ⟨xb, 0, none⟩ = some (.int .u8 op) := (cell_blk (blk_get (H1.pull 1 rfl)) 0)))
    have H2 := Lib.hid H1.tail
    have x1 : wf.cell? ⟨xb, 1, none⟩ = some (.int .u8 a) := cell_blk (blk_get H2.out) 1
    have x2 : wf.cell? ⟨xb, 2, none⟩ = some (.int .u8 b) := cell_blk (blk_get H2.out) 2
    have x3 : wf.cell? ⟨xb, 3, none⟩ = some (.int .u8 c) := cell_blk (blk_get H2.out) 3
    clear H1 HX
    have hck : ck op a b c = rck (fl op) [a, b, c] := by simp [ck, h22]
    have H3 := Lib.hid (blk_new H2.out (.cells #[.int .u8 a, .int .u8 b, .int .u8 c] 5))
    have HCK := Lib.hid hck
    clear hck H2
    go_upto_region 4 with fail
    have y0 : (wf.alloc (.cells #[.int .u8 a, .int .u8 b, .int .u8 c] 5)).cell? ⟨xb, 0, none⟩ = some (.int .u8 op) := cell_blk (blk_get (H3.out.pull 1 rfl)) 0
    clear x0 x1 x2 x3
    generalize (wf.alloc (.cells #[.int .u8 a, .int .u8 b, .int .u8 c] 5)) = w2 at *
    generalize wf.heap.size = g at *
    go_cut [4] from 20 to 24 (fun s4 wx => s4 = .string (fd op) ∧ Hid (Hp w0 wx (Blk g (.cells #[.int .u8 a, .int .u8 b, .int .u8 c] 5 (0, 0)) :: Blk xb (.cells #[.int .u8 op, .int .u8 a, .int .u8 b, .int .u8 c] 26 (0, 0)) :: r)))
    case first =>
      go_region_with (go_at_call 132; refine (fields_c H3.out.drew).mono ?_; rintro e wq ⟨g2, rfl, H4⟩; have y2 : wq.cell? ⟨xb, 0, none⟩ = some (.int .u8 op) := (cell_blk (blk_get (H4.pull 2 rfl)) 0); have y1 : wq.cell? ⟨g2, op, none⟩ = some (.string (fd op)) := ((cell_blk (blk_get H4) op).trans (fields_get op h22)))
      all_goals go_wp2
      all_goals
        go_meet
        exact ⟨rfl, Lib.hid H4.tail⟩
    case rest =>
    obtain ⟨rfl, H5⟩ := hcut
    clear y0 H3
    obtain ⟨fk, ft⟩ := fl_ok op
    have FK := Lib.hid fk
    have FD := Lib.hid (fd_get op)
    have hfs : (fd op).size = (fl op).length := rfl
    have hH5 := blk_get H5.out
    have GC : Hid (∀ q u k, q ≤ 3 → u + q = 3 → k < q → wc.cell? ⟨g, u + k, none⟩ = some (.int .u8 (([a, b, c].drop (3 - q)).getD k 0))) := Lib.hid (fun q u k h1 h2 h3 => (cell_blk hH5 (u + k)).trans (abc_get a b c h1 h2 k h3))
    clear hH5 fk
    go_wp2
    go_loop [5, 6] (fun s5 s6 => ∃ p q u : Nat, p ≤ (fl op).length ∧ q ≤ 3 ∧ u + q = 3 ∧ s5 = .int .i64 u ∧ s6 = .int .i64 p ∧ tby ((fl op).drop p) ≤ q ∧ Hid (rck (fl op) [a, b, c] = rck ((fl op).drop p) ([a, b, c].drop (3 - q)))) (fun _ s6 => (fl op).length - (intOf s6).toNat)
    case atStart => exact ⟨0, 3, 0, Nat.zero_le _, Nat.le_refl _, rfl, rfl, rfl, ft, Lib.hid (by simp)⟩
    case round =>
      obtain ⟨p, q, u, hp, hq, huq, rfl, rfl, htb, hr⟩ := hrel
      by_cases hlt : p < (fl op).length
      · obtain ⟨hl', hfc⟩ := FD.out p hlt
        have hkc := FK.out _ (List.getElem_mem hlt)
        have hdr : (fl op).drop p = (fl op)[p] :: (fl op).drop (p + 1) := List.drop_eq_getElem_cons hlt
        rw [hdr] at hr htb
        have htb' : kby (fl op)[p] + tby ((fl op).drop (p + 1)) ≤ q := by rw [tby_cons] at htb; exact htb
        have hr2 := hr.out
        rw [rck_cons (q := q) hkc (by rw [List.length_drop, List.length_cons, List.length_cons, List.length_cons, List.length_nil]; omega) (by omega), List.drop_drop] at hr2
        have huq1 : u ≤ 3 := by omega
        have hpl := len_tby (fl op)
        have HUQ := Lib.hid huq
        have bX := abc_bd hb.a hb.b hb.c (3 - q) 0
        have hwp : IntKind.i64.wrap ((p : Int) + 1) = (p : Int) + 1 := by rw [IntKind.wrap_i64]; omega
        have hwu : IntKind.i64.wrap ((u : Int) + 1) = (u : Int) + 1 := by rw [IntKind.wrap_i64]; omega
        have hwu2 : IntKind.i64.wrap ((u : Int) + 1 + 1) = (u : Int) + 1 + 1 := by rw [IntKind.wrap_i64]; omega
        have c1 : (p : Int) < ((fl op).length : Int) := by omega
        have h1k := kby_pos (fl op)[p]
        have h1q : 1 ≤ q := by omega
        have cx := GC.out q u 0 hq huq (by omega)
        rw [Nat.add_zero] at cx
        have c2 : (u : Int) < 3 := by omega
        have HFD := Lib.hid hfc
        have HKC := hkc
        unfold isK at HKC
        simp only [Bool.or_eq_true, beq_iff_eq] at HKC
        have HR := Lib.hid hr2
        have hkq : kby (fl op)[p] ≤ q := by omega
        have htb2 : tby ((fl op).drop (p + 1)) ≤ q - kby (fl op)[p] := by omega
        generalize hX : ([a, b, c].drop (3 - q)).getD 0 0 = X at *
        clear hr hr2 hdr htb huq hfc hX htb' hkc h1k
        rcases HKC with (((hc | hc) | hc) | hc) | hc
        · have h3 := HR.out
          rw [hc] at h3 htb2 hkq
          have hd := HFD.out.trans hc
          simp only [if_true, show kby 114 = 1 from rfl] at h3 htb2
          by_cases hx : X ≤ 7
          · have h4 : rck (fl op) [a, b, c] = rck ((fl op).drop (p + 1)) ([a, b, c].drop (3 - (q - 1))) := by
              rw [h3, show 3 - q + 1 = 3 - (q - 1) by omega]; simp [hx]
            have H6 := Lib.hid h4
            have d1 : ¬ 7 < X := by omega
            clear h3 h4 HR
            go_wp2
            go_round
            case rel => exact ⟨p + 1, q - 1, u + 1, by omega, by omega, by have := HUQ.out; omega, rfl, by go_num, by omega, Lib.hid H6.out⟩
            case measure => simp [intOf]; omega
          · have h4 : ck op a b c = false := by rw [HCK.out, h3]; simp [hx]
            have H6 := Lib.hid h4
            have d1 : 7 < X := by omega
            clear h3 h4 HR
            go_wp2
            go_ret
            exact ⟨by rw [H6.out]; rfl, H5.out.tail.tail⟩
        · have h3 := HR.out
          rw [hc] at h3 htb2 hkq
          have hd := HFD.out.trans hc
          simp only [show kby 110 = 2 from rfl] at h3 htb2
          have hq2 : 2 ≤ q := hkq
          have h4 : rck (fl op) [a, b, c] = rck ((fl op).drop (p + 1)) ([a, b, c].drop (3 - (q - 2))) := by
            rw [h3, show 3 - q + 2 = 3 - (q - 2) by omega]; simp
          have H6 := Lib.hid h4
          clear h3 h4 HR
          go_wp2
          go_round
          case rel => exact ⟨p + 1, q - 2, u + 2, by omega, by omega, by have := HUQ.out; omega, rfl, by go_num, by omega, Lib.hid H6.out⟩
          case measure => simp [intOf]; omega
        · have h3 := HR.out
          rw [hc] at h3 htb2 hkq
          have hd := HFD.out.trans hc
          simp only [show kby 98 = 1 from rfl] at h3 htb2
          have h4 : rck (fl op) [a, b, c] = rck ((fl op).drop (p + 1)) ([a, b, c].drop (3 - (q - 1))) := by
            rw [h3, show 3 - q + 1 = 3 - (q - 1) by omega]; simp
          have H6 := Lib.hid h4
          clear h3 h4 HR
          go_wp2
          go_round
          case rel => exact ⟨p + 1, q - 1, u + 1, by omega, by omega, by have := HUQ.out; omega, rfl, by go_num, by omega, Lib.hid H6.out⟩
          case measure => simp [intOf]; omega
        · have h3 := HR.out
          rw [hc] at h3 htb2 hkq
          have hd := HFD.out.trans hc
          simp only [show kby 119 = 1 from rfl] at h3 htb2
          by_cases hx1 : X < 1
          · have h4 : ck op a b c = false := by rw [HCK.out, h3]; simp; omega
            have H6 := Lib.hid h4
            clear h3 h4 HR
            go_wp2
            go_ret
            exact ⟨by rw [H6.out]; rfl, H5.out.tail.tail⟩
          · by_cases hx2 : 20 < X
            · have h4 : ck op a b c = false := by rw [HCK.out, h3]; simp; omega
              have H6 := Lib.hid h4
              clear h3 h4 HR
              go_wp2
              go_ret
              exact ⟨by rw [H6.out]; rfl, H5.out.tail.tail⟩
            · have h4 : rck (fl op) [a, b, c] = rck ((fl op).drop (p + 1)) ([a, b, c].drop (3 - (q - 1))) := by
                have e : (decide (1 ≤ X) && decide (X ≤ 20)) = true := by simp; omega
                rw [h3, show 3 - q + 1 = 3 - (q - 1) by omega]; simp [e]
              have H6 := Lib.hid h4
              clear h3 h4 HR
              go_wp2
              go_round
              case rel => exact ⟨p + 1, q - 1, u + 1, by omega, by omega, by have := HUQ.out; omega, rfl, by go_num, by omega, Lib.hid H6.out⟩
              case measure => simp [intOf]; omega
        · have h3 := HR.out
          rw [hc] at h3 htb2 hkq
          have hd := HFD.out.trans hc
          simp only [show kby 115 = 1 from rfl] at h3 htb2
          have h4 : rck (fl op) [a, b, c] = rck ((fl op).drop (p + 1)) ([a, b, c].drop (3 - (q - 1))) := by
            rw [h3, show 3 - q + 1 = 3 - (q - 1) by omega]; simp
          have H6 := Lib.hid h4
          clear h3 h4 HR
          go_wp2
          go_round
          case rel => exact ⟨p + 1, q - 1, u + 1, by omega, by omega, by have := HUQ.out; omega, rfl, by go_num, by omega, Lib.hid H6.out⟩
          case measure => simp [intOf]; omega
      · have hpe : p = (fl op).length := by omega
        have h3 := hr.out
        rw [List.drop_of_length_le (by omega)] at h3
        have HR := Lib.hid h3
        have c1 : ¬ (p : Int) < ((fl op).length : Int) := by omega
        have LL : Hid (([a, b, c].drop (3 - q)).length = q) := Lib.hid (by rw [List.length_drop]; simp; omega)
        have HCX := Lib.hid (fun k (h : k < q) => GC.out q u k hq huq h)
        clear hr h3 GC
        generalize [a, b, c].drop (3 - q) = L at *
        go_wp2
        go_loop [5] (fun s5 => ∃ k : Nat, k ≤ q ∧ s5 = .int .i64 ((u + k : Nat) : Int) ∧ Hid (∀ j, j < k → L.getD j 0 = 0)) (fun s5 => 3 - (intOf s5).toNat)
        case atStart => exact ⟨0, Nat.zero_le _, rfl, Lib.hid (fun j h => by omega)⟩
        case round =>
          obtain ⟨k, hk, rfl, hz⟩ := hrel
          have HUQ := Lib.hid huq
          by_cases hkq : k < q
          · have cx := HCX.out k hkq
            have c1 : ((u + k : Nat) : Int) < 3 := by omega
            have hwk : IntKind.i64.wrap (((u + k : Nat) : Int) + 1) = ((u + k : Nat) : Int) + 1 := by rw [IntKind.wrap_i64]; omega
            clear huq
            generalize huk : u + k = uk at *
            have HUK := Lib.hid huk
            clear huk
            by_cases h0 : L.getD k 0 = 0
            · have hz2 : Hid (∀ j, j < k + 1 → L.getD j 0 = 0) := Lib.hid (fun j hj => by
                rcases Nat.lt_or_eq_of_le (Nat.le_of_lt_succ hj) with h | rfl
                · exact hz.out j h
                · exact h0)
              rw [h0] at cx
              clear h0
              go_wp2
              go_round
              case rel => exact ⟨k + 1, by omega, by have := HUK.out; rw [← Nat.add_assoc, this]; go_num, hz2⟩
              case measure => simp [intOf]; omega
            · have hn : ck op a b c = false := by
                rw [HCK.out, HR.out]
                have hl := LL.out
                unfold rck
                rw [Bool.eq_false_iff]
                intro hc
                rw [List.all_eq_true] at hc
                have := hc (L[k]'(by omega)) (List.getElem_mem _)
                rw [List.getD_eq_getElem?_getD, List.getElem?_eq_getElem (by omega)] at h0
                simp at this h0
                exact h0 this
              have HN := Lib.hid hn
              have d1 : (L.getD k 0 != 0) = true := by simpa using h0
              clear hn h0
              generalize L.getD k 0 = z at *
              go_wp2
              go_ret
              exact ⟨by rw [HN.out]; rfl, H5.out.tail.tail⟩
          · have hke : k = q := by omega
            subst hke
            have hn : ck op a b c = true := by
              rw [HCK.out, HR.out]
              have hl := LL.out
              unfold rck
              rw [List.all_eq_true]
              intro x hx
              obtain ⟨j, hj, rfl⟩ := List.getElem_of_mem hx
              have := hz.out j (by omega)
              rw [List.getD_eq_getElem?_getD, List.getElem?_eq_getElem hj] at this
              simpa using this
            have HN := Lib.hid hn
            rw [huq]
            clear hn huq
            go_wp2
            go_ret
            exact ⟨by rw [HN.out]; rfl, H5.out.tail.tail⟩
  · have c1 : 23 ≤ (op : Int) := by omega
    have c12 : decide (23 ≤ (op : Int)) = true := by simpa using c1
    have hck : ck op a b c = false := by simp [ck]; intro h; omega
    have HCK := Lib.hid hck
    clear hck
    go_upto_region 1 with fail
    have x0 : (w.alloc (.cells #[.int .u8 op, .int .u8 a, .int .u8 b, .int .u8 c] 26)).cell? ⟨w.heap.size, 0, none⟩ = some (.int .u8 op) := cell_blk (blk_get HX.out) 0
    generalize (w.alloc (.cells #[.int .u8 op, .int .u8 a, .int .u8 b, .int .u8 c] 26)) = w1 at *
    generalize w.heap.size = xb at *
    go_region_held3 (fun x => x.cell? ⟨xb, 0, none⟩ = some (.int .u8 op)) (first | exact x0) (first | (go_at_call 131; refine (words_c HX.out.drew).mono ?_; rintro e wf ⟨g1, rfl, H1⟩; have x0 : wf.cell? ⟨xb, 0, none⟩ = some (.int .u8 op) := (cell_blk (blk_get (H1.pull 1 rfl)) 0)))
    have H2 := Lib.hid H1.tail
    have x1 : wf.cell? ⟨xb, 1, none⟩ = some (.int .u8 a) := cell_blk (blk_get H2.out) 1
    have x2 : wf.cell? ⟨xb, 2, none⟩ = some (.int .u8 b) := cell_blk (blk_get H2.out) 2
    have x3 : wf.cell? ⟨xb, 3, none⟩ = some (.int .u8 c) := cell_blk (blk_get H2.out) 3
    clear H1 HX
    go_wp2
    go_ret
    exact ⟨by rw [HCK.out]; rfl, H2.out.tail⟩
end Go.Proofs.YtijkkompnfpdeaaGreatDoor
