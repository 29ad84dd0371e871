/- The document's core: a step of the code: moves, comparisons: walked. -/
import Derived.Test.YtijkkompnfpdeaaGreatDoorP17
set_option linter.unusedVariables false
set_option linter.unusedSimpArgs false
namespace Go.Proofs.YtijkkompnfpdeaaGreatDoor
open Go.RowKit Go.Joins Go.Shelf
attribute [local go_sem] Oper.semAt_some

set_option maxHeartbeats 16000000 in
set_option maxRecDepth 20000 in
theorem rstep_mvy {w0 w : World} {r : List Thing} {b : Nat} {c : List I4} {s : Cs} (ha : s.asked = false) (k : Nat) (hk : s.at_ = (k : Int)) (hlt : k < c.length) (hlen : c.length ≤ 1024) (o x y z : UInt8) (hx : c[k] = (o, x, y, z)) (h1 : 11 ≤ o.toNat) (h2 : o.toNat ≤ 14) (hik : ik (o, x, y, z) = true) (t : Cs) (d : Int) (hd : doesC (o, x, y, z) s = some (t, d)) (H : Hp w0 w (DR b c s :: r)) :
    Calls Tryz.prog 19 #[.pointer (some ⟨b, 0, none⟩)] w fun e w' => e = .returned (stV false ak0 0) ∧ Hp w0 w' (DR b c { t with at_ := s.at_ + 1 } :: r) := by
  have MC := Lib.hid (fun (W : World) (rr : List Thing) (H : Hp w0 W (DR b c s :: rr)) => moves_all o x y z hik h1 h2 H)
  rw [hd] at MC
  have ho : o.toNat = 11 ∨ o.toNat = 12 ∨ o.toNat = 13 ∨ o.toNat = 14 := by omega
  clear hd hik h1 h2
  have HO := Lib.hid ho
  clear ho
  have HR := Lib.hid (blk_new H ZA)
  clear H
  go_enter Tryz.func19, Tryz.ntmps19
  go_upto_region 1 with fail
  generalize w.heap.size = b3 at *
  generalize w.alloc _ = W at *
  obtain ⟨mb, C1, -, ⟨a, cc, C4, -⟩, -, C3, -, -⟩ := df_of HR.out.tail
  rw [ha] at C3
  rw [hk] at C1
  have hn2 : decide ((k : Int) < 0) = false := by simp
  have hn3 : decide ((c.length : Int) ≤ (k : Int)) = false := by simp; omega
  go_wp2
  go_quiet (fail)
  go_upto_region 5 with fail
  have HR1 := Lib.hid (HR.out.drewN nq)
  generalize W.drewN nq = W1 at *
  clear HR C1 C3 C4 hn2 hn3
  obtain ⟨mb', C1, -, ⟨a', cc', C4, C4'⟩, -, -, -, -⟩ := df_of HR1.out.tail
  obtain ⟨g, oo, rfl, i0, i1, i2, i3⟩ := ins_cells C4' hlt
  rw [hx] at i0 i1 i2 i3
  rw [hk] at C1
  have hSS : S8 b g oo k c.length cc' (o, x, y, z) W1.drew := ⟨C4, C1, i0, i1, i2, i3⟩
  have hlt' : (k : Int) < (c.length : Int) := by omega
  clear C1 C4 C4' i0 i1 i2 i3
  refine wp_region_S 11 (S8 b g oo k c.length cc' (o, x, y, z)) (by as_aux_lemma => kernel_rfl) ?_
  refine wpAnyS_tk (i := 0) (by as_aux_lemma => kernel_rfl) (by intro c a d v w h; cases d <;> exact h) hSS (fun oi hoi => ?_)
  simp only [List.getElem?_toArray, List.getElem?_cons_zero, List.getElem?_cons_succ, Option.some.injEq] at hoi; subst hoi
  refine ⟨?_, by rfl, fun wx hSx => ?_, ?_⟩
  rotate_left
  · obtain ⟨s1, s2, s3, s4, s5, s6⟩ := hSx
    go_simp
    try with_reducible rfl
  try simp only [Act.put, List.setIfInBounds_toArray, List.set_cons_zero, List.set_cons_succ]
  refine wpAnyS_tk (i := 1) (by as_aux_lemma => kernel_rfl) (by intro c a d v w h; cases d <;> exact h) hSS (fun oi hoi => ?_)
  simp only [List.getElem?_toArray, List.getElem?_cons_zero, List.getElem?_cons_succ, Option.some.injEq] at hoi; subst hoi
  refine ⟨?_, by rfl, fun wx hSx => ?_, ?_⟩
  rotate_left
  · obtain ⟨s1, s2, s3, s4, s5, s6⟩ := hSx
    go_simp
    try with_reducible rfl
  try simp only [Act.put, List.setIfInBounds_toArray, List.set_cons_zero, List.set_cons_succ]
  refine wpAnyS_tk (i := 2) (by as_aux_lemma => kernel_rfl) (by intro c a d v w h; cases d <;> exact h) hSS (fun oi hoi => ?_)
  simp only [List.getElem?_toArray, List.getElem?_cons_zero, List.getElem?_cons_succ, Option.some.injEq] at hoi; subst hoi
  refine ⟨?_, by rfl, fun wx hSx => ?_, ?_⟩
  rotate_left
  · obtain ⟨s1, s2, s3, s4, s5, s6⟩ := hSx
    go_simp
    try with_reducible rfl
  try simp only [Act.put, List.setIfInBounds_toArray, List.set_cons_zero, List.set_cons_succ]
  refine wpAnyS_tk (i := 3) (by as_aux_lemma => kernel_rfl) (by intro c a d v w h; cases d <;> exact h) hSS (fun oi hoi => ?_)
  simp only [List.getElem?_toArray, List.getElem?_cons_zero, List.getElem?_cons_succ, Option.some.injEq] at hoi; subst hoi
  refine ⟨?_, by rfl, fun wx hSx => ?_, ?_⟩
  rotate_left
  · obtain ⟨s1, s2, s3, s4, s5, s6⟩ := hSx
    go_simp
    try with_reducible rfl
  try simp only [Act.put, List.setIfInBounds_toArray, List.set_cons_zero, List.set_cons_succ]
  refine wpAnyS_tk (i := 4) (by as_aux_lemma => kernel_rfl) (by intro c a d v w h; cases d <;> exact h) hSS (fun oi hoi => ?_)
  simp only [List.getElem?_toArray, List.getElem?_cons_zero, List.getElem?_cons_succ, Option.some.injEq] at hoi; subst hoi
  refine ⟨?_, by rfl, fun wx hSx => ?_, ?_⟩
  rotate_left
  · obtain ⟨s1, s2, s3, s4, s5, s6⟩ := hSx
    go_simp
    try with_reducible rfl
  try simp only [Act.put, List.setIfInBounds_toArray, List.set_cons_zero, List.set_cons_succ]
  refine wpAnyS_tk (i := 5) (by as_aux_lemma => kernel_rfl) (by intro c a d v w h; cases d <;> exact h) hSS (fun oi hoi => ?_)
  simp only [List.getElem?_toArray, List.getElem?_cons_zero, List.getElem?_cons_succ, Option.some.injEq] at hoi; subst hoi
  refine ⟨?_, by rfl, fun wx hSx => ?_, ?_⟩
  rotate_left
  · obtain ⟨s1, s2, s3, s4, s5, s6⟩ := hSx
    go_simp
    try with_reducible rfl
  try simp only [Act.put, List.setIfInBounds_toArray, List.set_cons_zero, List.set_cons_succ]
  refine wpAnyS_tk (i := 6) (by as_aux_lemma => kernel_rfl) (by intro c a d v w h; cases d <;> exact h) hSS (fun oi hoi => ?_)
  simp only [List.getElem?_toArray, List.getElem?_cons_zero, List.getElem?_cons_succ, Option.some.injEq] at hoi; subst hoi
  refine ⟨?_, by rfl, fun wx hSx => ?_, ?_⟩
  rotate_left
  · obtain ⟨s1, s2, s3, s4, s5, s6⟩ := hSx
    go_simp
    try with_reducible rfl
  try simp only [Act.put, List.setIfInBounds_toArray, List.set_cons_zero, List.set_cons_succ]
  refine wpAnyS_tk (i := 7) (by as_aux_lemma => kernel_rfl) (by intro c a d v w h; cases d <;> exact h) hSS (fun oi hoi => ?_)
  simp only [List.getElem?_toArray, List.getElem?_cons_zero, List.getElem?_cons_succ, Option.some.injEq] at hoi; subst hoi
  refine ⟨?_, by rfl, fun wx hSx => ?_, ?_⟩
  rotate_left
  · obtain ⟨s1, s2, s3, s4, s5, s6⟩ := hSx
    go_simp
    try with_reducible rfl
  try simp only [Act.put, List.setIfInBounds_toArray, List.set_cons_zero, List.set_cons_succ]
  refine wpAnyS_tk (i := 8) (by as_aux_lemma => kernel_rfl) (by intro c a d v w h; cases d <;> exact h) hSS (fun oi hoi => ?_)
  simp only [List.getElem?_toArray, List.getElem?_cons_zero, List.getElem?_cons_succ, Option.some.injEq] at hoi; subst hoi
  refine ⟨?_, by rfl, fun wx hSx => ?_, ?_⟩
  rotate_left
  · obtain ⟨s1, s2, s3, s4, s5, s6⟩ := hSx
    go_simp
    try with_reducible rfl
  try simp only [Act.put, List.setIfInBounds_toArray, List.set_cons_zero, List.set_cons_succ]
  refine wpAnyS_tk (i := 9) (by as_aux_lemma => kernel_rfl) (by intro c a d v w h; cases d <;> exact h) hSS (fun oi hoi => ?_)
  simp only [List.getElem?_toArray, List.getElem?_cons_zero, List.getElem?_cons_succ, Option.some.injEq] at hoi; subst hoi
  refine ⟨?_, by rfl, fun wx hSx => ?_, ?_⟩
  rotate_left
  · obtain ⟨s1, s2, s3, s4, s5, s6⟩ := hSx
    go_simp
    try with_reducible rfl
  try simp only [Act.put, List.setIfInBounds_toArray, List.set_cons_zero, List.set_cons_succ]
  refine wpAnyS_one (i := 10) (by as_aux_lemma => kernel_rfl) ?_
  intro oi hoi K hK
  simp only [List.getElem?_toArray, List.getElem?_cons_zero, List.getElem?_cons_succ, Option.some.injEq] at hoi; subst hoi
  go_simp
  refine hK.out _ _ (fun _ => hSS.alloc _) ?_
  clear hK K
  try simp only [Act.put, List.setIfInBounds_toArray, List.set_cons_zero, List.set_cons_succ]
  refine wpAnyS_one (i := 11) (by as_aux_lemma => kernel_rfl) ?_
  intro oi hoi K hK
  simp only [List.getElem?_toArray, List.getElem?_cons_zero, List.getElem?_cons_succ, Option.some.injEq] at hoi; subst hoi
  go_simp
  refine hK.out _ _ (fun h => absurd h (by decide)) ?_
  clear hK K
  try simp only [Act.put, List.setIfInBounds_toArray, List.set_cons_zero, List.set_cons_succ]
  refine wpAnyS_done (by as_aux_lemma => kernel_rfl) ?_ _
  clear hSS hlt'
  have HR2 : Hid (Hp w0 _ (Blk b3 ZA :: DR b c s :: XB W1.heap.size (o, x, y, z) :: r)) := Lib.hid (((blk_new HR1.out (.cells #[bv o, bv x, bv y, bv z] 26)).drew.pull 2 rfl).pull 2 rfl)
  generalize W1.heap.size = xb at *
  generalize (W1.alloc _).drew = W2 at *
  clear HR1
  have x0 : W2.cell? ⟨xb, 0, none⟩ = some (bv o) := cell_blk (blk_get (HR2.out.pull 2 rfl)) 0
  have x1 : W2.cell? ⟨xb, 1, none⟩ = some (bv x) := cell_blk (blk_get (HR2.out.pull 2 rfl)) 1
  have x2 : W2.cell? ⟨xb, 2, none⟩ = some (bv y) := cell_blk (blk_get (HR2.out.pull 2 rfl)) 2
  have x3 : W2.cell? ⟨xb, 3, none⟩ = some (bv z) := cell_blk (blk_get (HR2.out.pull 2 rfl)) 3
  have hw : IntKind.i64.wrap ((k : Int) + 1) = (k : Int) + 1 := by rw [IntKind.wrap_i64]; omega
  obtain ⟨mb2, C8, -, -, C11, -, fr, RG⟩ := df_of HR2.out.tail
  rw [hk] at C8
  clear fr RG C11
  have MC2 := MC.out W2 _ HR2.out.up1
  rw [show i4v (o, x, y, z) = .agg #[bv o, bv x, bv y, bv z] from rfl] at MC2
  have MC3 := Lib.hid MC2
  clear MC2 MC HR2
  rcases HO.out with ho | ho | ho | ho
  all_goals
    have hb : bv o = .int .u8 ((o.toNat : Nat) : Int) := rfl
    rw [ho] at hb
    simp only [show ((11 : Nat) : Int) = 11 from rfl, show ((12 : Nat) : Int) = 12 from rfl, show ((13 : Nat) : Int) = 13 from rfl, show ((14 : Nat) : Int) = 14 from rfl] at hb
    rw [hb] at x0 MC3
    clear hb ho
    go_upto_region 18 with fail
    clear C8 hw
    go_wp2_with fail
    refine MC3.out.mono ?_; rintro e w3 ⟨rfl, H3⟩
    have HR4 := Lib.hid H3.up1
    clear MC3 x0 x1 x2 x3 H3
    go_upto_region 40 with fail
    obtain ⟨-, D8, -, -, -, -, fr8, -⟩ := df_of HR4.out.tail
    have z8 := fr8 8
    have HR5 := Lib.hid ((d_at HR4.out.up1 ((k : Int) + 1)).up1)
    clear fr8
    go_upto_region 41 with fail
    generalize World.setCell _ _ _ = HR5w at *
    clear HR4 D8 z8
    rw [← hk] at HR5
    obtain ⟨d0, d1, d2, d3, d4, z0, z1, z2, z3, z4⟩ := zf_of HR5.out
    have HZ := Lib.hid (z_set HR5.out ak0)
    clear HR5
    go_wp2
    exact bodyPost_ret (res3d _ rfl rfl rfl HZ.out) rfl ⟨rfl, HZ.out.tail.up1.tail⟩
set_option maxHeartbeats 16000000 in
set_option maxRecDepth 20000 in
theorem rstep_mvn {w0 w : World} {r : List Thing} {b : Nat} {c : List I4} {s : Cs} (ha : s.asked = false) (k : Nat) (hk : s.at_ = (k : Int)) (hlt : k < c.length) (hlen : c.length ≤ 1024) (o x y z : UInt8) (hx : c[k] = (o, x, y, z)) (h1 : 11 ≤ o.toNat) (h2 : o.toNat ≤ 14) (hik : ik (o, x, y, z) = true) (hd : doesC (o, x, y, z) s = none) (H : Hp w0 w (DR b c s :: r)) :
    Calls Tryz.prog 19 #[.pointer (some ⟨b, 0, none⟩)] w fun e w' => e = .returned (stV false ak0 15) ∧ Hp w0 w' (DR b c s :: r) := by
  have MC := Lib.hid (fun (W : World) (rr : List Thing) (H : Hp w0 W (DR b c s :: rr)) => moves_all o x y z hik h1 h2 H)
  rw [hd] at MC
  have ho : o.toNat = 11 ∨ o.toNat = 12 ∨ o.toNat = 13 ∨ o.toNat = 14 := by omega
  clear hd hik h1 h2
  have HO := Lib.hid ho
  clear ho
  have HR := Lib.hid (blk_new H ZA)
  clear H
  go_enter Tryz.func19, Tryz.ntmps19
  go_upto_region 1 with fail
  generalize w.heap.size = b3 at *
  generalize w.alloc _ = W at *
  obtain ⟨mb, C1, -, ⟨a, cc, C4, -⟩, -, C3, -, -⟩ := df_of HR.out.tail
  rw [ha] at C3
  rw [hk] at C1
  have hn2 : decide ((k : Int) < 0) = false := by simp
  have hn3 : decide ((c.length : Int) ≤ (k : Int)) = false := by simp; omega
  go_wp2
  go_quiet (fail)
  go_upto_region 5 with fail
  have HR1 := Lib.hid (HR.out.drewN nq)
  generalize W.drewN nq = W1 at *
  clear HR C1 C3 C4 hn2 hn3
  obtain ⟨mb', C1, -, ⟨a', cc', C4, C4'⟩, -, -, -, -⟩ := df_of HR1.out.tail
  obtain ⟨g, oo, rfl, i0, i1, i2, i3⟩ := ins_cells C4' hlt
  rw [hx] at i0 i1 i2 i3
  rw [hk] at C1
  have hSS : S8 b g oo k c.length cc' (o, x, y, z) W1.drew := ⟨C4, C1, i0, i1, i2, i3⟩
  have hlt' : (k : Int) < (c.length : Int) := by omega
  clear C1 C4 C4' i0 i1 i2 i3
  refine wp_region_S 11 (S8 b g oo k c.length cc' (o, x, y, z)) (by as_aux_lemma => kernel_rfl) ?_
  refine wpAnyS_tk (i := 0) (by as_aux_lemma => kernel_rfl) (by intro c a d v w h; cases d <;> exact h) hSS (fun oi hoi => ?_)
  simp only [List.getElem?_toArray, List.getElem?_cons_zero, List.getElem?_cons_succ, Option.some.injEq] at hoi; subst hoi
  refine ⟨?_, by rfl, fun wx hSx => ?_, ?_⟩
  rotate_left
  · obtain ⟨s1, s2, s3, s4, s5, s6⟩ := hSx
    go_simp
    try with_reducible rfl
  try simp only [Act.put, List.setIfInBounds_toArray, List.set_cons_zero, List.set_cons_succ]
  refine wpAnyS_tk (i := 1) (by as_aux_lemma => kernel_rfl) (by intro c a d v w h; cases d <;> exact h) hSS (fun oi hoi => ?_)
  simp only [List.getElem?_toArray, List.getElem?_cons_zero, List.getElem?_cons_succ, Option.some.injEq] at hoi; subst hoi
  refine ⟨?_, by rfl, fun wx hSx => ?_, ?_⟩
  rotate_left
  · obtain ⟨s1, s2, s3, s4, s5, s6⟩ := hSx
    go_simp
    try with_reducible rfl
  try simp only [Act.put, List.setIfInBounds_toArray, List.set_cons_zero, List.set_cons_succ]
  refine wpAnyS_tk (i := 2) (by as_aux_lemma => kernel_rfl) (by intro c a d v w h; cases d <;> exact h) hSS (fun oi hoi => ?_)
  simp only [List.getElem?_toArray, List.getElem?_cons_zero, List.getElem?_cons_succ, Option.some.injEq] at hoi; subst hoi
  refine ⟨?_, by rfl, fun wx hSx => ?_, ?_⟩
  rotate_left
  · obtain ⟨s1, s2, s3, s4, s5, s6⟩ := hSx
    go_simp
    try with_reducible rfl
  try simp only [Act.put, List.setIfInBounds_toArray, List.set_cons_zero, List.set_cons_succ]
  refine wpAnyS_tk (i := 3) (by as_aux_lemma => kernel_rfl) (by intro c a d v w h; cases d <;> exact h) hSS (fun oi hoi => ?_)
  simp only [List.getElem?_toArray, List.getElem?_cons_zero, List.getElem?_cons_succ, Option.some.injEq] at hoi; subst hoi
  refine ⟨?_, by rfl, fun wx hSx => ?_, ?_⟩
  rotate_left
  · obtain ⟨s1, s2, s3, s4, s5, s6⟩ := hSx
    go_simp
    try with_reducible rfl
  try simp only [Act.put, List.setIfInBounds_toArray, List.set_cons_zero, List.set_cons_succ]
  refine wpAnyS_tk (i := 4) (by as_aux_lemma => kernel_rfl) (by intro c a d v w h; cases d <;> exact h) hSS (fun oi hoi => ?_)
  simp only [List.getElem?_toArray, List.getElem?_cons_zero, List.getElem?_cons_succ, Option.some.injEq] at hoi; subst hoi
  refine ⟨?_, by rfl, fun wx hSx => ?_, ?_⟩
  rotate_left
  · obtain ⟨s1, s2, s3, s4, s5, s6⟩ := hSx
    go_simp
    try with_reducible rfl
  try simp only [Act.put, List.setIfInBounds_toArray, List.set_cons_zero, List.set_cons_succ]
  refine wpAnyS_tk (i := 5) (by as_aux_lemma => kernel_rfl) (by intro c a d v w h; cases d <;> exact h) hSS (fun oi hoi => ?_)
  simp only [List.getElem?_toArray, List.getElem?_cons_zero, List.getElem?_cons_succ, Option.some.injEq] at hoi; subst hoi
  refine ⟨?_, by rfl, fun wx hSx => ?_, ?_⟩
  rotate_left
  · obtain ⟨s1, s2, s3, s4, s5, s6⟩ := hSx
    go_simp
    try with_reducible rfl
  try simp only [Act.put, List.setIfInBounds_toArray, List.set_cons_zero, List.set_cons_succ]
  refine wpAnyS_tk (i := 6) (by as_aux_lemma => kernel_rfl) (by intro c a d v w h; cases d <;> exact h) hSS (fun oi hoi => ?_)
  simp only [List.getElem?_toArray, List.getElem?_cons_zero, List.getElem?_cons_succ, Option.some.injEq] at hoi; subst hoi
  refine ⟨?_, by rfl, fun wx hSx => ?_, ?_⟩
  rotate_left
  · obtain ⟨s1, s2, s3, s4, s5, s6⟩ := hSx
    go_simp
    try with_reducible rfl
  try simp only [Act.put, List.setIfInBounds_toArray, List.set_cons_zero, List.set_cons_succ]
  refine wpAnyS_tk (i := 7) (by as_aux_lemma => kernel_rfl) (by intro c a d v w h; cases d <;> exact h) hSS (fun oi hoi => ?_)
  simp only [List.getElem?_toArray, List.getElem?_cons_zero, List.getElem?_cons_succ, Option.some.injEq] at hoi; subst hoi
  refine ⟨?_, by rfl, fun wx hSx => ?_, ?_⟩
  rotate_left
  · obtain ⟨s1, s2, s3, s4, s5, s6⟩ := hSx
    go_simp
    try with_reducible rfl
  try simp only [Act.put, List.setIfInBounds_toArray, List.set_cons_zero, List.set_cons_succ]
  refine wpAnyS_tk (i := 8) (by as_aux_lemma => kernel_rfl) (by intro c a d v w h; cases d <;> exact h) hSS (fun oi hoi => ?_)
  simp only [List.getElem?_toArray, List.getElem?_cons_zero, List.getElem?_cons_succ, Option.some.injEq] at hoi; subst hoi
  refine ⟨?_, by rfl, fun wx hSx => ?_, ?_⟩
  rotate_left
  · obtain ⟨s1, s2, s3, s4, s5, s6⟩ := hSx
    go_simp
    try with_reducible rfl
  try simp only [Act.put, List.setIfInBounds_toArray, List.set_cons_zero, List.set_cons_succ]
  refine wpAnyS_tk (i := 9) (by as_aux_lemma => kernel_rfl) (by intro c a d v w h; cases d <;> exact h) hSS (fun oi hoi => ?_)
  simp only [List.getElem?_toArray, List.getElem?_cons_zero, List.getElem?_cons_succ, Option.some.injEq] at hoi; subst hoi
  refine ⟨?_, by rfl, fun wx hSx => ?_, ?_⟩
  rotate_left
  · obtain ⟨s1, s2, s3, s4, s5, s6⟩ := hSx
    go_simp
    try with_reducible rfl
  try simp only [Act.put, List.setIfInBounds_toArray, List.set_cons_zero, List.set_cons_succ]
  refine wpAnyS_one (i := 10) (by as_aux_lemma => kernel_rfl) ?_
  intro oi hoi K hK
  simp only [List.getElem?_toArray, List.getElem?_cons_zero, List.getElem?_cons_succ, Option.some.injEq] at hoi; subst hoi
  go_simp
  refine hK.out _ _ (fun _ => hSS.alloc _) ?_
  clear hK K
  try simp only [Act.put, List.setIfInBounds_toArray, List.set_cons_zero, List.set_cons_succ]
  refine wpAnyS_one (i := 11) (by as_aux_lemma => kernel_rfl) ?_
  intro oi hoi K hK
  simp only [List.getElem?_toArray, List.getElem?_cons_zero, List.getElem?_cons_succ, Option.some.injEq] at hoi; subst hoi
  go_simp
  refine hK.out _ _ (fun h => absurd h (by decide)) ?_
  clear hK K
  try simp only [Act.put, List.setIfInBounds_toArray, List.set_cons_zero, List.set_cons_succ]
  refine wpAnyS_done (by as_aux_lemma => kernel_rfl) ?_ _
  clear hSS hlt'
  have HR2 : Hid (Hp w0 _ (Blk b3 ZA :: DR b c s :: XB W1.heap.size (o, x, y, z) :: r)) := Lib.hid (((blk_new HR1.out (.cells #[bv o, bv x, bv y, bv z] 26)).drew.pull 2 rfl).pull 2 rfl)
  generalize W1.heap.size = xb at *
  generalize (W1.alloc _).drew = W2 at *
  clear HR1
  have x0 : W2.cell? ⟨xb, 0, none⟩ = some (bv o) := cell_blk (blk_get (HR2.out.pull 2 rfl)) 0
  have x1 : W2.cell? ⟨xb, 1, none⟩ = some (bv x) := cell_blk (blk_get (HR2.out.pull 2 rfl)) 1
  have x2 : W2.cell? ⟨xb, 2, none⟩ = some (bv y) := cell_blk (blk_get (HR2.out.pull 2 rfl)) 2
  have x3 : W2.cell? ⟨xb, 3, none⟩ = some (bv z) := cell_blk (blk_get (HR2.out.pull 2 rfl)) 3
  have hw : IntKind.i64.wrap ((k : Int) + 1) = (k : Int) + 1 := by rw [IntKind.wrap_i64]; omega
  obtain ⟨mb2, C8, -, -, C11, -, fr, RG⟩ := df_of HR2.out.tail
  rw [hk] at C8
  clear fr RG C11
  have MC2 := MC.out W2 _ HR2.out.up1
  rw [show i4v (o, x, y, z) = .agg #[bv o, bv x, bv y, bv z] from rfl] at MC2
  have MC3 := Lib.hid MC2
  clear MC2 MC HR2
  rcases HO.out with ho | ho | ho | ho
  all_goals
    have hb : bv o = .int .u8 ((o.toNat : Nat) : Int) := rfl
    rw [ho] at hb
    simp only [show ((11 : Nat) : Int) = 11 from rfl, show ((12 : Nat) : Int) = 12 from rfl, show ((13 : Nat) : Int) = 13 from rfl, show ((14 : Nat) : Int) = 14 from rfl] at hb
    rw [hb] at x0 MC3
    clear hb ho
    go_upto_region 18 with fail
    clear C8 hw
    go_wp2_with fail
    refine MC3.out.mono ?_; rintro e w3 ⟨rfl, H3⟩
    have HR4 := Lib.hid H3.up1
    clear MC3 x0 x1 x2 x3 H3
    go_upto_region 19 with fail
    obtain ⟨d0, d1, d2, d3, d4, z0, z1, z2, z3, z4⟩ := zf_of HR4.out
    have HZ := Lib.hid (z_set HR4.out ak0)
    clear HR4
    go_wp2
    exact bodyPost_ret (res3d _ rfl rfl rfl HZ.out) rfl ⟨rfl, HZ.out.tail.up1.tail⟩
set_option maxHeartbeats 16000000 in
set_option maxRecDepth 20000 in
theorem rstep_cmp {w0 w : World} {r : List Thing} {b : Nat} {c : List I4} {s : Cs} (ha : s.asked = false) (k : Nat) (hk : s.at_ = (k : Int)) (hlt : k < c.length) (hlen : c.length ≤ 1024) (o x y z : UInt8) (hx : c[k] = (o, x, y, z)) (h1 : 15 ≤ o.toNat) (h2 : o.toNat ≤ 18) (hxr : x.toNat < 8) (hyr : y.toNat < 8) (u v : UInt32) (hu : rg s x = u) (hv : rg s y = v) (f : Bool) (hf : holdsP o.toNat u v = f) (dd : Int) (hd1 : f = true → s8 z = dd) (hd0 : f = false → 0 = dd) (H : Hp w0 w (DR b c s :: r)) :
    Calls Tryz.prog 19 #[.pointer (some ⟨b, 0, none⟩)] w fun e w' => e = .returned (stV false ak0 0) ∧ Hp w0 w' (DR b c { s with at_ := s.at_ + 1 + dd } :: r) := by
  have HC := Lib.hid (fun (W : World) => rholds_all o h1 h2 u v W)
  rw [hf] at HC
  have ho : o.toNat = 15 ∨ o.toNat = 16 ∨ o.toNat = 17 ∨ o.toNat = 18 := by omega
  clear hf h1 h2
  have HO := Lib.hid ho
  clear ho
  have HR := Lib.hid (blk_new H ZA)
  clear H
  go_enter Tryz.func19, Tryz.ntmps19
  go_upto_region 1 with fail
  generalize w.heap.size = b3 at *
  generalize w.alloc _ = W at *
  obtain ⟨mb, C1, -, ⟨a, cc, C4, -⟩, -, C3, -, -⟩ := df_of HR.out.tail
  rw [ha] at C3
  rw [hk] at C1
  have hn2 : decide ((k : Int) < 0) = false := by simp
  have hn3 : decide ((c.length : Int) ≤ (k : Int)) = false := by simp; omega
  go_wp2
  go_quiet (fail)
  go_upto_region 5 with fail
  have HR1 := Lib.hid (HR.out.drewN nq)
  generalize W.drewN nq = W1 at *
  clear HR C1 C3 C4 hn2 hn3
  obtain ⟨mb', C1, -, ⟨a', cc', C4, C4'⟩, -, -, -, -⟩ := df_of HR1.out.tail
  obtain ⟨g, oo, rfl, i0, i1, i2, i3⟩ := ins_cells C4' hlt
  rw [hx] at i0 i1 i2 i3
  rw [hk] at C1
  have hSS : S8 b g oo k c.length cc' (o, x, y, z) W1.drew := ⟨C4, C1, i0, i1, i2, i3⟩
  have hlt' : (k : Int) < (c.length : Int) := by omega
  clear C1 C4 C4' i0 i1 i2 i3
  refine wp_region_S 11 (S8 b g oo k c.length cc' (o, x, y, z)) (by as_aux_lemma => kernel_rfl) ?_
  refine wpAnyS_tk (i := 0) (by as_aux_lemma => kernel_rfl) (by intro c a d v w h; cases d <;> exact h) hSS (fun oi hoi => ?_)
  simp only [List.getElem?_toArray, List.getElem?_cons_zero, List.getElem?_cons_succ, Option.some.injEq] at hoi; subst hoi
  refine ⟨?_, by rfl, fun wx hSx => ?_, ?_⟩
  rotate_left
  · obtain ⟨s1, s2, s3, s4, s5, s6⟩ := hSx
    go_simp
    try with_reducible rfl
  try simp only [Act.put, List.setIfInBounds_toArray, List.set_cons_zero, List.set_cons_succ]
  refine wpAnyS_tk (i := 1) (by as_aux_lemma => kernel_rfl) (by intro c a d v w h; cases d <;> exact h) hSS (fun oi hoi => ?_)
  simp only [List.getElem?_toArray, List.getElem?_cons_zero, List.getElem?_cons_succ, Option.some.injEq] at hoi; subst hoi
  refine ⟨?_, by rfl, fun wx hSx => ?_, ?_⟩
  rotate_left
  · obtain ⟨s1, s2, s3, s4, s5, s6⟩ := hSx
    go_simp
    try with_reducible rfl
  try simp only [Act.put, List.setIfInBounds_toArray, List.set_cons_zero, List.set_cons_succ]
  refine wpAnyS_tk (i := 2) (by as_aux_lemma => kernel_rfl) (by intro c a d v w h; cases d <;> exact h) hSS (fun oi hoi => ?_)
  simp only [List.getElem?_toArray, List.getElem?_cons_zero, List.getElem?_cons_succ, Option.some.injEq] at hoi; subst hoi
  refine ⟨?_, by rfl, fun wx hSx => ?_, ?_⟩
  rotate_left
  · obtain ⟨s1, s2, s3, s4, s5, s6⟩ := hSx
    go_simp
    try with_reducible rfl
  try simp only [Act.put, List.setIfInBounds_toArray, List.set_cons_zero, List.set_cons_succ]
  refine wpAnyS_tk (i := 3) (by as_aux_lemma => kernel_rfl) (by intro c a d v w h; cases d <;> exact h) hSS (fun oi hoi => ?_)
  simp only [List.getElem?_toArray, List.getElem?_cons_zero, List.getElem?_cons_succ, Option.some.injEq] at hoi; subst hoi
  refine ⟨?_, by rfl, fun wx hSx => ?_, ?_⟩
  rotate_left
  · obtain ⟨s1, s2, s3, s4, s5, s6⟩ := hSx
    go_simp
    try with_reducible rfl
  try simp only [Act.put, List.setIfInBounds_toArray, List.set_cons_zero, List.set_cons_succ]
  refine wpAnyS_tk (i := 4) (by as_aux_lemma => kernel_rfl) (by intro c a d v w h; cases d <;> exact h) hSS (fun oi hoi => ?_)
  simp only [List.getElem?_toArray, List.getElem?_cons_zero, List.getElem?_cons_succ, Option.some.injEq] at hoi; subst hoi
  refine ⟨?_, by rfl, fun wx hSx => ?_, ?_⟩
  rotate_left
  · obtain ⟨s1, s2, s3, s4, s5, s6⟩ := hSx
    go_simp
    try with_reducible rfl
  try simp only [Act.put, List.setIfInBounds_toArray, List.set_cons_zero, List.set_cons_succ]
  refine wpAnyS_tk (i := 5) (by as_aux_lemma => kernel_rfl) (by intro c a d v w h; cases d <;> exact h) hSS (fun oi hoi => ?_)
  simp only [List.getElem?_toArray, List.getElem?_cons_zero, List.getElem?_cons_succ, Option.some.injEq] at hoi; subst hoi
  refine ⟨?_, by rfl, fun wx hSx => ?_, ?_⟩
  rotate_left
  · obtain ⟨s1, s2, s3, s4, s5, s6⟩ := hSx
    go_simp
    try with_reducible rfl
  try simp only [Act.put, List.setIfInBounds_toArray, List.set_cons_zero, List.set_cons_succ]
  refine wpAnyS_tk (i := 6) (by as_aux_lemma => kernel_rfl) (by intro c a d v w h; cases d <;> exact h) hSS (fun oi hoi => ?_)
  simp only [List.getElem?_toArray, List.getElem?_cons_zero, List.getElem?_cons_succ, Option.some.injEq] at hoi; subst hoi
  refine ⟨?_, by rfl, fun wx hSx => ?_, ?_⟩
  rotate_left
  · obtain ⟨s1, s2, s3, s4, s5, s6⟩ := hSx
    go_simp
    try with_reducible rfl
  try simp only [Act.put, List.setIfInBounds_toArray, List.set_cons_zero, List.set_cons_succ]
  refine wpAnyS_tk (i := 7) (by as_aux_lemma => kernel_rfl) (by intro c a d v w h; cases d <;> exact h) hSS (fun oi hoi => ?_)
  simp only [List.getElem?_toArray, List.getElem?_cons_zero, List.getElem?_cons_succ, Option.some.injEq] at hoi; subst hoi
  refine ⟨?_, by rfl, fun wx hSx => ?_, ?_⟩
  rotate_left
  · obtain ⟨s1, s2, s3, s4, s5, s6⟩ := hSx
    go_simp
    try with_reducible rfl
  try simp only [Act.put, List.setIfInBounds_toArray, List.set_cons_zero, List.set_cons_succ]
  refine wpAnyS_tk (i := 8) (by as_aux_lemma => kernel_rfl) (by intro c a d v w h; cases d <;> exact h) hSS (fun oi hoi => ?_)
  simp only [List.getElem?_toArray, List.getElem?_cons_zero, List.getElem?_cons_succ, Option.some.injEq] at hoi; subst hoi
  refine ⟨?_, by rfl, fun wx hSx => ?_, ?_⟩
  rotate_left
  · obtain ⟨s1, s2, s3, s4, s5, s6⟩ := hSx
    go_simp
    try with_reducible rfl
  try simp only [Act.put, List.setIfInBounds_toArray, List.set_cons_zero, List.set_cons_succ]
  refine wpAnyS_tk (i := 9) (by as_aux_lemma => kernel_rfl) (by intro c a d v w h; cases d <;> exact h) hSS (fun oi hoi => ?_)
  simp only [List.getElem?_toArray, List.getElem?_cons_zero, List.getElem?_cons_succ, Option.some.injEq] at hoi; subst hoi
  refine ⟨?_, by rfl, fun wx hSx => ?_, ?_⟩
  rotate_left
  · obtain ⟨s1, s2, s3, s4, s5, s6⟩ := hSx
    go_simp
    try with_reducible rfl
  try simp only [Act.put, List.setIfInBounds_toArray, List.set_cons_zero, List.set_cons_succ]
  refine wpAnyS_one (i := 10) (by as_aux_lemma => kernel_rfl) ?_
  intro oi hoi K hK
  simp only [List.getElem?_toArray, List.getElem?_cons_zero, List.getElem?_cons_succ, Option.some.injEq] at hoi; subst hoi
  go_simp
  refine hK.out _ _ (fun _ => hSS.alloc _) ?_
  clear hK K
  try simp only [Act.put, List.setIfInBounds_toArray, List.set_cons_zero, List.set_cons_succ]
  refine wpAnyS_one (i := 11) (by as_aux_lemma => kernel_rfl) ?_
  intro oi hoi K hK
  simp only [List.getElem?_toArray, List.getElem?_cons_zero, List.getElem?_cons_succ, Option.some.injEq] at hoi; subst hoi
  go_simp
  refine hK.out _ _ (fun h => absurd h (by decide)) ?_
  clear hK K
  try simp only [Act.put, List.setIfInBounds_toArray, List.set_cons_zero, List.set_cons_succ]
  refine wpAnyS_done (by as_aux_lemma => kernel_rfl) ?_ _
  clear hSS hlt'
  have HR2 : Hid (Hp w0 _ (Blk b3 ZA :: DR b c s :: XB W1.heap.size (o, x, y, z) :: r)) := Lib.hid (((blk_new HR1.out (.cells #[bv o, bv x, bv y, bv z] 26)).drew.pull 2 rfl).pull 2 rfl)
  generalize W1.heap.size = xb at *
  generalize (W1.alloc _).drew = W2 at *
  clear HR1
  have x0 : W2.cell? ⟨xb, 0, none⟩ = some (bv o) := cell_blk (blk_get (HR2.out.pull 2 rfl)) 0
  have x1 : W2.cell? ⟨xb, 1, none⟩ = some (bv x) := cell_blk (blk_get (HR2.out.pull 2 rfl)) 1
  have x2 : W2.cell? ⟨xb, 2, none⟩ = some (bv y) := cell_blk (blk_get (HR2.out.pull 2 rfl)) 2
  have x3 : W2.cell? ⟨xb, 3, none⟩ = some (bv z) := cell_blk (blk_get (HR2.out.pull 2 rfl)) 3
  have hw : IntKind.i64.wrap ((k : Int) + 1) = (k : Int) + 1 := by rw [IntKind.wrap_i64]; omega
  obtain ⟨mb2, C8, -, -, C11, -, fr, RG⟩ := df_of HR2.out.tail
  rw [hk] at C8
  have f0 : W2.cell? ⟨b, x.toNat, none⟩ = some (wv u) := hu ▸ RG x.toNat hxr
  have f1 : W2.cell? ⟨b, y.toNat, none⟩ = some (wv v) := hv ▸ RG y.toNat hyr
  have q4 : (x.toNat : Int) < 8 := by omega
  have q5 : (y.toNat : Int) < 8 := by omega
  have b8 := s8_b z
  have q6 := w8_i8 z
  have q7 : IntKind.i64.wrap (s8 z) = s8 z := by rw [IntKind.wrap_i64]; omega
  have q8 : IntKind.i64.wrap ((k : Int) + 1 + s8 z) = (k : Int) + 1 + s8 z := by rw [IntKind.wrap_i64]; omega
  have HD1 := Lib.hid hd1
  have HD0 := Lib.hid hd0
  clear fr RG C11 hu hv b8 hd1 hd0
  rcases HO.out with ho | ho | ho | ho
  all_goals
    have hb : bv o = .int .u8 ((o.toNat : Nat) : Int) := rfl
    rw [ho] at hb
    simp only [show ((15 : Nat) : Int) = 15 from rfl, show ((16 : Nat) : Int) = 16 from rfl, show ((17 : Nat) : Int) = 17 from rfl, show ((18 : Nat) : Int) = 18 from rfl] at hb
    rw [hb] at x0 HC
    clear hb ho
    go_upto_region 24 with fail
    clear C8 hw
    go_quiet ((go_at_call 44; exact Calls.quiet_of_same (HC.out _)))
    have HR3 := Lib.hid (HR2.out.drewN nq)
    generalize W2.drewN nq = W3 at *
    clear HC f0 f1 q4 q5 x0 x1 x2 x3 HR2
    cases f with
    | true =>
      have e := HD1.out rfl
      rw [e] at q6 q7 q8
      clear e HD1 HD0
      have x3 : W3.cell? ⟨xb, 3, none⟩ = some (bv z) := cell_blk (blk_get (HR3.out.pull 2 rfl)) 3
      go_upto_region 40 with fail
      have HR4 := HR3
      clear HR3 x3 q6 q7 q8
      obtain ⟨-, D8, -, -, -, -, fr8, -⟩ := df_of HR4.out.tail
      have z8 := fr8 8
      have HR5 := Lib.hid ((d_at HR4.out.up1 ((k : Int) + 1 + dd)).up1)
      clear fr8
      go_upto_region 41 with fail
      generalize World.setCell _ _ _ = HR5w at *
      clear HR4 D8 z8
      rw [← hk] at HR5
      obtain ⟨d0, d1, d2, d3, d4, z0, z1, z2, z3, z4⟩ := zf_of HR5.out
      have HZ := Lib.hid (z_set HR5.out ak0)
      clear HR5
      go_wp2
      exact bodyPost_ret (res3d _ rfl rfl rfl HZ.out) rfl ⟨rfl, HZ.out.tail.up1.tail⟩
    | false =>
      obtain rfl := HD0.out rfl
      clear HD1 HD0
      go_upto_region 40 with fail
      have HR4 := HR3
      clear HR3 q6 q7 q8
      obtain ⟨-, D8, -, -, -, -, fr8, -⟩ := df_of HR4.out.tail
      have z8 := fr8 8
      have HR5 := Lib.hid ((d_at HR4.out.up1 ((k : Int) + 1)).up1)
      clear fr8
      go_upto_region 41 with fail
      generalize World.setCell _ _ _ = HR5w at *
      clear HR4 D8 z8
      rw [← hk, ← Int.add_zero (s.at_ + 1)] at HR5
      obtain ⟨d0, d1, d2, d3, d4, z0, z1, z2, z3, z4⟩ := zf_of HR5.out
      have HZ := Lib.hid (z_set HR5.out ak0)
      clear HR5
      go_wp2
      exact bodyPost_ret (res3d _ rfl rfl rfl HZ.out) rfl ⟨rfl, HZ.out.tail.up1.tail⟩
end Go.Proofs.YtijkkompnfpdeaaGreatDoor
