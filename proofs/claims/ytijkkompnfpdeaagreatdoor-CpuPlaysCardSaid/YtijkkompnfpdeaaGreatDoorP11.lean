/- Cores: a step that turns something: walked. Cores: a step at fault: walked. Images: whether bytes, instructions and images are the same: walked. -/
import Derived.Test.YtijkkompnfpdeaaGreatDoorP10
import Derived.Test.YtijkkompnfpdeaaGreatDoorP02
set_option linter.unusedVariables false
set_option linter.unusedSimpArgs false
namespace Go.Proofs.YtijkkompnfpdeaaGreatDoor
open Go.RowKit Go.Joins Go.Shelf
attribute [local go_sem] Oper.semAt_some

theorem doesC_d {x : I4} {s t : Cs} {d : Int} (h : doesC x s = some (t, d)) (h0 : 0 ≤ s.at_) (h1 : s.at_ < 5000) : -70000 < d ∧ d < 70000 := by
  have b1 := s8_b x.2.2.2
  have b2 := x.2.1.toNat_lt
  have b3 := x.2.2.1.toNat_lt
  unfold doesC at h
  split at h <;> (try split at h) <;> first | (cases h; done) | (obtain ⟨rfl, rfl⟩ := Prod.mk.inj (Option.some.inj h); first | omega | (split <;> omega))
theorem drop3 {w0 w : World} {r : List Thing} {a x y z : Thing} (H : Hp w0 w (a :: x :: y :: z :: r)) : Hp w0 w (a :: r) := ((((H.pull 3 rfl).tail).pull 2 rfl).tail).up1.tail
/-- What is held while an instruction is looked up. -/
structure SD (b xb k : Nat) (x : I4) (W : World) : Prop where
  x0 : W.cell? ⟨xb, 0, none⟩ = some (bv x.1)
  x1 : W.cell? ⟨xb, 1, none⟩ = some (bv x.2.1)
  x2 : W.cell? ⟨xb, 2, none⟩ = some (bv x.2.2.1)
  x3 : W.cell? ⟨xb, 3, none⟩ = some (bv x.2.2.2)
  c8 : W.cell? ⟨b, 8, none⟩ = some (.int .i64 (k : Int))
theorem sd_of {w0 W : World} {r : List Thing} {b xb k : Nat} {c : List I4} {s : Cs} {x : I4} (hk : s.at_ = (k : Int)) (H : Hp w0 W (CR b c s :: XB xb x :: r)) : SD b xb k x W := by
  obtain ⟨rb, C1, -, -, -, -, -⟩ := cf_of H
  exact ⟨cell_blk (blk_get H.tail) 0, cell_blk (blk_get H.tail) 1, cell_blk (blk_get H.tail) 2, cell_blk (blk_get H.tail) 3, hk ▸ C1⟩
set_option maxHeartbeats 16000000 in
set_option maxRecDepth 20000 in
theorem step_do {w0 w : World} {r : List Thing} {b : Nat} {c : List I4} {s : Cs} (ha : s.asked = false) (k : Nat) (hk : s.at_ = (k : Int)) (hlt : k < c.length) (hlen : c.length ≤ 1024) (o x y z : UInt8) (hx : c[k] = (o, x, y, z)) (hik : ik (o, x, y, z) = true) (ho : o.toNat ≤ 20) (hs : s.says.length < 256) (t : Cs) (d : Int) (hd : doesC (o, x, y, z) s = some (t, d)) (H : Hp w0 w (CR b c s :: r)) :
    Calls Tryz.prog 9 #[.pointer (some ⟨b, 0, none⟩)] w fun e w' => e = .returned (stV false ak0 0) ∧ Hp w0 w' (CR b c { t with at_ := t.at_ + (1 + d) } :: r) := by
  have DO := Lib.hid (fun (w1 : World) (ab : Nat) (rr : List Thing) (H : Hp w0 w1 (CR b c s :: AB ab :: rr)) => does_all (s := s) o x y z hik ho (by omega) (by omega) hs H)
  rw [hd] at DO
  have HD := Lib.hid (doesC_d hd (by omega) (by omega))
  have HM := Lib.hid (doesC_mem hd)
  clear hik hs hd
  have HO := Lib.hid ho
  clear ho
  have HR := Lib.hid (r3_new H)
  have hmf : ∀ (fn : Fn) (first cap : Array Value) (w : World), (Instr.makeFunc fn first cap).run Tryz.prog w = .ok (.func fn first cap) w := fun _ _ _ _ => rfl
  go_enter_defers Tryz.func9, Tryz.ntmps9
  go_upto_region 1 with fail
  generalize w.heap.size + 1 + 1 = b4 at *
  generalize w.heap.size + 1 = b3 at *
  generalize w.heap.size = b2 at *
  generalize ((w.alloc _).alloc _).alloc _ = W at *
  obtain ⟨rb, C1, C2, C3, ⟨a, cc, C4, _⟩, C5, C6⟩ := cf_of (HR.out.pull 3 rfl)
  rw [ha] at C3
  rw [hk] at C1
  clear H C5 C6
  have hn2 : decide ((k : Int) < 0) = false := by simp
  have hn3 : decide ((c.length : Int) ≤ (k : Int)) = false := by simp; omega
  go_wp2
  go_quiet (fail)
  go_upto_region 8 with fail
  have HR1 := Lib.hid (HR.out.drewN nq)
  generalize W.drewN nq = W1 at *
  clear HR C1 C2 C3 C4 hn2 hn3 hmf
  obtain ⟨rb', C1, C2, C3, ⟨a', cc', C4, C4'⟩, C5, C6⟩ := cf_of (HR1.out.pull 3 rfl)
  obtain ⟨g, oo, rfl, i0, i1, i2, i3⟩ := ins_cells C4' hlt
  rw [hx] at i0 i1 i2 i3
  rw [hk] at C1
  have hSS : S8 b g oo k c.length cc' (o, x, y, z) W1.drew := ⟨C4, C1, i0, i1, i2, i3⟩
  have hlt' : (k : Int) < (c.length : Int) := by omega
  clear C1 C2 C3 C4 C4' C5 C6 i0 i1 i2 i3
  refine wp_region_S 11 (S8 b g oo k c.length cc' (o, x, y, z)) (by as_aux_lemma => kernel_rfl) ?_
  refine wpAnyS_td (i := 0) (by as_aux_lemma => kernel_rfl) hSS (fun oi hoi => ?_)
  simp only [List.getElem?_toArray, List.getElem?_cons_zero, List.getElem?_cons_succ, Option.some.injEq] at hoi; subst hoi
  refine ⟨?_, by rfl, fun wx hSx => ?_, fun _ _ _ h => step_q (by decide) h, ?_⟩
  rotate_left
  · obtain ⟨s1, s2, s3, s4, s5, s6⟩ := hSx
    go_simp
    try with_reducible rfl
  try simp only [Act.put, List.setIfInBounds_toArray, List.set_cons_zero, List.set_cons_succ]
  refine wpAnyS_td (i := 1) (by as_aux_lemma => kernel_rfl) hSS (fun oi hoi => ?_)
  simp only [List.getElem?_toArray, List.getElem?_cons_zero, List.getElem?_cons_succ, Option.some.injEq] at hoi; subst hoi
  refine ⟨?_, by rfl, fun wx hSx => ?_, fun _ _ _ h => step_q (by decide) h, ?_⟩
  rotate_left
  · obtain ⟨s1, s2, s3, s4, s5, s6⟩ := hSx
    go_simp
    try with_reducible rfl
  try simp only [Act.put, List.setIfInBounds_toArray, List.set_cons_zero, List.set_cons_succ]
  refine wpAnyS_td (i := 2) (by as_aux_lemma => kernel_rfl) hSS (fun oi hoi => ?_)
  simp only [List.getElem?_toArray, List.getElem?_cons_zero, List.getElem?_cons_succ, Option.some.injEq] at hoi; subst hoi
  refine ⟨?_, by rfl, fun wx hSx => ?_, fun _ _ _ h => step_q (by decide) h, ?_⟩
  rotate_left
  · obtain ⟨s1, s2, s3, s4, s5, s6⟩ := hSx
    go_simp
    try with_reducible rfl
  try simp only [Act.put, List.setIfInBounds_toArray, List.set_cons_zero, List.set_cons_succ]
  refine wpAnyS_td (i := 3) (by as_aux_lemma => kernel_rfl) hSS (fun oi hoi => ?_)
  simp only [List.getElem?_toArray, List.getElem?_cons_zero, List.getElem?_cons_succ, Option.some.injEq] at hoi; subst hoi
  refine ⟨?_, by rfl, fun wx hSx => ?_, fun _ _ _ h => step_q (by decide) h, ?_⟩
  rotate_left
  · obtain ⟨s1, s2, s3, s4, s5, s6⟩ := hSx
    go_simp
    try with_reducible rfl
  try simp only [Act.put, List.setIfInBounds_toArray, List.set_cons_zero, List.set_cons_succ]
  refine wpAnyS_td (i := 4) (by as_aux_lemma => kernel_rfl) hSS (fun oi hoi => ?_)
  simp only [List.getElem?_toArray, List.getElem?_cons_zero, List.getElem?_cons_succ, Option.some.injEq] at hoi; subst hoi
  refine ⟨?_, by rfl, fun wx hSx => ?_, fun _ _ _ h => step_q (by decide) h, ?_⟩
  rotate_left
  · obtain ⟨s1, s2, s3, s4, s5, s6⟩ := hSx
    go_simp
    try with_reducible rfl
  try simp only [Act.put, List.setIfInBounds_toArray, List.set_cons_zero, List.set_cons_succ]
  refine wpAnyS_td (i := 5) (by as_aux_lemma => kernel_rfl) hSS (fun oi hoi => ?_)
  simp only [List.getElem?_toArray, List.getElem?_cons_zero, List.getElem?_cons_succ, Option.some.injEq] at hoi; subst hoi
  refine ⟨?_, by rfl, fun wx hSx => ?_, fun _ _ _ h => step_q (by decide) h, ?_⟩
  rotate_left
  · obtain ⟨s1, s2, s3, s4, s5, s6⟩ := hSx
    go_simp
    try with_reducible rfl
  try simp only [Act.put, List.setIfInBounds_toArray, List.set_cons_zero, List.set_cons_succ]
  refine wpAnyS_td (i := 6) (by as_aux_lemma => kernel_rfl) hSS (fun oi hoi => ?_)
  simp only [List.getElem?_toArray, List.getElem?_cons_zero, List.getElem?_cons_succ, Option.some.injEq] at hoi; subst hoi
  refine ⟨?_, by rfl, fun wx hSx => ?_, fun _ _ _ h => step_q (by decide) h, ?_⟩
  rotate_left
  · obtain ⟨s1, s2, s3, s4, s5, s6⟩ := hSx
    go_simp
    try with_reducible rfl
  try simp only [Act.put, List.setIfInBounds_toArray, List.set_cons_zero, List.set_cons_succ]
  refine wpAnyS_td (i := 7) (by as_aux_lemma => kernel_rfl) hSS (fun oi hoi => ?_)
  simp only [List.getElem?_toArray, List.getElem?_cons_zero, List.getElem?_cons_succ, Option.some.injEq] at hoi; subst hoi
  refine ⟨?_, by rfl, fun wx hSx => ?_, fun _ _ _ h => step_q (by decide) h, ?_⟩
  rotate_left
  · obtain ⟨s1, s2, s3, s4, s5, s6⟩ := hSx
    go_simp
    try with_reducible rfl
  try simp only [Act.put, List.setIfInBounds_toArray, List.set_cons_zero, List.set_cons_succ]
  refine wpAnyS_td (i := 8) (by as_aux_lemma => kernel_rfl) hSS (fun oi hoi => ?_)
  simp only [List.getElem?_toArray, List.getElem?_cons_zero, List.getElem?_cons_succ, Option.some.injEq] at hoi; subst hoi
  refine ⟨?_, by rfl, fun wx hSx => ?_, fun _ _ _ h => step_q (by decide) h, ?_⟩
  rotate_left
  · obtain ⟨s1, s2, s3, s4, s5, s6⟩ := hSx
    go_simp
    try with_reducible rfl
  try simp only [Act.put, List.setIfInBounds_toArray, List.set_cons_zero, List.set_cons_succ]
  refine wpAnyS_td (i := 9) (by as_aux_lemma => kernel_rfl) hSS (fun oi hoi => ?_)
  simp only [List.getElem?_toArray, List.getElem?_cons_zero, List.getElem?_cons_succ, Option.some.injEq] at hoi; subst hoi
  refine ⟨?_, by rfl, fun wx hSx => ?_, fun _ _ _ h => step_q (by decide) h, ?_⟩
  rotate_left
  · obtain ⟨s1, s2, s3, s4, s5, s6⟩ := hSx
    go_simp
    try with_reducible rfl
  try simp only [Act.put, List.setIfInBounds_toArray, List.set_cons_zero, List.set_cons_succ]
  refine wpAnyS_one (i := 10) (by as_aux_lemma => kernel_rfl) ?_
  intro oi hoi K hK
  simp only [List.getElem?_toArray, List.getElem?_cons_zero, List.getElem?_cons_succ, Option.some.injEq] at hoi; subst hoi
  go_simp
  refine hK.out _ _ (fun _ => hSS.alloc _) ?_
  clear hK K
  try simp only [Act.put, List.setIfInBounds_toArray, List.set_cons_zero, List.set_cons_succ]
  refine wpAnyS_one (i := 11) (by as_aux_lemma => kernel_rfl) ?_
  intro oi hoi K hK
  simp only [List.getElem?_toArray, List.getElem?_cons_zero, List.getElem?_cons_succ, Option.some.injEq] at hoi; subst hoi
  go_simp
  refine hK.out _ _ (fun h => absurd h (by decide)) ?_
  clear hK K
  try simp only [Act.put, List.setIfInBounds_toArray, List.set_cons_zero, List.set_cons_succ]
  refine wpAnyS_done (by as_aux_lemma => kernel_rfl) ?_ _
  clear hSS hlt'
  have HR2 := Lib.hid (((((blk_new HR1.out (.cells #[bv o, bv x, bv y, bv z] 26)).drew.pull 4 rfl).pull 4 rfl).pull 4 rfl).pull 4 rfl)
  generalize W1.heap.size = xb at *
  generalize (W1.alloc _).drew = W2 at *
  clear HR1
  have x0 : W2.cell? ⟨xb, 0, none⟩ = some (bv o) := cell_blk (blk_get (HR2.out.pull 4 rfl)) 0
  have x1 : W2.cell? ⟨xb, 1, none⟩ = some (bv x) := cell_blk (blk_get (HR2.out.pull 4 rfl)) 1
  have h22 : ¬ ((o.toNat : Int) = 22) := by have := HO.out; omega
  have h21 : ¬ ((o.toNat : Int) = 21) := by have := HO.out; omega
  go_upto_region 10 with fail
  clear x0 x1 h22 h21
  refine wp_region_S 16 (SD b xb k (o, x, y, z)) (by as_aux_lemma => kernel_rfl) ?_
  have hSS : SD b xb k (o, x, y, z) W2.drew := sd_of hk ((HR2.out.drew.pull 4 rfl).pull 4 rfl)
  refine wpAnyS_td (i := 0) (by as_aux_lemma => kernel_rfl) hSS (fun oi hoi => ?_)
  simp only [List.getElem?_toArray, List.getElem?_cons_zero, List.getElem?_cons_succ, Option.some.injEq] at hoi; subst hoi
  refine ⟨?_, by rfl, fun wx hSx => ?_, fun _ _ _ h => step_q (by decide) h, ?_⟩
  rotate_left
  · obtain ⟨s0, s1, s2, s3, s4⟩ := hSx
    go_simp
    try with_reducible rfl
  try simp only [Act.put, List.setIfInBounds_toArray, List.set_cons_zero, List.set_cons_succ]
  refine wpAnyS_td (i := 1) (by as_aux_lemma => kernel_rfl) hSS (fun oi hoi => ?_)
  simp only [List.getElem?_toArray, List.getElem?_cons_zero, List.getElem?_cons_succ, Option.some.injEq] at hoi; subst hoi
  refine ⟨?_, by rfl, fun wx hSx => ?_, fun _ _ _ h => step_q (by decide) h, ?_⟩
  rotate_left
  · obtain ⟨s0, s1, s2, s3, s4⟩ := hSx
    go_simp
    try with_reducible rfl
  try simp only [Act.put, List.setIfInBounds_toArray, List.set_cons_zero, List.set_cons_succ]
  refine wpAnyS_td (i := 2) (by as_aux_lemma => kernel_rfl) hSS (fun oi hoi => ?_)
  simp only [List.getElem?_toArray, List.getElem?_cons_zero, List.getElem?_cons_succ, Option.some.injEq] at hoi; subst hoi
  refine ⟨?_, by rfl, fun wx hSx => ?_, fun _ _ _ h => step_q (by decide) h, ?_⟩
  rotate_left
  · obtain ⟨s0, s1, s2, s3, s4⟩ := hSx
    go_simp
    try with_reducible rfl
  try simp only [Act.put, List.setIfInBounds_toArray, List.set_cons_zero, List.set_cons_succ]
  refine wpAnyS_td (i := 3) (by as_aux_lemma => kernel_rfl) hSS (fun oi hoi => ?_)
  simp only [List.getElem?_toArray, List.getElem?_cons_zero, List.getElem?_cons_succ, Option.some.injEq] at hoi; subst hoi
  refine ⟨?_, by rfl, fun wx hSx => ?_, fun _ _ _ h => step_q (by decide) h, ?_⟩
  rotate_left
  · obtain ⟨s0, s1, s2, s3, s4⟩ := hSx
    go_simp
    try with_reducible rfl
  try simp only [Act.put, List.setIfInBounds_toArray, List.set_cons_zero, List.set_cons_succ]
  refine wpAnyS_td (i := 5) (by as_aux_lemma => kernel_rfl) hSS (fun oi hoi => ?_)
  simp only [List.getElem?_toArray, List.getElem?_cons_zero, List.getElem?_cons_succ, Option.some.injEq] at hoi; subst hoi
  refine ⟨?_, by rfl, fun wx hSx => ?_, fun _ _ _ h => step_q (by decide) h, ?_⟩
  rotate_left
  · obtain ⟨s0, s1, s2, s3, s4⟩ := hSx
    go_simp
    try with_reducible rfl
  try simp only [Act.put, List.setIfInBounds_toArray, List.set_cons_zero, List.set_cons_succ]
  refine wpAnyS_td (i := 6) (by as_aux_lemma => kernel_rfl) hSS (fun oi hoi => ?_)
  simp only [List.getElem?_toArray, List.getElem?_cons_zero, List.getElem?_cons_succ, Option.some.injEq] at hoi; subst hoi
  refine ⟨?_, by rfl, fun wx hSx => ?_, fun _ _ _ h => step_q (by decide) h, ?_⟩
  rotate_left
  · obtain ⟨s0, s1, s2, s3, s4⟩ := hSx
    go_simp
    try with_reducible rfl
  try simp only [Act.put, List.setIfInBounds_toArray, List.set_cons_zero, List.set_cons_succ]
  refine wpAnyS_td (i := 9) (by as_aux_lemma => kernel_rfl) hSS (fun oi hoi => ?_)
  simp only [List.getElem?_toArray, List.getElem?_cons_zero, List.getElem?_cons_succ, Option.some.injEq] at hoi; subst hoi
  refine ⟨?_, by rfl, fun wx hSx => ?_, fun _ _ _ h => step_q (by decide) h, ?_⟩
  rotate_left
  · obtain ⟨s0, s1, s2, s3, s4⟩ := hSx
    go_simp
    try with_reducible rfl
  try simp only [Act.put, List.setIfInBounds_toArray, List.set_cons_zero, List.set_cons_succ]
  refine wpAnyS_td (i := 10) (by as_aux_lemma => kernel_rfl) hSS (fun oi hoi => ?_)
  simp only [List.getElem?_toArray, List.getElem?_cons_zero, List.getElem?_cons_succ, Option.some.injEq] at hoi; subst hoi
  refine ⟨?_, by rfl, fun wx hSx => ?_, fun _ _ _ h => step_q (by decide) h, ?_⟩
  rotate_left
  · obtain ⟨s0, s1, s2, s3, s4⟩ := hSx
    go_simp
    try with_reducible rfl
  try simp only [Act.put, List.setIfInBounds_toArray, List.set_cons_zero, List.set_cons_succ]
  refine wpAnyS_one (i := 4) (by as_aux_lemma => kernel_rfl) ?_
  intro oi hoi K hK
  simp only [List.getElem?_toArray, List.getElem?_cons_zero, List.getElem?_cons_succ, Option.some.injEq] at hoi; subst hoi
  go_simp
  go_at_call 35
  refine (rules_c HR2.out.drew).mono ?_; rintro e w3 ⟨rfl, H3⟩
  have LK : (Instr.lookup 86 (.map (some (W2.drew.heap.size + 1))) (bv o) false).run Tryz.prog w3 = .ok (.agg #[.func (.func (rF o.toNat)) #[] (rC W2.drew.heap.size o.toNat)]) w3 := tab_look und_rules und_op H3 (bv o) o.toNat rfl _ (rlist_get _ HO.out)
  have H4 := Lib.hid (((H3.pull 5 rfl).pull 2 rfl).up1)
  clear hSS HR2
  have hSS : SD b xb k (o, x, y, z) w3 := sd_of hk ((H4.out.pull 6 rfl).up1)
  refine hK.out _ _ (fun _ => hSS) ?_
  clear hK K
  try simp only [Act.put, List.setIfInBounds_toArray, List.set_cons_zero, List.set_cons_succ]
  clear H3
  have DW := Lib.hid (DO.out w3 _ _ H4.out)
  generalize W2.drew.heap.size = ab at *
  have EN := enters_rF o.toNat
  generalize rF o.toNat = fF at *
  generalize rC ab o.toNat = cF at *
  refine wpAnyS_one (i := 7) (by as_aux_lemma => kernel_rfl) ?_
  intro oi hoi K hK
  simp only [List.getElem?_toArray, List.getElem?_cons_zero, List.getElem?_cons_succ, Option.some.injEq] at hoi; subst hoi
  go_simp
  refine hK.out _ _ (fun _ => hSS) ?_
  clear hK K
  try simp only [Act.put, List.setIfInBounds_toArray, List.set_cons_zero, List.set_cons_succ]
  refine wpAnyS_one (i := 8) (by as_aux_lemma => kernel_rfl) ?_
  intro oi hoi K hK
  simp only [List.getElem?_toArray, List.getElem?_cons_zero, List.getElem?_cons_succ, Option.some.injEq] at hoi; subst hoi
  go_simp
  refine hK.out _ _ (fun _ => hSS) ?_
  clear hK K
  try simp only [Act.put, List.setIfInBounds_toArray, List.set_cons_zero, List.set_cons_succ]
  refine wpAnyS_one (i := 11) (by as_aux_lemma => kernel_rfl) ?_
  intro oi hoi K hK
  simp only [List.getElem?_toArray, List.getElem?_cons_zero, List.getElem?_cons_succ, Option.some.injEq] at hoi; subst hoi
  go_simp
  refine DW.out.mono ?_; rintro e w4 ⟨rfl, H5⟩
  have H6 := Lib.hid (((((H5.pull 6 rfl).up1.pull 6 rfl).pull 6 rfl).pull 6 rfl))
  clear H4 DW H5 hSS
  have hkt : t.at_ = (k : Int) := HM.out.2.2.1.trans hk
  have hSS : SD b xb k (o, x, y, z) w4 := sd_of hkt (H6.out.pull 3 rfl |>.pull 4 rfl |>.up1)
  refine hK.out _ _ (fun _ => hSS) ?_
  clear hK K
  try simp only [Act.put, List.setIfInBounds_toArray, List.set_cons_zero, List.set_cons_succ]
  have q1 : IntKind.i64.wrap (1 + d) = 1 + d := by have := HD.out; rw [IntKind.wrap_i64]; omega
  have q2 : IntKind.i64.wrap ((k : Int) + (1 + d)) = (k : Int) + (1 + d) := by have := HD.out; rw [IntKind.wrap_i64]; omega
  refine wpAnyS_td (i := 12) (by as_aux_lemma => kernel_rfl) hSS (fun oi hoi => ?_)
  simp only [List.getElem?_toArray, List.getElem?_cons_zero, List.getElem?_cons_succ, Option.some.injEq] at hoi; subst hoi
  refine ⟨?_, by rfl, fun wx hSx => ?_, fun _ _ _ h => step_q (by decide) h, ?_⟩
  rotate_left
  · obtain ⟨s0, s1, s2, s3, s4⟩ := hSx
    go_simp
    try with_reducible rfl
  try simp only [Act.put, List.setIfInBounds_toArray, List.set_cons_zero, List.set_cons_succ]
  refine wpAnyS_td (i := 13) (by as_aux_lemma => kernel_rfl) hSS (fun oi hoi => ?_)
  simp only [List.getElem?_toArray, List.getElem?_cons_zero, List.getElem?_cons_succ, Option.some.injEq] at hoi; subst hoi
  refine ⟨?_, by rfl, fun wx hSx => ?_, fun _ _ _ h => step_q (by decide) h, ?_⟩
  rotate_left
  · obtain ⟨s0, s1, s2, s3, s4⟩ := hSx
    go_simp
    try with_reducible rfl
  try simp only [Act.put, List.setIfInBounds_toArray, List.set_cons_zero, List.set_cons_succ]
  refine wpAnyS_td (i := 14) (by as_aux_lemma => kernel_rfl) hSS (fun oi hoi => ?_)
  simp only [List.getElem?_toArray, List.getElem?_cons_zero, List.getElem?_cons_succ, Option.some.injEq] at hoi; subst hoi
  refine ⟨?_, by rfl, fun wx hSx => ?_, fun _ _ _ h => step_q (by decide) h, ?_⟩
  rotate_left
  · obtain ⟨s0, s1, s2, s3, s4⟩ := hSx
    go_simp
    try with_reducible rfl
  try simp only [Act.put, List.setIfInBounds_toArray, List.set_cons_zero, List.set_cons_succ]
  refine wpAnyS_td (i := 15) (by as_aux_lemma => kernel_rfl) hSS (fun oi hoi => ?_)
  simp only [List.getElem?_toArray, List.getElem?_cons_zero, List.getElem?_cons_succ, Option.some.injEq] at hoi; subst hoi
  refine ⟨?_, by rfl, fun wx hSx => ?_, fun _ _ _ h => step_q (by decide) h, ?_⟩
  rotate_left
  · obtain ⟨s0, s1, s2, s3, s4⟩ := hSx
    go_simp
    try with_reducible rfl
  try simp only [Act.put, List.setIfInBounds_toArray, List.set_cons_zero, List.set_cons_succ]
  obtain ⟨rb6, C1, -, -, -, C5, -⟩ := cf_of (H6.out.pull 3 rfl)
  have C5' := C5 8
  clear C5
  have HR5 := Lib.hid (cr_at H6.out ((k : Int) + (1 + d)))
  refine wpAnyS_one (i := 16) (by as_aux_lemma => kernel_rfl) ?_
  intro oi hoi K hK
  simp only [List.getElem?_toArray, List.getElem?_cons_zero, List.getElem?_cons_succ, Option.some.injEq] at hoi; subst hoi
  go_simp
  refine hK.out _ _ (fun h => absurd h (by decide)) ?_
  clear hK K
  try simp only [Act.put, List.setIfInBounds_toArray, List.set_cons_zero, List.set_cons_succ]
  refine wpAnyS_done (by as_aux_lemma => kernel_rfl) ?_ _
  clear hSS C1 C5' q1 q2 H6
  rw [← hkt] at HR5
  go_upto_region 11 with fail
  rw [hkt] at HR5
  generalize w4.setCell _ _ = W5 at *
  rw [← hkt] at HR5
  obtain ⟨c2, d0, d1, d2, d3, d4, c4, z2, z30, z31, z32, z33, z34, z4, n1, n2, n3, n4, n5, n6⟩ := r3_facts HR5.out
  have HZ := Lib.hid (r3_set (y := false) (d := ak0) (f := 0) HR5.out)
  clear HR5
  go_wp2
  go_region
  go_wp2
  refine leaves_cons (f := 33) (args := #[.pointer (some ⟨b2, 0, none⟩), .pointer (some ⟨b3, 0, none⟩), .pointer (some ⟨b4, 0, none⟩)]) (by simp) (by simp [go_sem]) ?_
  refine (catch_r _ _ _ _).mono ?_
  rintro e u' w'' ⟨rfl, rfl, rfl⟩
  exact ⟨_, res3 _ rfl rfl rfl HZ.out.drew, rfl, drop3 HZ.out.drew.tail.tail.tail⟩
end Go.Proofs.YtijkkompnfpdeaaGreatDoor
set_option linter.unusedVariables false
set_option linter.unusedSimpArgs false
namespace Go.Proofs.YtijkkompnfpdeaaGreatDoor
open Go.RowKit Go.Joins Go.Shelf
attribute [local go_sem] Oper.semAt_some

set_option maxHeartbeats 16000000 in
set_option maxRecDepth 20000 in
theorem step_fault {w0 w : World} {r : List Thing} {b : Nat} {c : List I4} {s : Cs} (ha : s.asked = false) (k : Nat) (hk : s.at_ = (k : Int)) (hlt : k < c.length) (hlen : c.length ≤ 1024) (o x y z : UInt8) (hx : c[k] = (o, x, y, z)) (hik : ik (o, x, y, z) = true) (ho : o.toNat ≤ 20) (hs : s.says.length < 256) (hd : doesC (o, x, y, z) s = none) (H : Hp w0 w (CR b c s :: r)) :
    Calls Tryz.prog 9 #[.pointer (some ⟨b, 0, none⟩)] w fun e w' => e = .returned (stV false ak0 15) ∧ Hp w0 w' (CR b c s :: r) := by
  have DO := Lib.hid (fun (w1 : World) (ab : Nat) (rr : List Thing) (H : Hp w0 w1 (CR b c s :: AB ab :: rr)) => does_all (s := s) o x y z hik ho (by omega) (by omega) hs H)
  rw [hd] at DO
  clear hik hs hd
  have HO := Lib.hid ho
  clear ho
  have HR := Lib.hid (r3_new H)
  have hmf : ∀ (fn : Fn) (first cap : Array Value) (w : World), (Instr.makeFunc fn first cap).run Tryz.prog w = .ok (.func fn first cap) w := fun _ _ _ _ => rfl
  go_enter_defers Tryz.func9, Tryz.ntmps9
  go_upto_region 1 with fail
  generalize w.heap.size + 1 + 1 = b4 at *
  generalize w.heap.size + 1 = b3 at *
  generalize w.heap.size = b2 at *
  generalize ((w.alloc _).alloc _).alloc _ = W at *
  obtain ⟨rb, C1, C2, C3, ⟨a, cc, C4, _⟩, C5, C6⟩ := cf_of (HR.out.pull 3 rfl)
  rw [ha] at C3
  rw [hk] at C1
  clear H C5 C6
  have hn2 : decide ((k : Int) < 0) = false := by simp
  have hn3 : decide ((c.length : Int) ≤ (k : Int)) = false := by simp; omega
  go_wp2
  go_quiet (fail)
  go_upto_region 8 with fail
  have HR1 := Lib.hid (HR.out.drewN nq)
  generalize W.drewN nq = W1 at *
  clear HR C1 C2 C3 C4 hn2 hn3 hmf
  obtain ⟨rb', C1, C2, C3, ⟨a', cc', C4, C4'⟩, C5, C6⟩ := cf_of (HR1.out.pull 3 rfl)
  obtain ⟨g, oo, rfl, i0, i1, i2, i3⟩ := ins_cells C4' hlt
  rw [hx] at i0 i1 i2 i3
  rw [hk] at C1
  have hSS : S8 b g oo k c.length cc' (o, x, y, z) W1.drew := ⟨C4, C1, i0, i1, i2, i3⟩
  have hlt' : (k : Int) < (c.length : Int) := by omega
  clear C1 C2 C3 C4 C4' C5 C6 i0 i1 i2 i3
  refine wp_region_S 11 (S8 b g oo k c.length cc' (o, x, y, z)) (by as_aux_lemma => kernel_rfl) ?_
  refine wpAnyS_td (i := 0) (by as_aux_lemma => kernel_rfl) hSS (fun oi hoi => ?_)
  simp only [List.getElem?_toArray, List.getElem?_cons_zero, List.getElem?_cons_succ, Option.some.injEq] at hoi; subst hoi
  refine ⟨?_, by rfl, fun wx hSx => ?_, fun _ _ _ h => step_q (by decide) h, ?_⟩
  rotate_left
  · obtain ⟨s1, s2, s3, s4, s5, s6⟩ := hSx
    go_simp
    try with_reducible rfl
  try simp only [Act.put, List.setIfInBounds_toArray, List.set_cons_zero, List.set_cons_succ]
  refine wpAnyS_td (i := 1) (by as_aux_lemma => kernel_rfl) hSS (fun oi hoi => ?_)
  simp only [List.getElem?_toArray, List.getElem?_cons_zero, List.getElem?_cons_succ, Option.some.injEq] at hoi; subst hoi
  refine ⟨?_, by rfl, fun wx hSx => ?_, fun _ _ _ h => step_q (by decide) h, ?_⟩
  rotate_left
  · obtain ⟨s1, s2, s3, s4, s5, s6⟩ := hSx
    go_simp
    try with_reducible rfl
  try simp only [Act.put, List.setIfInBounds_toArray, List.set_cons_zero, List.set_cons_succ]
  refine wpAnyS_td (i := 2) (by as_aux_lemma => kernel_rfl) hSS (fun oi hoi => ?_)
  simp only [List.getElem?_toArray, List.getElem?_cons_zero, List.getElem?_cons_succ, Option.some.injEq] at hoi; subst hoi
  refine ⟨?_, by rfl, fun wx hSx => ?_, fun _ _ _ h => step_q (by decide) h, ?_⟩
  rotate_left
  · obtain ⟨s1, s2, s3, s4, s5, s6⟩ := hSx
    go_simp
    try with_reducible rfl
  try simp only [Act.put, List.setIfInBounds_toArray, List.set_cons_zero, List.set_cons_succ]
  refine wpAnyS_td (i := 3) (by as_aux_lemma => kernel_rfl) hSS (fun oi hoi => ?_)
  simp only [List.getElem?_toArray, List.getElem?_cons_zero, List.getElem?_cons_succ, Option.some.injEq] at hoi; subst hoi
  refine ⟨?_, by rfl, fun wx hSx => ?_, fun _ _ _ h => step_q (by decide) h, ?_⟩
  rotate_left
  · obtain ⟨s1, s2, s3, s4, s5, s6⟩ := hSx
    go_simp
    try with_reducible rfl
  try simp only [Act.put, List.setIfInBounds_toArray, List.set_cons_zero, List.set_cons_succ]
  refine wpAnyS_td (i := 4) (by as_aux_lemma => kernel_rfl) hSS (fun oi hoi => ?_)
  simp only [List.getElem?_toArray, List.getElem?_cons_zero, List.getElem?_cons_succ, Option.some.injEq] at hoi; subst hoi
  refine ⟨?_, by rfl, fun wx hSx => ?_, fun _ _ _ h => step_q (by decide) h, ?_⟩
  rotate_left
  · obtain ⟨s1, s2, s3, s4, s5, s6⟩ := hSx
    go_simp
    try with_reducible rfl
  try simp only [Act.put, List.setIfInBounds_toArray, List.set_cons_zero, List.set_cons_succ]
  refine wpAnyS_td (i := 5) (by as_aux_lemma => kernel_rfl) hSS (fun oi hoi => ?_)
  simp only [List.getElem?_toArray, List.getElem?_cons_zero, List.getElem?_cons_succ, Option.some.injEq] at hoi; subst hoi
  refine ⟨?_, by rfl, fun wx hSx => ?_, fun _ _ _ h => step_q (by decide) h, ?_⟩
  rotate_left
  · obtain ⟨s1, s2, s3, s4, s5, s6⟩ := hSx
    go_simp
    try with_reducible rfl
  try simp only [Act.put, List.setIfInBounds_toArray, List.set_cons_zero, List.set_cons_succ]
  refine wpAnyS_td (i := 6) (by as_aux_lemma => kernel_rfl) hSS (fun oi hoi => ?_)
  simp only [List.getElem?_toArray, List.getElem?_cons_zero, List.getElem?_cons_succ, Option.some.injEq] at hoi; subst hoi
  refine ⟨?_, by rfl, fun wx hSx => ?_, fun _ _ _ h => step_q (by decide) h, ?_⟩
  rotate_left
  · obtain ⟨s1, s2, s3, s4, s5, s6⟩ := hSx
    go_simp
    try with_reducible rfl
  try simp only [Act.put, List.setIfInBounds_toArray, List.set_cons_zero, List.set_cons_succ]
  refine wpAnyS_td (i := 7) (by as_aux_lemma => kernel_rfl) hSS (fun oi hoi => ?_)
  simp only [List.getElem?_toArray, List.getElem?_cons_zero, List.getElem?_cons_succ, Option.some.injEq] at hoi; subst hoi
  refine ⟨?_, by rfl, fun wx hSx => ?_, fun _ _ _ h => step_q (by decide) h, ?_⟩
  rotate_left
  · obtain ⟨s1, s2, s3, s4, s5, s6⟩ := hSx
    go_simp
    try with_reducible rfl
  try simp only [Act.put, List.setIfInBounds_toArray, List.set_cons_zero, List.set_cons_succ]
  refine wpAnyS_td (i := 8) (by as_aux_lemma => kernel_rfl) hSS (fun oi hoi => ?_)
  simp only [List.getElem?_toArray, List.getElem?_cons_zero, List.getElem?_cons_succ, Option.some.injEq] at hoi; subst hoi
  refine ⟨?_, by rfl, fun wx hSx => ?_, fun _ _ _ h => step_q (by decide) h, ?_⟩
  rotate_left
  · obtain ⟨s1, s2, s3, s4, s5, s6⟩ := hSx
    go_simp
    try with_reducible rfl
  try simp only [Act.put, List.setIfInBounds_toArray, List.set_cons_zero, List.set_cons_succ]
  refine wpAnyS_td (i := 9) (by as_aux_lemma => kernel_rfl) hSS (fun oi hoi => ?_)
  simp only [List.getElem?_toArray, List.getElem?_cons_zero, List.getElem?_cons_succ, Option.some.injEq] at hoi; subst hoi
  refine ⟨?_, by rfl, fun wx hSx => ?_, fun _ _ _ h => step_q (by decide) h, ?_⟩
  rotate_left
  · obtain ⟨s1, s2, s3, s4, s5, s6⟩ := hSx
    go_simp
    try with_reducible rfl
  try simp only [Act.put, List.setIfInBounds_toArray, List.set_cons_zero, List.set_cons_succ]
  refine wpAnyS_one (i := 10) (by as_aux_lemma => kernel_rfl) ?_
  intro oi hoi K hK
  simp only [List.getElem?_toArray, List.getElem?_cons_zero, List.getElem?_cons_succ, Option.some.injEq] at hoi; subst hoi
  go_simp
  refine hK.out _ _ (fun _ => hSS.alloc _) ?_
  clear hK K
  try simp only [Act.put, List.setIfInBounds_toArray, List.set_cons_zero, List.set_cons_succ]
  refine wpAnyS_one (i := 11) (by as_aux_lemma => kernel_rfl) ?_
  intro oi hoi K hK
  simp only [List.getElem?_toArray, List.getElem?_cons_zero, List.getElem?_cons_succ, Option.some.injEq] at hoi; subst hoi
  go_simp
  refine hK.out _ _ (fun h => absurd h (by decide)) ?_
  clear hK K
  try simp only [Act.put, List.setIfInBounds_toArray, List.set_cons_zero, List.set_cons_succ]
  refine wpAnyS_done (by as_aux_lemma => kernel_rfl) ?_ _
  clear hSS hlt'
  have HR2 := Lib.hid (((((blk_new HR1.out (.cells #[bv o, bv x, bv y, bv z] 26)).drew.pull 4 rfl).pull 4 rfl).pull 4 rfl).pull 4 rfl)
  generalize W1.heap.size = xb at *
  generalize (W1.alloc _).drew = W2 at *
  clear HR1
  have x0 : W2.cell? ⟨xb, 0, none⟩ = some (bv o) := cell_blk (blk_get (HR2.out.pull 4 rfl)) 0
  have x1 : W2.cell? ⟨xb, 1, none⟩ = some (bv x) := cell_blk (blk_get (HR2.out.pull 4 rfl)) 1
  have h22 : ¬ ((o.toNat : Int) = 22) := by have := HO.out; omega
  have h21 : ¬ ((o.toNat : Int) = 21) := by have := HO.out; omega
  go_upto_region 10 with fail
  clear x0 x1 h22 h21
  refine wp_region_S 16 (SD b xb k (o, x, y, z)) (by as_aux_lemma => kernel_rfl) ?_
  have hSS : SD b xb k (o, x, y, z) W2.drew := sd_of hk ((HR2.out.drew.pull 4 rfl).pull 4 rfl)
  refine wpAnyS_td (i := 0) (by as_aux_lemma => kernel_rfl) hSS (fun oi hoi => ?_)
  simp only [List.getElem?_toArray, List.getElem?_cons_zero, List.getElem?_cons_succ, Option.some.injEq] at hoi; subst hoi
  refine ⟨?_, by rfl, fun wx hSx => ?_, fun _ _ _ h => step_q (by decide) h, ?_⟩
  rotate_left
  · obtain ⟨s0, s1, s2, s3, s4⟩ := hSx
    go_simp
    try with_reducible rfl
  try simp only [Act.put, List.setIfInBounds_toArray, List.set_cons_zero, List.set_cons_succ]
  refine wpAnyS_td (i := 1) (by as_aux_lemma => kernel_rfl) hSS (fun oi hoi => ?_)
  simp only [List.getElem?_toArray, List.getElem?_cons_zero, List.getElem?_cons_succ, Option.some.injEq] at hoi; subst hoi
  refine ⟨?_, by rfl, fun wx hSx => ?_, fun _ _ _ h => step_q (by decide) h, ?_⟩
  rotate_left
  · obtain ⟨s0, s1, s2, s3, s4⟩ := hSx
    go_simp
    try with_reducible rfl
  try simp only [Act.put, List.setIfInBounds_toArray, List.set_cons_zero, List.set_cons_succ]
  refine wpAnyS_td (i := 2) (by as_aux_lemma => kernel_rfl) hSS (fun oi hoi => ?_)
  simp only [List.getElem?_toArray, List.getElem?_cons_zero, List.getElem?_cons_succ, Option.some.injEq] at hoi; subst hoi
  refine ⟨?_, by rfl, fun wx hSx => ?_, fun _ _ _ h => step_q (by decide) h, ?_⟩
  rotate_left
  · obtain ⟨s0, s1, s2, s3, s4⟩ := hSx
    go_simp
    try with_reducible rfl
  try simp only [Act.put, List.setIfInBounds_toArray, List.set_cons_zero, List.set_cons_succ]
  refine wpAnyS_td (i := 3) (by as_aux_lemma => kernel_rfl) hSS (fun oi hoi => ?_)
  simp only [List.getElem?_toArray, List.getElem?_cons_zero, List.getElem?_cons_succ, Option.some.injEq] at hoi; subst hoi
  refine ⟨?_, by rfl, fun wx hSx => ?_, fun _ _ _ h => step_q (by decide) h, ?_⟩
  rotate_left
  · obtain ⟨s0, s1, s2, s3, s4⟩ := hSx
    go_simp
    try with_reducible rfl
  try simp only [Act.put, List.setIfInBounds_toArray, List.set_cons_zero, List.set_cons_succ]
  refine wpAnyS_td (i := 5) (by as_aux_lemma => kernel_rfl) hSS (fun oi hoi => ?_)
  simp only [List.getElem?_toArray, List.getElem?_cons_zero, List.getElem?_cons_succ, Option.some.injEq] at hoi; subst hoi
  refine ⟨?_, by rfl, fun wx hSx => ?_, fun _ _ _ h => step_q (by decide) h, ?_⟩
  rotate_left
  · obtain ⟨s0, s1, s2, s3, s4⟩ := hSx
    go_simp
    try with_reducible rfl
  try simp only [Act.put, List.setIfInBounds_toArray, List.set_cons_zero, List.set_cons_succ]
  refine wpAnyS_td (i := 6) (by as_aux_lemma => kernel_rfl) hSS (fun oi hoi => ?_)
  simp only [List.getElem?_toArray, List.getElem?_cons_zero, List.getElem?_cons_succ, Option.some.injEq] at hoi; subst hoi
  refine ⟨?_, by rfl, fun wx hSx => ?_, fun _ _ _ h => step_q (by decide) h, ?_⟩
  rotate_left
  · obtain ⟨s0, s1, s2, s3, s4⟩ := hSx
    go_simp
    try with_reducible rfl
  try simp only [Act.put, List.setIfInBounds_toArray, List.set_cons_zero, List.set_cons_succ]
  refine wpAnyS_td (i := 9) (by as_aux_lemma => kernel_rfl) hSS (fun oi hoi => ?_)
  simp only [List.getElem?_toArray, List.getElem?_cons_zero, List.getElem?_cons_succ, Option.some.injEq] at hoi; subst hoi
  refine ⟨?_, by rfl, fun wx hSx => ?_, fun _ _ _ h => step_q (by decide) h, ?_⟩
  rotate_left
  · obtain ⟨s0, s1, s2, s3, s4⟩ := hSx
    go_simp
    try with_reducible rfl
  try simp only [Act.put, List.setIfInBounds_toArray, List.set_cons_zero, List.set_cons_succ]
  refine wpAnyS_td (i := 10) (by as_aux_lemma => kernel_rfl) hSS (fun oi hoi => ?_)
  simp only [List.getElem?_toArray, List.getElem?_cons_zero, List.getElem?_cons_succ, Option.some.injEq] at hoi; subst hoi
  refine ⟨?_, by rfl, fun wx hSx => ?_, fun _ _ _ h => step_q (by decide) h, ?_⟩
  rotate_left
  · obtain ⟨s0, s1, s2, s3, s4⟩ := hSx
    go_simp
    try with_reducible rfl
  try simp only [Act.put, List.setIfInBounds_toArray, List.set_cons_zero, List.set_cons_succ]
  refine wpAnyS_one (i := 4) (by as_aux_lemma => kernel_rfl) ?_
  intro oi hoi K hK
  simp only [List.getElem?_toArray, List.getElem?_cons_zero, List.getElem?_cons_succ, Option.some.injEq] at hoi; subst hoi
  go_simp
  go_at_call 35
  refine (rules_c HR2.out.drew).mono ?_; rintro e w3 ⟨rfl, H3⟩
  have LK : (Instr.lookup 86 (.map (some (W2.drew.heap.size + 1))) (bv o) false).run Tryz.prog w3 = .ok (.agg #[.func (.func (rF o.toNat)) #[] (rC W2.drew.heap.size o.toNat)]) w3 := tab_look und_rules und_op H3 (bv o) o.toNat rfl _ (rlist_get _ HO.out)
  have H4 := Lib.hid (((H3.pull 5 rfl).pull 2 rfl).up1)
  clear hSS HR2
  have hSS : SD b xb k (o, x, y, z) w3 := sd_of hk ((H4.out.pull 6 rfl).up1)
  refine hK.out _ _ (fun _ => hSS) ?_
  clear hK K
  try simp only [Act.put, List.setIfInBounds_toArray, List.set_cons_zero, List.set_cons_succ]
  clear H3
  have DW := Lib.hid (DO.out w3 _ _ H4.out)
  generalize W2.drew.heap.size = ab at *
  have EN := enters_rF o.toNat
  generalize rF o.toNat = fF at *
  generalize rC ab o.toNat = cF at *
  refine wpAnyS_one (i := 7) (by as_aux_lemma => kernel_rfl) ?_
  intro oi hoi K hK
  simp only [List.getElem?_toArray, List.getElem?_cons_zero, List.getElem?_cons_succ, Option.some.injEq] at hoi; subst hoi
  go_simp
  refine hK.out _ _ (fun _ => hSS) ?_
  clear hK K
  try simp only [Act.put, List.setIfInBounds_toArray, List.set_cons_zero, List.set_cons_succ]
  refine wpAnyS_one (i := 8) (by as_aux_lemma => kernel_rfl) ?_
  intro oi hoi K hK
  simp only [List.getElem?_toArray, List.getElem?_cons_zero, List.getElem?_cons_succ, Option.some.injEq] at hoi; subst hoi
  go_simp
  refine hK.out _ _ (fun _ => hSS) ?_
  clear hK K
  try simp only [Act.put, List.setIfInBounds_toArray, List.set_cons_zero, List.set_cons_succ]
  refine wpAnyS_one (i := 11) (by as_aux_lemma => kernel_rfl) ?_
  intro oi hoi K hK
  simp only [List.getElem?_toArray, List.getElem?_cons_zero, List.getElem?_cons_succ, Option.some.injEq] at hoi; subst hoi
  go_simp
  refine DW.out.mono ?_; rintro e w4 ⟨rfl, H5⟩
  have H6 := Lib.hid (((((H5.pull 6 rfl).up1.pull 6 rfl).pull 6 rfl).pull 6 rfl))
  refine leaves_cons (f := 33) (args := #[.pointer (some ⟨b2, 0, none⟩), .pointer (some ⟨b3, 0, none⟩), .pointer (some ⟨b4, 0, none⟩)]) (by simp) (by simp [go_sem]) ?_
  refine (catch_p H6.out).mono ?_
  rintro e u' w'' ⟨rfl, rfl, HZ⟩
  exact ⟨_, res3 _ rfl rfl rfl HZ, rfl, drop3 HZ.tail.tail.tail⟩
end Go.Proofs.YtijkkompnfpdeaaGreatDoor
set_option linter.unusedVariables false
set_option linter.unusedSimpArgs false
namespace Go.Proofs.YtijkkompnfpdeaaGreatDoor
open Go.RowKit Go.Joins Go.Shelf
attribute [local go_sem] Oper.semAt_some

set_option maxHeartbeats 4000000 in
set_option maxRecDepth 20000 in
theorem same_bytes (a b : Option Addr) (ca cb : Nat) (xs ys : List UInt8) (w : World) (ha : CellsIn w a (xs.map bv)) (hb : CellsIn w b (ys.map bv)) (hx : xs.length < 1000000000) (hy : ys.length < 1000000000) :
    Calls Tryz.prog 12 #[.slice a xs.length ca, .slice b ys.length cb] w fun e w' => e = .returned (.bool (decide (xs = ys))) ∧ Below w.heap.size w w' := by
  have HA := Lib.hid ha
  have HB := Lib.hid hb
  have H0 := Lib.hid (Hp.start w)
  have HX := Lib.hid hx
  generalize hr : decide (xs = ys) = res
  clear ha hb hx hy
  by_cases hl : xs.length = ys.length
  · have hne : ((xs.length : Int) != (ys.length : Int)) = false := by simp; omega
    have HL := Lib.hid hl
    have HR := Lib.hid hr
    clear hl hr
    go_enter Tryz.func12, Tryz.ntmps12
    go_wp2
    clear hne
    go_loopw [5] (fun s5 wr => ∃ k : Nat, k ≤ xs.length ∧ s5 = .int .i64 k ∧ Hid (xs.take k = ys.take k) ∧ Hid (Hp w wr [])) (fun s5 _ => xs.length - (intOf s5).toNat)
    case atStart => exact ⟨0, Nat.zero_le _, rfl, Lib.hid rfl, H0⟩
    case round =>
      obtain ⟨k, hk, rfl, hE, hH⟩ := hrel
      clear H0
      by_cases hlt : k < xs.length
      · have hlt2 : k < ys.length := by rw [← HL.out]; exact hlt
        have hkw : IntKind.i64.wrap ((k : Int) + 1) = (k : Int) + 1 := by rw [IntKind.wrap_i64]; have := HX.out; omega
        have hi1 : (k : Int) < (ys.length : Int) := by omega
        obtain ⟨g, o, rfl, c0⟩ := byte_cell (HA.out.hp hH.out) hlt
        obtain ⟨g', o', rfl, c0'⟩ := byte_cell (HB.out.hp hH.out) hlt2
        have HE2 : Hid (xs[k] = ys[k] → xs.take (k + 1) = ys.take (k + 1)) := Lib.hid (fun h => by rw [List.take_succ_eq_append_getElem hlt, List.take_succ_eq_append_getElem hlt2, hE.out, h])
        have HE3 : Hid (xs[k] ≠ ys[k] → res = false) := Lib.hid (fun h => by rw [← HR.out]; simp; intro h2; subst h2; exact h rfl)
        generalize xs[k] = x at *
        generalize ys[k] = y at *
        by_cases hxy : x = y
        · subst hxy
          have hn := Lib.hid (HE2.out rfl)
          have HLT := Lib.hid hlt
          clear hE HE2 HE3
          skip
          go_upto_region 6 with fail
          go_quiet (fail)
          go_wp2
          go_roundw
          case rel => exact ⟨k + 1, by have := HLT.out; omega, by go_num, hn, Lib.hid (hH.out.drewN _)⟩
          case measure => have := HLT.out; simp [intOf]; omega
        · have hn := HE3.out hxy
          subst hn
          clear hE HE2 HE3
          have h' : ¬ ((x.toNat : Nat) : Int) = ((y.toNat : Nat) : Int) := by intro h; apply hxy; rw [← UInt8.toNat_inj]; omega
          have h'' : (((x.toNat : Nat) : Int) != ((y.toNat : Nat) : Int)) = true := by simp; intro h; apply hxy; rw [← UInt8.toNat_inj]; omega
          have h3 : ¬ x.toNat = y.toNat := by intro h; apply hxy; rw [← UInt8.toNat_inj]; exact h
          clear hxy
          go_upto_region 6 with fail
          go_quiet (fail)
          all_goals go_wp2
          all_goals go_ret
          all_goals exact ⟨rfl, (hH.out.drewN _).below⟩
      · have hxe : xs = ys := by
          have h := hE.out
          rw [List.take_of_length_le (by omega), List.take_of_length_le (by have := HL.out; omega)] at h
          exact h
        obtain rfl : true = res := by rw [← HR.out]; simp [hxe]
        clear hE hxe
        go_wp2
        go_ret
        exact ⟨rfl, hH.out.below⟩
  · have hne : ((xs.length : Int) != (ys.length : Int)) = true := by simp; omega
    obtain rfl : false = res := by rw [← hr]; simp; intro h; subst h; exact hl rfl
    clear hr hl
    go_enter Tryz.func12, Tryz.ntmps12
    go_wp2
    go_ret
    exact ⟨rfl, H0.out.below⟩
end Go.Proofs.YtijkkompnfpdeaaGreatDoor
