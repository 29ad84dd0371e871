/- Images: the document's Get, walked. -/
import Derived.Test.YtcfoljdpffonhaaGreatDoorNc
import Derived.Test.YtcfoljdpffonhaaGreatDoorMg
import Derived.Test.YtcfoljdpffonhaaGreatDoorNg
import Derived.Test.YtcfoljdpffonhaaGreatDoorLr
set_option linter.unusedVariables false
set_option linter.unusedSimpArgs false
namespace Go.Proofs.YtcfoljdpffonhaaGreatDoor
open Go.RowKit Go.Joins Go.Shelf
attribute [local go_sem] Oper.semAt_some

theorem two_sum (x y : UInt8) : wrap64 (wrap64 (256 * wrap64 (x.toNat : Int)) + wrap64 (y.toNat : Int)) = ((nb x y : Nat) : Int) := by
  have hx := x.toNat_lt
  have hy := y.toNat_lt
  unfold nb wrap64
  omega
theorem cells_at {w : World} {g o : Nat} {l : List UInt8} (h : CellsIn w (some ⟨g, o, none⟩) (l.map bv)) {k : Nat} {x : UInt8} (hx : l[k]? = some x) : w.cell? ⟨g, o + k, none⟩ = some (bv x) := by
  obtain ⟨hl, e⟩ := List.getElem?_eq_some_iff.1 hx
  obtain ⟨g', o', e', hc⟩ := h k (by simpa using hl)
  cases e'
  rw [hc]; simp [e]
theorem cells_from {w : World} {g o : Nat} {l : List UInt8} (h : CellsIn w (some ⟨g, o, none⟩) (l.map bv)) (k n : Nat) : ∀ j u, (((l.drop k).take n).map bv)[j]? = some u → w.cell? ((⟨g, o + k, none⟩ : Addr).add j) = some u := by
  intro j u hu
  rw [List.getElem?_map] at hu
  cases hx : ((l.drop k).take n)[j]? with
  | none => rw [hx] at hu; cases hu
  | some x =>
    rw [hx] at hu
    cases hu
    rw [List.getElem?_take] at hx
    split at hx
    · rw [List.getElem?_drop] at hx
      rw [show (⟨g, o + k, none⟩ : Addr).add j = ⟨g, o + k + j, none⟩ from Addr.add_lit g (o + k) j, Nat.add_assoc]
      exact cells_at h hx
    · cases hx
theorem slice_nine (g o bc D : Nat) (h : 9 + D ≤ bc) : ∃ o1, (if bc = 9 then some (⟨g, o, none⟩ : Addr) else some ⟨g, o + 9, none⟩) = some ⟨g, o1, none⟩ ∧ (D = 0 ∨ o1 = o + 9) := by
  by_cases h9 : bc = 9
  · exact ⟨o, by rw [if_pos h9], Or.inl (by omega)⟩
  · exact ⟨o + 9, by rw [if_neg h9], Or.inr rfl⟩
theorem ibs_get4 {code : List I4} {k : Nat} (hk : k < code.length) : (ibs code)[k * 4]? = some code[k].1 ∧ (ibs code)[k * 4 + 1]? = some code[k].2.1 ∧ (ibs code)[k * 4 + 2]? = some code[k].2.2.1 ∧ (ibs code)[k * 4 + 3]? = some code[k].2.2.2 := by
  exact ⟨ibs_get code k 0 hk (by omega), ibs_get code k 1 hk (by omega), ibs_get code k 2 hk (by omega), ibs_get code k 3 hk (by omega)⟩
set_option maxHeartbeats 16000000 in
set_option maxRecDepth 20000 in
theorem rimget_c (a : Option Addr) (bc : Nat) (b : List UInt8) (w : World) (hb : CellsIn w a (b.map bv)) (hbl : b.length ≤ 10000) (hcp : b.length ≤ bc) :
    Calls Tryz.prog 20 #[.slice a b.length bc] w (GetOwn w (imget b)) := by
  have H1 := Lib.hid (blk_new (Hp.start w) (.cells zI 25))
  have HB := Lib.hid hb
  clear hb
  by_cases h9 : b.length < 9
  · have hn : imget b = none := by
      rcases head_cases b with ⟨_, hn⟩ | ⟨_, _, hn⟩ | ⟨n1, n0, d1, d0, c1, c0, r, rfl⟩
      · exact hn
      · exact hn
      · simp at h9; omega
    have HN := Lib.hid hn
    have j1 : (b.length : Int) < 9 := by omega
    generalize imget b = oo at *
    clear hn HB h9
    go_enter Tryz.func20, Tryz.ntmps20
    go_upto_region 2 with fail
    have bz := blk_get (H1.out)
    have z0 : (w.alloc (.cells zI 25)).cell? ⟨w.heap.size, 0, none⟩ = some (.int .i64 0) := cell_blk bz 0
    have e0 := free_blk bz 0
    have z1 : (w.alloc (.cells zI 25)).cell? ⟨w.heap.size, 1, none⟩ = some (.slice none 0 0) := cell_blk bz 1
    have e1 := free_blk bz 1
    have z2 : (w.alloc (.cells zI 25)).cell? ⟨w.heap.size, 2, none⟩ = some (.slice none 0 0) := cell_blk bz 2
    have e2 := free_blk bz 2
    have H5 := Lib.hid (set3 (H1.out) (.int .i64 0) (.slice none 0 0) (.slice none 0 0))
    clear bz
    generalize (w.alloc (.cells zI 25)) = w2 at *
    go_wp2
    refine bodyPost_ret (results_cell_tmp_row rfl _ _ w.heap.size _ _ _ _ rfl (blk_get H5.out) Tryz.underlying25 rfl im_info) rfl ?_
    exact geto_none HN.out H5.out.below
  · obtain ⟨g, o, rfl⟩ : ∃ g o, a = some ⟨g, o, none⟩ := by
      obtain ⟨g, o, e, _⟩ := HB.out 0 (by simp; omega)
      exact ⟨g, o, e⟩
    have j1 : ¬ (b.length : Int) < 9 := by omega
    have j2 : 3 ≤ bc := by omega
    have ht3 : (b.take 3).length = 3 := by rw [List.length_take]; omega
    have kc := conv_in (w.alloc (.cells zI 25)) (some ⟨g, o, none⟩) bc (b.take 3) (by
      have h := HB.out.hp H1.out
      intro j hj
      have hj' : j < (b.take 3).length := by simpa using hj
      obtain ⟨g', o', e, hc⟩ := h j (by simp at hj' ⊢; omega)
      exact ⟨g', o', e, by rw [hc]; simp⟩)
    rw [ht3] at kc
    clear ht3
    by_cases hpre : b.take 3 = [116, 107, 49]
    · obtain ⟨n1, n0, d1, d0, c1, c0, r, rfl⟩ : ∃ n1 n0 d1 d0 c1 c0 r, b = 116 :: 107 :: 49 :: n1 :: n0 :: d1 :: d0 :: c1 :: c0 :: r := by
        rcases head_cases b with ⟨h, _⟩ | ⟨_, h, _⟩ | h
        · exfalso
          have : b = [116, 107, 49] ++ b.drop 3 := by rw [← hpre, List.take_append_drop]
          rw [this] at h
          simp [Lib.hasPrefix, List.isPrefixOf] at h
        · exact absurd h h9
        · exact h
      rw [hpre] at kc
      have hle : (116 :: 107 :: 49 :: n1 :: n0 :: d1 :: d0 :: c1 :: c0 :: r : List UInt8).length = r.length + 9 := by simp
      have hg : imget (116 :: 107 :: 49 :: n1 :: n0 :: d1 :: d0 :: c1 :: c0 :: r) = if r.length = nb d1 d0 + nb c1 c0 * 4 then
        if imck (nb n1 n0) (r.take (nb d1 d0)) (chunk (r.drop (nb d1 d0))) = true then some (nb n1 n0, r.take (nb d1 d0), chunk (r.drop (nb d1 d0))) else none
        else none := rfl
      generalize imget (116 :: 107 :: 49 :: n1 :: n0 :: d1 :: d0 :: c1 :: c0 :: r) = oo at *
      rw [hle] at hbl hcp ⊢
      have HG := Lib.hid hg
      have HR : Hid (r.length ≤ 9991 ∧ r.length + 9 ≤ bc) := Lib.hid ⟨by omega, hcp⟩
      have hb1 := HB.out.hp H1.out
      have b3 : (w.alloc (.cells zI 25)).cell? ⟨g, o + 3, none⟩ = some (bv n1) := cells_at hb1 rfl
      have b4 : (w.alloc (.cells zI 25)).cell? ⟨g, o + 4, none⟩ = some (bv n0) := cells_at hb1 rfl
      have j3 : (3 : Int) < (r.length : Int) + 9 := by omega
      have j4 : (4 : Int) < (r.length : Int) + 9 := by omega
      have j5 : (5 : Int) < (r.length : Int) + 9 := by omega
      have j6 : (6 : Int) < (r.length : Int) + 9 := by omega
      have j7 : (7 : Int) < (r.length : Int) + 9 := by omega
      have j8 : (8 : Int) < (r.length : Int) + 9 := by omega
      have j9 : ¬ (r.length : Int) + 9 < 9 := by omega
      have s1 := Lib.hid (two_sum n1 n0)
      have s2 := Lib.hid (two_sum d1 d0)
      have s3 := Lib.hid (two_sum c1 c0)
      have HX : Hid (∀ (wz : World) (rr : List Thing), Hp w wz rr → CellsIn wz (some ⟨g, o, none⟩) ((116 :: 107 :: 49 :: n1 :: n0 :: d1 :: d0 :: c1 :: c0 :: r).map bv)) := Lib.hid (fun wz rr HW => HB.out.hp HW)
      clear hg hle hbl hcp hpre h9 j1 hb1 HB
      go_enter Tryz.func20, Tryz.ntmps20
      go_upto_region 3 with fail
      clear kc j9
      generalize (w.alloc (.cells zI 25)) = w1 at *
      have b3a : (w1.alloc (.cells #[.int .i64 0, .slice none 0 0, .slice none 0 0] 25)).cell? ⟨g, o + 3, none⟩ = some (bv n1) := cell_alloc_l' _ b3
      have b4a : (w1.alloc (.cells #[.int .i64 0, .slice none 0 0, .slice none 0 0] 25)).cell? ⟨g, o + 4, none⟩ = some (bv n0) := cell_alloc_l' _ b4
      go_region
      rw [s1.out]
      have hn := nb_lt n1 n0
      have hd := nb_lt d1 d0
      have hc := nb_lt c1 c0
      generalize nb n1 n0 = N at *
      have H2 : Hid (Hp w (w1.alloc (.cells #[.int .i64 (N : Int), .slice none 0 0, .slice none 0 0] 25)).drew [IM w1.heap.size N (.slice none 0 0) (.slice none 0 0), Blk w.heap.size (.cells zI 25 (0, 0))]) := Lib.hid (blk_new H1.out _).drew
      clear b3a b4a b3 b4 s1 H1
      generalize (w1.alloc (.cells #[.int .i64 (N : Int), .slice none 0 0, .slice none 0 0] 25)).drew = w2 at *
      generalize w1.heap.size = mb at *
      have hb2 := HX.out _ _ H2.out
      have b5 : w2.cell? ⟨g, o + 5, none⟩ = some (bv d1) := cells_at hb2 rfl
      have b6 : w2.cell? ⟨g, o + 6, none⟩ = some (bv d0) := cells_at hb2 rfl
      clear hb2
      go_upto_region 4 with fail
      go_quiet (fail)
      have H3 := Lib.hid (H2.out.drewN nq)
      clear H2 b5 b6
      generalize w2.drewN nq = w3 at *
      have hb2 := HX.out _ _ H3.out
      have b7 : w3.cell? ⟨g, o + 7, none⟩ = some (bv c1) := cells_at hb2 rfl
      have b8 : w3.cell? ⟨g, o + 8, none⟩ = some (bv c0) := cells_at hb2 rfl
      clear hb2 nq
      go_upto_region 5 with fail
      go_quiet (fail)
      have H4 := Lib.hid (H3.out.drewN nq)
      clear H3 b7 b8
      generalize w3.drewN nq = w4 at *
      rw [s2.out, s3.out]
      clear s2 s3 nq
      generalize nb d1 d0 = D at *
      generalize nb c1 c0 = C at *
      have q1 : IntKind.i64.wrap (9 + (D : Int)) = 9 + (D : Int) := by rw [IntKind.wrap_i64]; omega
      have q2 : IntKind.i64.wrap (4 * (C : Int)) = 4 * (C : Int) := by rw [IntKind.wrap_i64]; omega
      have q3 : IntKind.i64.wrap (9 + (D : Int) + 4 * (C : Int)) = 9 + (D : Int) + 4 * (C : Int) := by rw [IntKind.wrap_i64]; omega
      by_cases hl : r.length = D + C * 4
      · have hne : ((r.length : Int) + 9 != 9 + (D : Int) + 4 * (C : Int)) = false := by simp; omega
        have ho : oo = if imck N (r.take D) (chunk (r.drop D)) = true then some (N, r.take D, chunk (r.drop D)) else none := by rw [HG.out, if_pos hl]
        have HLN := Lib.hid hl
        have hDC : Hid (D + C * 4 ≤ 9991 ∧ 9 + D + C * 4 ≤ bc) := Lib.hid ⟨by have := HR.out; omega, by have := HR.out; omega⟩
        have HO := Lib.hid ho
        clear HG ho hl
        go_upto_region 8 with fail
        have HM := Lib.hid (own_nil H4.out 5 1)
        have m1 : w4.cell? ⟨mb, 1, none⟩ = some (.slice none 0 0) := (im_cells H4.out).2.1
        have hSS : (fun (x : World) => x.cell? ⟨mb, 1, none⟩ = some (.slice none 0 0)) w4.drew := m1
        have k1 : (9 : Int) ≤ 9 + (D : Int) := by omega
        have k2 : 9 + (D : Int) ≤ (bc : Int) := by have := hDC.out; omega
        have k3 : (9 + (D : Int)).toNat = 9 + D := by omega
        have k4 : 9 + D ≤ bc := by have := hDC.out; omega
        have k5 : wrap64 (9 + (D : Int)) = 9 + (D : Int) := by have := hDC.out; unfold wrap64; omega
        obtain ⟨o1, ho1, ho2⟩ := slice_nine g o bc D k4
        have HO2 := Lib.hid ho2
        clear ho2
        refine wp_region_S 8 (fun (x : World) => x.cell? ⟨mb, 1, none⟩ = some (.slice none 0 0)) (by kernel_rfl) ?_
        refine wpAnyS_take (i := 0) (by as_aux_lemma => kernel_rfl) (by as_aux_lemma => kernel_rfl) (by as_aux_lemma => kernel_rfl) (by as_aux_lemma => kernel_rfl) (by as_aux_lemma => kernel_rfl) (by as_aux_lemma => kernel_rfl) (by as_aux_lemma => kernel_rfl) (by as_aux_lemma => kernel_rfl) (by intro c a d v w h; cases d <;> exact h) hSS (fun oi hoi => ?_)
        simp only [List.getElem?_toArray, List.getElem?_cons_zero, List.getElem?_cons_succ, Option.some.injEq] at hoi; subst hoi
        refine ⟨?_, by rfl, fun wx hSx => ?_, ?_⟩
        rotate_left
        · have s1 := hSx
          go_simp
          try with_reducible rfl
        try simp only [Act.put, List.setIfInBounds_toArray, List.set_cons_zero, List.set_cons_succ]
        refine wpAnyS_take (i := 1) (by as_aux_lemma => kernel_rfl) (by as_aux_lemma => kernel_rfl) (by as_aux_lemma => kernel_rfl) (by as_aux_lemma => kernel_rfl) (by as_aux_lemma => kernel_rfl) (by as_aux_lemma => kernel_rfl) (by as_aux_lemma => kernel_rfl) (by as_aux_lemma => kernel_rfl) (by intro c a d v w h; cases d <;> exact h) hSS (fun oi hoi => ?_)
        simp only [List.getElem?_toArray, List.getElem?_cons_zero, List.getElem?_cons_succ, Option.some.injEq] at hoi; subst hoi
        refine ⟨?_, by rfl, fun wx hSx => ?_, ?_⟩
        rotate_left
        · have s1 := hSx
          go_simp
          try with_reducible rfl
        try simp only [Act.put, List.setIfInBounds_toArray, List.set_cons_zero, List.set_cons_succ]
        refine wpAnyS_take (i := 2) (by as_aux_lemma => kernel_rfl) (by as_aux_lemma => kernel_rfl) (by as_aux_lemma => kernel_rfl) (by as_aux_lemma => kernel_rfl) (by as_aux_lemma => kernel_rfl) (by as_aux_lemma => kernel_rfl) (by as_aux_lemma => kernel_rfl) (by as_aux_lemma => kernel_rfl) (by intro c a d v w h; cases d <;> exact h) hSS (fun oi hoi => ?_)
        simp only [List.getElem?_toArray, List.getElem?_cons_zero, List.getElem?_cons_succ, Option.some.injEq] at hoi; subst hoi
        refine ⟨?_, by rfl, fun wx hSx => ?_, ?_⟩
        rotate_left
        · have s1 := hSx
          go_simp
          try with_reducible rfl
        try simp only [Act.put, List.setIfInBounds_toArray, List.set_cons_zero, List.set_cons_succ]
        refine wpAnyS_take (i := 3) (by as_aux_lemma => kernel_rfl) (by as_aux_lemma => kernel_rfl) (by as_aux_lemma => kernel_rfl) (by as_aux_lemma => kernel_rfl) (by as_aux_lemma => kernel_rfl) (by as_aux_lemma => kernel_rfl) (by as_aux_lemma => kernel_rfl) (by as_aux_lemma => kernel_rfl) (by intro c a d v w h; cases d <;> exact h) hSS (fun oi hoi => ?_)
        simp only [List.getElem?_toArray, List.getElem?_cons_zero, List.getElem?_cons_succ, Option.some.injEq] at hoi; subst hoi
        refine ⟨?_, by rfl, fun wx hSx => ?_, ?_⟩
        rotate_left
        · have s1 := hSx
          go_simp
          try with_reducible rfl
        try simp only [Act.put, List.setIfInBounds_toArray, List.set_cons_zero, List.set_cons_succ]
        refine wpAnyS_take (i := 4) (by as_aux_lemma => kernel_rfl) (by as_aux_lemma => kernel_rfl) (by as_aux_lemma => kernel_rfl) (by as_aux_lemma => kernel_rfl) (by as_aux_lemma => kernel_rfl) (by as_aux_lemma => kernel_rfl) (by as_aux_lemma => kernel_rfl) (by as_aux_lemma => kernel_rfl) (by intro c a d v w h; cases d <;> exact h) hSS (fun oi hoi => ?_)
        simp only [List.getElem?_toArray, List.getElem?_cons_zero, List.getElem?_cons_succ, Option.some.injEq] at hoi; subst hoi
        refine ⟨?_, by rfl, fun wx hSx => ?_, ?_⟩
        rotate_left
        · have s1 := hSx
          go_simp
          try with_reducible rfl
        try simp only [Act.put, List.setIfInBounds_toArray, List.set_cons_zero, List.set_cons_succ]
        refine wpAnyS_take (i := 5) (by as_aux_lemma => kernel_rfl) (by as_aux_lemma => kernel_rfl) (by as_aux_lemma => kernel_rfl) (by as_aux_lemma => kernel_rfl) (by as_aux_lemma => kernel_rfl) (by as_aux_lemma => kernel_rfl) (by as_aux_lemma => kernel_rfl) (by as_aux_lemma => kernel_rfl) (by intro c a d v w h; cases d <;> exact h) hSS (fun oi hoi => ?_)
        simp only [List.getElem?_toArray, List.getElem?_cons_zero, List.getElem?_cons_succ, Option.some.injEq] at hoi; subst hoi
        refine ⟨?_, by rfl, fun wx hSx => ?_, ?_⟩
        rotate_left
        · have s1 := hSx
          go_simp
          try with_reducible rfl
        try simp only [Act.put, List.setIfInBounds_toArray, List.set_cons_zero, List.set_cons_succ]
        obtain ⟨hib, hcl⟩ := ibs_chunk C (r.drop D) (by rw [List.length_drop]; have := HLN.out; omega)
        have hdl : (r.take D).length = D := by rw [List.length_take]; have := HLN.out; omega
        have hcd : r = r.take D ++ ibs (chunk (r.drop D)) := by rw [hib, List.take_append_drop]
        have HCD := Lib.hid hcd
        have hnews : ∀ j u, ((r.take D).map bv)[j]? = some u → w4.cell? ((⟨g, o1, none⟩ : Addr).add j) = some u := by
          rcases HO2.out with h0 | h0
          · intro j u hu
            rw [h0] at hu; simp at hu
          · rw [h0]; exact cells_from (HX.out _ _ H4.out) 9 D
        generalize chunk (r.drop D) = code at *
        generalize r.take D = dl at *
        have HDL := Lib.hid hdl
        have HCL := Lib.hid hcl
        obtain ⟨i0, hi, hz0, hz1, hz2⟩ := info_parts info_u8
        clear hib hcl hcd
        refine wpAnyS_one (i := 6) (by as_aux_lemma => kernel_rfl) ?_
        intro oi hoi K hK
        simp only [List.getElem?_toArray, List.getElem?_cons_zero, List.getElem?_cons_succ, Option.some.injEq] at hoi; subst hoi
        refine step_append_hp (by rfl) _ _ 22 (by rfl) 5 i0 _ 1 1 Tryz.underlying22 hi hz0 hz1 hz2 rfl (by decide) HM.out.drew (by rfl) ⟨g, o1, none⟩ _ _ (dl.map bv) (by rfl) (by simp; omega) hnews (fun u hu => by obtain ⟨x, _, rfl⟩ := List.mem_map.1 hu; rfl) (by have := hDC.out; omega) (by omega) ?_
        intro v5 w5 HA0
        have HA : Hp w w5 (OwnU v5 dl :: _) := own_as HA0 (by omega) (by simp)
        obtain ⟨av, cv, rfl⟩ := own_slice HA
        have m2 : w5.cell? ⟨mb, 1, none⟩ = some (.slice none 0 0) := (im_cells (HA.pull 1 rfl)).2.1
        have f2 := free_blk (blk_get (HA.pull 1 rfl)) 1
        have hSS : (fun (x : World) => x.cell? ⟨mb, 1, none⟩ = some (.slice none 0 0)) w5 := m2
        refine hK.out _ _ (fun _ => hSS) ?_
        have HA1 := Lib.hid HA
        clear hK K HA0 HA hnews H4 HM m1 hdl ho1
        try simp only [Act.put, List.setIfInBounds_toArray, List.set_cons_zero, List.set_cons_succ]
        refine wpAnyS_take (i := 7) (by as_aux_lemma => kernel_rfl) (by as_aux_lemma => kernel_rfl) (by as_aux_lemma => kernel_rfl) (by as_aux_lemma => kernel_rfl) (by as_aux_lemma => kernel_rfl) (by as_aux_lemma => kernel_rfl) (by as_aux_lemma => kernel_rfl) (by as_aux_lemma => kernel_rfl) (by intro c a d v w h; cases d <;> exact h) hSS (fun oi hoi => ?_)
        simp only [List.getElem?_toArray, List.getElem?_cons_zero, List.getElem?_cons_succ, Option.some.injEq] at hoi; subst hoi
        refine ⟨?_, by rfl, fun wx hSx => ?_, ?_⟩
        rotate_left
        · have s1 := hSx
          go_simp
          try with_reducible rfl
        try simp only [Act.put, List.setIfInBounds_toArray, List.set_cons_zero, List.set_cons_succ]
        refine wpAnyS_one (i := 8) (by as_aux_lemma => kernel_rfl) ?_
        intro oi hoi K hK
        simp only [List.getElem?_toArray, List.getElem?_cons_zero, List.getElem?_cons_succ, Option.some.injEq] at hoi; subst hoi
        go_simp
        refine hK.out _ _ (fun h => absurd h (by decide)) ?_
        clear hK K
        try simp only [Act.put, List.setIfInBounds_toArray, List.set_cons_zero, List.set_cons_succ]
        refine wpAnyS_done (by as_aux_lemma => kernel_rfl) ?_ _
        have H5 : Hid (Hp w (w5.setCell ⟨mb, 1, none⟩ (.slice av dl.length cv)) (IM mb N (.slice av dl.length cv) (.slice none 0 0) :: OwnU (.slice av dl.length cv) dl :: [Blk w.heap.size (.cells zI 25 (0, 0))])) := Lib.hid (blk_set (HA1.out.pull 1 rfl) 1 (.slice av dl.length cv))
        clear HA1 m2 f2 hSS
        generalize (w5.setCell ⟨mb, 1, none⟩ (.slice av dl.length cv)) = w6 at *
        have H6 := Lib.hid (own_nil H5.out 61 4)
        clear H5
        obtain ⟨i1, hi', hz0', hz1', hz2'⟩ := info_parts info_ins
        go_wp2
        go_loopw [7] (fun s7 wr => ∃ (k : Nat) (v : Value), k ≤ C ∧ s7 = .int .i64 k ∧ Hid (Hp w wr (OwnN v (code.take k) :: IM mb N (.slice av dl.length cv) v :: OwnU (.slice av dl.length cv) dl :: [Blk w.heap.size (.cells zI 25 (0, 0))]))) (fun s7 _ => C - (intOf s7).toNat)
        case atStart => exact ⟨0, _, Nat.zero_le _, rfl, H6⟩
        case round =>
          obtain ⟨k, v, hk, rfl, hH⟩ := hrel
          clear H6 i0 hi hz0 hz1 hz2
          by_cases hlt : k < C
          · have hkl : k < code.length := by rw [HCL.out]; exact hlt
            obtain ⟨g0, g1, g2, g3⟩ := ibs_get4 hkl
            have htk := Lib.hid (List.take_succ_eq_append_getElem hkl)
            have hlk : (code.take k).length = k := by rw [List.length_take]; omega
            have HLK := Lib.hid hlk
            obtain ⟨p, hp⟩ : ∃ p : Nat, p = 9 + D + k * 4 := ⟨_, rfl⟩
            have at_ : ∀ (W : World) (rr : List Thing), Hp w W rr → ∀ i x, (ibs code)[k * 4 + i]? = some x → W.cell? ⟨g, o + (p + i), none⟩ = some (bv x) := fun W rr HW i x hx => cells_at (HX.out W rr HW) (by
              rw [show p + i = (D + (k * 4 + i)) + 9 by omega]
              show r[D + (k * 4 + i)]? = some x
              rw [HCD.out, List.getElem?_append_right (by rw [HDL.out]; omega), HDL.out, Nat.add_sub_cancel_left]
              exact hx)
            have hb4 : ∀ (W : World) (rr : List Thing), Hp w W rr → W.cell? ⟨g, o + p, none⟩ = some (bv code[k].1) ∧ W.cell? ⟨g, o + (p + 1), none⟩ = some (bv code[k].2.1) ∧ W.cell? ⟨g, o + (p + 2), none⟩ = some (bv code[k].2.2.1) ∧ W.cell? ⟨g, o + (p + 3), none⟩ = some (bv code[k].2.2.2) := fun W rr HW => ⟨at_ W rr HW 0 _ g0, at_ W rr HW 1 _ g1, at_ W rr HW 2 _ g2, at_ W rr HW 3 _ g3⟩
            generalize code[k] = x at *
            generalize code.take k = tk at *
            obtain ⟨xo, xa, xc, xd⟩ := x
            simp only at hb4
            obtain ⟨b0, b1, b2, b3⟩ := hb4 _ _ hH.out
            have HB4 := Lib.hid hb4
            obtain ⟨vv, cvv, rfl⟩ := own_slice hH.out
            have HLT := Lib.hid hlt
            have w1 : IntKind.i64.wrap ((k : Int) * 4) = (k : Int) * 4 := by rw [IntKind.wrap_i64]; omega
            have w2 : IntKind.i64.wrap (9 + (D : Int) + (k : Int) * 4) = 9 + (D : Int) + (k : Int) * 4 := by rw [IntKind.wrap_i64]; omega
            have hpi : 9 + (D : Int) + 4 * (k : Int) = (p : Int) := by omega
            have HPI := Lib.hid hpi
            have hw5 : Hid (wrap64 ((k : Int) + 1) = (k : Int) + 1) := Lib.hid (by unfold wrap64; omega)
            have hpr : p + 3 < r.length + 9 := by have := HLN.out; omega
            have HPR := Lib.hid hpr
            clear hkl g0 g1 g2 g3 hlk at_ hb4 hp hpi hlt hpr k1 k2 k3 k4 k5
            go_upto_region 13 with fail
            rw [HPI.out]
            clear w1 w2 q1 q2 q3 hne
            have m2 : wr.cell? ⟨mb, 2, none⟩ = some (.slice vv tk.length cvv) := (im_cells (hH.out.pull 1 rfl)).2.2
            have hSS : (fun (x : World) => x.cell? ⟨mb, 2, none⟩ = some (.slice vv tk.length cvv) ∧ x.cell? ⟨g, o + p, none⟩ = some (bv xo) ∧ x.cell? ⟨g, o + (p + 1), none⟩ = some (bv xa) ∧ x.cell? ⟨g, o + (p + 2), none⟩ = some (bv xc) ∧ x.cell? ⟨g, o + (p + 3), none⟩ = some (bv xd)) wr.drew := ⟨m2, b0, b1, b2, b3⟩
            obtain ⟨l0, l1, l2, l3⟩ : (p : Int) < (r.length : Int) + 9 ∧ (p : Int) + 1 < (r.length : Int) + 9 ∧ (p : Int) + 2 < (r.length : Int) + 9 ∧ (p : Int) + 3 < (r.length : Int) + 9 := by have := HPR.out; omega
            obtain ⟨n1, n2, n3⟩ : ((p : Int) + 1).toNat = p + 1 ∧ ((p : Int) + 2).toNat = p + 2 ∧ ((p : Int) + 3).toNat = p + 3 := by omega
            obtain ⟨z1, z2, z3⟩ : 0 ≤ (p : Int) + 1 ∧ 0 ≤ (p : Int) + 2 ∧ 0 ≤ (p : Int) + 3 := by omega
            obtain ⟨u1, u2, u3⟩ : IntKind.i64.wrap ((p : Int) + 1) = (p : Int) + 1 ∧ IntKind.i64.wrap ((p : Int) + 2) = (p : Int) + 2 ∧ IntKind.i64.wrap ((p : Int) + 3) = (p : Int) + 3 := by have := HPR.out; have := HR.out; simp only [IntKind.wrap_i64]; omega
            refine wp_region_S 25 (fun (x : World) => x.cell? ⟨mb, 2, none⟩ = some (.slice vv tk.length cvv) ∧ x.cell? ⟨g, o + p, none⟩ = some (bv xo) ∧ x.cell? ⟨g, o + (p + 1), none⟩ = some (bv xa) ∧ x.cell? ⟨g, o + (p + 2), none⟩ = some (bv xc) ∧ x.cell? ⟨g, o + (p + 3), none⟩ = some (bv xd)) (by kernel_rfl) ?_
            refine wpAnyS_take (i := 0) (by as_aux_lemma => kernel_rfl) (by as_aux_lemma => kernel_rfl) (by as_aux_lemma => kernel_rfl) (by as_aux_lemma => kernel_rfl) (by as_aux_lemma => kernel_rfl) (by as_aux_lemma => kernel_rfl) (by as_aux_lemma => kernel_rfl) (by as_aux_lemma => kernel_rfl) (by intro c a d v w h; cases d <;> exact h) hSS (fun oi hoi => ?_)
            simp only [List.getElem?_toArray, List.getElem?_cons_zero, List.getElem?_cons_succ, Option.some.injEq] at hoi; subst hoi
            refine ⟨?_, by rfl, fun wx hSx => ?_, ?_⟩
            rotate_left
            · have ⟨s1, s2, s3, s4, s5⟩ := hSx
              go_simp
              try with_reducible rfl
            try simp only [Act.put, List.setIfInBounds_toArray, List.set_cons_zero, List.set_cons_succ]
            refine wpAnyS_take (i := 1) (by as_aux_lemma => kernel_rfl) (by as_aux_lemma => kernel_rfl) (by as_aux_lemma => kernel_rfl) (by as_aux_lemma => kernel_rfl) (by as_aux_lemma => kernel_rfl) (by as_aux_lemma => kernel_rfl) (by as_aux_lemma => kernel_rfl) (by as_aux_lemma => kernel_rfl) (by intro c a d v w h; cases d <;> exact h) hSS (fun oi hoi => ?_)
            simp only [List.getElem?_toArray, List.getElem?_cons_zero, List.getElem?_cons_succ, Option.some.injEq] at hoi; subst hoi
            refine ⟨?_, by rfl, fun wx hSx => ?_, ?_⟩
            rotate_left
            · have ⟨s1, s2, s3, s4, s5⟩ := hSx
              go_simp
              try with_reducible rfl
            try simp only [Act.put, List.setIfInBounds_toArray, List.set_cons_zero, List.set_cons_succ]
            refine wpAnyS_take (i := 2) (by as_aux_lemma => kernel_rfl) (by as_aux_lemma => kernel_rfl) (by as_aux_lemma => kernel_rfl) (by as_aux_lemma => kernel_rfl) (by as_aux_lemma => kernel_rfl) (by as_aux_lemma => kernel_rfl) (by as_aux_lemma => kernel_rfl) (by as_aux_lemma => kernel_rfl) (by intro c a d v w h; cases d <;> exact h) hSS (fun oi hoi => ?_)
            simp only [List.getElem?_toArray, List.getElem?_cons_zero, List.getElem?_cons_succ, Option.some.injEq] at hoi; subst hoi
            refine ⟨?_, by rfl, fun wx hSx => ?_, ?_⟩
            rotate_left
            · have ⟨s1, s2, s3, s4, s5⟩ := hSx
              go_simp
              try with_reducible rfl
            try simp only [Act.put, List.setIfInBounds_toArray, List.set_cons_zero, List.set_cons_succ]
            refine wpAnyS_take (i := 3) (by as_aux_lemma => kernel_rfl) (by as_aux_lemma => kernel_rfl) (by as_aux_lemma => kernel_rfl) (by as_aux_lemma => kernel_rfl) (by as_aux_lemma => kernel_rfl) (by as_aux_lemma => kernel_rfl) (by as_aux_lemma => kernel_rfl) (by as_aux_lemma => kernel_rfl) (by intro c a d v w h; cases d <;> exact h) hSS (fun oi hoi => ?_)
            simp only [List.getElem?_toArray, List.getElem?_cons_zero, List.getElem?_cons_succ, Option.some.injEq] at hoi; subst hoi
            refine ⟨?_, by rfl, fun wx hSx => ?_, ?_⟩
            rotate_left
            · have ⟨s1, s2, s3, s4, s5⟩ := hSx
              go_simp
              try with_reducible rfl
            try simp only [Act.put, List.setIfInBounds_toArray, List.set_cons_zero, List.set_cons_succ]
            refine wpAnyS_take (i := 4) (by as_aux_lemma => kernel_rfl) (by as_aux_lemma => kernel_rfl) (by as_aux_lemma => kernel_rfl) (by as_aux_lemma => kernel_rfl) (by as_aux_lemma => kernel_rfl) (by as_aux_lemma => kernel_rfl) (by as_aux_lemma => kernel_rfl) (by as_aux_lemma => kernel_rfl) (by intro c a d v w h; cases d <;> exact h) hSS (fun oi hoi => ?_)
            simp only [List.getElem?_toArray, List.getElem?_cons_zero, List.getElem?_cons_succ, Option.some.injEq] at hoi; subst hoi
            refine ⟨?_, by rfl, fun wx hSx => ?_, ?_⟩
            rotate_left
            · have ⟨s1, s2, s3, s4, s5⟩ := hSx
              go_simp
              try with_reducible rfl
            try simp only [Act.put, List.setIfInBounds_toArray, List.set_cons_zero, List.set_cons_succ]
            refine wpAnyS_take (i := 5) (by as_aux_lemma => kernel_rfl) (by as_aux_lemma => kernel_rfl) (by as_aux_lemma => kernel_rfl) (by as_aux_lemma => kernel_rfl) (by as_aux_lemma => kernel_rfl) (by as_aux_lemma => kernel_rfl) (by as_aux_lemma => kernel_rfl) (by as_aux_lemma => kernel_rfl) (by intro c a d v w h; cases d <;> exact h) hSS (fun oi hoi => ?_)
            simp only [List.getElem?_toArray, List.getElem?_cons_zero, List.getElem?_cons_succ, Option.some.injEq] at hoi; subst hoi
            refine ⟨?_, by rfl, fun wx hSx => ?_, ?_⟩
            rotate_left
            · have ⟨s1, s2, s3, s4, s5⟩ := hSx
              go_simp
              try with_reducible rfl
            try simp only [Act.put, List.setIfInBounds_toArray, List.set_cons_zero, List.set_cons_succ]
            refine wpAnyS_take (i := 6) (by as_aux_lemma => kernel_rfl) (by as_aux_lemma => kernel_rfl) (by as_aux_lemma => kernel_rfl) (by as_aux_lemma => kernel_rfl) (by as_aux_lemma => kernel_rfl) (by as_aux_lemma => kernel_rfl) (by as_aux_lemma => kernel_rfl) (by as_aux_lemma => kernel_rfl) (by intro c a d v w h; cases d <;> exact h) hSS (fun oi hoi => ?_)
            simp only [List.getElem?_toArray, List.getElem?_cons_zero, List.getElem?_cons_succ, Option.some.injEq] at hoi; subst hoi
            refine ⟨?_, by rfl, fun wx hSx => ?_, ?_⟩
            rotate_left
            · have ⟨s1, s2, s3, s4, s5⟩ := hSx
              go_simp
              try with_reducible rfl
            try simp only [Act.put, List.setIfInBounds_toArray, List.set_cons_zero, List.set_cons_succ]
            refine wpAnyS_take (i := 7) (by as_aux_lemma => kernel_rfl) (by as_aux_lemma => kernel_rfl) (by as_aux_lemma => kernel_rfl) (by as_aux_lemma => kernel_rfl) (by as_aux_lemma => kernel_rfl) (by as_aux_lemma => kernel_rfl) (by as_aux_lemma => kernel_rfl) (by as_aux_lemma => kernel_rfl) (by intro c a d v w h; cases d <;> exact h) hSS (fun oi hoi => ?_)
            simp only [List.getElem?_toArray, List.getElem?_cons_zero, List.getElem?_cons_succ, Option.some.injEq] at hoi; subst hoi
            refine ⟨?_, by rfl, fun wx hSx => ?_, ?_⟩
            rotate_left
            · have ⟨s1, s2, s3, s4, s5⟩ := hSx
              go_simp
              try with_reducible rfl
            try simp only [Act.put, List.setIfInBounds_toArray, List.set_cons_zero, List.set_cons_succ]
            refine wpAnyS_take (i := 8) (by as_aux_lemma => kernel_rfl) (by as_aux_lemma => kernel_rfl) (by as_aux_lemma => kernel_rfl) (by as_aux_lemma => kernel_rfl) (by as_aux_lemma => kernel_rfl) (by as_aux_lemma => kernel_rfl) (by as_aux_lemma => kernel_rfl) (by as_aux_lemma => kernel_rfl) (by intro c a d v w h; cases d <;> exact h) hSS (fun oi hoi => ?_)
            simp only [List.getElem?_toArray, List.getElem?_cons_zero, List.getElem?_cons_succ, Option.some.injEq] at hoi; subst hoi
            refine ⟨?_, by rfl, fun wx hSx => ?_, ?_⟩
            rotate_left
            · have ⟨s1, s2, s3, s4, s5⟩ := hSx
              go_simp
              try with_reducible rfl
            try simp only [Act.put, List.setIfInBounds_toArray, List.set_cons_zero, List.set_cons_succ]
            refine wpAnyS_take (i := 9) (by as_aux_lemma => kernel_rfl) (by as_aux_lemma => kernel_rfl) (by as_aux_lemma => kernel_rfl) (by as_aux_lemma => kernel_rfl) (by as_aux_lemma => kernel_rfl) (by as_aux_lemma => kernel_rfl) (by as_aux_lemma => kernel_rfl) (by as_aux_lemma => kernel_rfl) (by intro c a d v w h; cases d <;> exact h) hSS (fun oi hoi => ?_)
            simp only [List.getElem?_toArray, List.getElem?_cons_zero, List.getElem?_cons_succ, Option.some.injEq] at hoi; subst hoi
            refine ⟨?_, by rfl, fun wx hSx => ?_, ?_⟩
            rotate_left
            · have ⟨s1, s2, s3, s4, s5⟩ := hSx
              go_simp
              try with_reducible rfl
            try simp only [Act.put, List.setIfInBounds_toArray, List.set_cons_zero, List.set_cons_succ]
            refine wpAnyS_take (i := 10) (by as_aux_lemma => kernel_rfl) (by as_aux_lemma => kernel_rfl) (by as_aux_lemma => kernel_rfl) (by as_aux_lemma => kernel_rfl) (by as_aux_lemma => kernel_rfl) (by as_aux_lemma => kernel_rfl) (by as_aux_lemma => kernel_rfl) (by as_aux_lemma => kernel_rfl) (by intro c a d v w h; cases d <;> exact h) hSS (fun oi hoi => ?_)
            simp only [List.getElem?_toArray, List.getElem?_cons_zero, List.getElem?_cons_succ, Option.some.injEq] at hoi; subst hoi
            refine ⟨?_, by rfl, fun wx hSx => ?_, ?_⟩
            rotate_left
            · have ⟨s1, s2, s3, s4, s5⟩ := hSx
              go_simp
              try with_reducible rfl
            try simp only [Act.put, List.setIfInBounds_toArray, List.set_cons_zero, List.set_cons_succ]
            refine wpAnyS_take (i := 11) (by as_aux_lemma => kernel_rfl) (by as_aux_lemma => kernel_rfl) (by as_aux_lemma => kernel_rfl) (by as_aux_lemma => kernel_rfl) (by as_aux_lemma => kernel_rfl) (by as_aux_lemma => kernel_rfl) (by as_aux_lemma => kernel_rfl) (by as_aux_lemma => kernel_rfl) (by intro c a d v w h; cases d <;> exact h) hSS (fun oi hoi => ?_)
            simp only [List.getElem?_toArray, List.getElem?_cons_zero, List.getElem?_cons_succ, Option.some.injEq] at hoi; subst hoi
            refine ⟨?_, by rfl, fun wx hSx => ?_, ?_⟩
            rotate_left
            · have ⟨s1, s2, s3, s4, s5⟩ := hSx
              go_simp
              try with_reducible rfl
            try simp only [Act.put, List.setIfInBounds_toArray, List.set_cons_zero, List.set_cons_succ]
            refine wpAnyS_take (i := 12) (by as_aux_lemma => kernel_rfl) (by as_aux_lemma => kernel_rfl) (by as_aux_lemma => kernel_rfl) (by as_aux_lemma => kernel_rfl) (by as_aux_lemma => kernel_rfl) (by as_aux_lemma => kernel_rfl) (by as_aux_lemma => kernel_rfl) (by as_aux_lemma => kernel_rfl) (by intro c a d v w h; cases d <;> exact h) hSS (fun oi hoi => ?_)
            simp only [List.getElem?_toArray, List.getElem?_cons_zero, List.getElem?_cons_succ, Option.some.injEq] at hoi; subst hoi
            refine ⟨?_, by rfl, fun wx hSx => ?_, ?_⟩
            rotate_left
            · have ⟨s1, s2, s3, s4, s5⟩ := hSx
              go_simp
              try with_reducible rfl
            try simp only [Act.put, List.setIfInBounds_toArray, List.set_cons_zero, List.set_cons_succ]
            refine wpAnyS_take (i := 13) (by as_aux_lemma => kernel_rfl) (by as_aux_lemma => kernel_rfl) (by as_aux_lemma => kernel_rfl) (by as_aux_lemma => kernel_rfl) (by as_aux_lemma => kernel_rfl) (by as_aux_lemma => kernel_rfl) (by as_aux_lemma => kernel_rfl) (by as_aux_lemma => kernel_rfl) (by intro c a d v w h; cases d <;> exact h) hSS (fun oi hoi => ?_)
            simp only [List.getElem?_toArray, List.getElem?_cons_zero, List.getElem?_cons_succ, Option.some.injEq] at hoi; subst hoi
            refine ⟨?_, by rfl, fun wx hSx => ?_, ?_⟩
            rotate_left
            · have ⟨s1, s2, s3, s4, s5⟩ := hSx
              go_simp
              try with_reducible rfl
            try simp only [Act.put, List.setIfInBounds_toArray, List.set_cons_zero, List.set_cons_succ]
            refine wpAnyS_take (i := 14) (by as_aux_lemma => kernel_rfl) (by as_aux_lemma => kernel_rfl) (by as_aux_lemma => kernel_rfl) (by as_aux_lemma => kernel_rfl) (by as_aux_lemma => kernel_rfl) (by as_aux_lemma => kernel_rfl) (by as_aux_lemma => kernel_rfl) (by as_aux_lemma => kernel_rfl) (by intro c a d v w h; cases d <;> exact h) hSS (fun oi hoi => ?_)
            simp only [List.getElem?_toArray, List.getElem?_cons_zero, List.getElem?_cons_succ, Option.some.injEq] at hoi; subst hoi
            refine ⟨?_, by rfl, fun wx hSx => ?_, ?_⟩
            rotate_left
            · have ⟨s1, s2, s3, s4, s5⟩ := hSx
              go_simp
              try with_reducible rfl
            try simp only [Act.put, List.setIfInBounds_toArray, List.set_cons_zero, List.set_cons_succ]
            refine wpAnyS_take (i := 15) (by as_aux_lemma => kernel_rfl) (by as_aux_lemma => kernel_rfl) (by as_aux_lemma => kernel_rfl) (by as_aux_lemma => kernel_rfl) (by as_aux_lemma => kernel_rfl) (by as_aux_lemma => kernel_rfl) (by as_aux_lemma => kernel_rfl) (by as_aux_lemma => kernel_rfl) (by intro c a d v w h; cases d <;> exact h) hSS (fun oi hoi => ?_)
            simp only [List.getElem?_toArray, List.getElem?_cons_zero, List.getElem?_cons_succ, Option.some.injEq] at hoi; subst hoi
            refine ⟨?_, by rfl, fun wx hSx => ?_, ?_⟩
            rotate_left
            · have ⟨s1, s2, s3, s4, s5⟩ := hSx
              go_simp
              try with_reducible rfl
            try simp only [Act.put, List.setIfInBounds_toArray, List.set_cons_zero, List.set_cons_succ]
            refine wpAnyS_take (i := 16) (by as_aux_lemma => kernel_rfl) (by as_aux_lemma => kernel_rfl) (by as_aux_lemma => kernel_rfl) (by as_aux_lemma => kernel_rfl) (by as_aux_lemma => kernel_rfl) (by as_aux_lemma => kernel_rfl) (by as_aux_lemma => kernel_rfl) (by as_aux_lemma => kernel_rfl) (by intro c a d v w h; cases d <;> exact h) hSS (fun oi hoi => ?_)
            simp only [List.getElem?_toArray, List.getElem?_cons_zero, List.getElem?_cons_succ, Option.some.injEq] at hoi; subst hoi
            refine ⟨?_, by rfl, fun wx hSx => ?_, ?_⟩
            rotate_left
            · have ⟨s1, s2, s3, s4, s5⟩ := hSx
              go_simp
              try with_reducible rfl
            try simp only [Act.put, List.setIfInBounds_toArray, List.set_cons_zero, List.set_cons_succ]
            refine wpAnyS_take (i := 17) (by as_aux_lemma => kernel_rfl) (by as_aux_lemma => kernel_rfl) (by as_aux_lemma => kernel_rfl) (by as_aux_lemma => kernel_rfl) (by as_aux_lemma => kernel_rfl) (by as_aux_lemma => kernel_rfl) (by as_aux_lemma => kernel_rfl) (by as_aux_lemma => kernel_rfl) (by intro c a d v w h; cases d <;> exact h) hSS (fun oi hoi => ?_)
            simp only [List.getElem?_toArray, List.getElem?_cons_zero, List.getElem?_cons_succ, Option.some.injEq] at hoi; subst hoi
            refine ⟨?_, by rfl, fun wx hSx => ?_, ?_⟩
            rotate_left
            · have ⟨s1, s2, s3, s4, s5⟩ := hSx
              go_simp
              try with_reducible rfl
            try simp only [Act.put, List.setIfInBounds_toArray, List.set_cons_zero, List.set_cons_succ]
            refine wpAnyS_take (i := 18) (by as_aux_lemma => kernel_rfl) (by as_aux_lemma => kernel_rfl) (by as_aux_lemma => kernel_rfl) (by as_aux_lemma => kernel_rfl) (by as_aux_lemma => kernel_rfl) (by as_aux_lemma => kernel_rfl) (by as_aux_lemma => kernel_rfl) (by as_aux_lemma => kernel_rfl) (by intro c a d v w h; cases d <;> exact h) hSS (fun oi hoi => ?_)
            simp only [List.getElem?_toArray, List.getElem?_cons_zero, List.getElem?_cons_succ, Option.some.injEq] at hoi; subst hoi
            refine ⟨?_, by rfl, fun wx hSx => ?_, ?_⟩
            rotate_left
            · have ⟨s1, s2, s3, s4, s5⟩ := hSx
              go_simp
              try with_reducible rfl
            try simp only [Act.put, List.setIfInBounds_toArray, List.set_cons_zero, List.set_cons_succ]
            refine wpAnyS_take (i := 19) (by as_aux_lemma => kernel_rfl) (by as_aux_lemma => kernel_rfl) (by as_aux_lemma => kernel_rfl) (by as_aux_lemma => kernel_rfl) (by as_aux_lemma => kernel_rfl) (by as_aux_lemma => kernel_rfl) (by as_aux_lemma => kernel_rfl) (by as_aux_lemma => kernel_rfl) (by intro c a d v w h; cases d <;> exact h) hSS (fun oi hoi => ?_)
            simp only [List.getElem?_toArray, List.getElem?_cons_zero, List.getElem?_cons_succ, Option.some.injEq] at hoi; subst hoi
            refine ⟨?_, by rfl, fun wx hSx => ?_, ?_⟩
            rotate_left
            · have ⟨s1, s2, s3, s4, s5⟩ := hSx
              go_simp
              try with_reducible rfl
            try simp only [Act.put, List.setIfInBounds_toArray, List.set_cons_zero, List.set_cons_succ]
            refine wpAnyS_take (i := 20) (by as_aux_lemma => kernel_rfl) (by as_aux_lemma => kernel_rfl) (by as_aux_lemma => kernel_rfl) (by as_aux_lemma => kernel_rfl) (by as_aux_lemma => kernel_rfl) (by as_aux_lemma => kernel_rfl) (by as_aux_lemma => kernel_rfl) (by as_aux_lemma => kernel_rfl) (by intro c a d v w h; cases d <;> exact h) hSS (fun oi hoi => ?_)
            simp only [List.getElem?_toArray, List.getElem?_cons_zero, List.getElem?_cons_succ, Option.some.injEq] at hoi; subst hoi
            refine ⟨?_, by rfl, fun wx hSx => ?_, ?_⟩
            rotate_left
            · have ⟨s1, s2, s3, s4, s5⟩ := hSx
              go_simp
              try with_reducible rfl
            try simp only [Act.put, List.setIfInBounds_toArray, List.set_cons_zero, List.set_cons_succ]
            refine wpAnyS_take (i := 21) (by as_aux_lemma => kernel_rfl) (by as_aux_lemma => kernel_rfl) (by as_aux_lemma => kernel_rfl) (by as_aux_lemma => kernel_rfl) (by as_aux_lemma => kernel_rfl) (by as_aux_lemma => kernel_rfl) (by as_aux_lemma => kernel_rfl) (by as_aux_lemma => kernel_rfl) (by intro c a d v w h; cases d <;> exact h) hSS (fun oi hoi => ?_)
            simp only [List.getElem?_toArray, List.getElem?_cons_zero, List.getElem?_cons_succ, Option.some.injEq] at hoi; subst hoi
            refine ⟨?_, by rfl, fun wx hSx => ?_, ?_⟩
            rotate_left
            · have ⟨s1, s2, s3, s4, s5⟩ := hSx
              go_simp
              try with_reducible rfl
            try simp only [Act.put, List.setIfInBounds_toArray, List.set_cons_zero, List.set_cons_succ]
            refine wpAnyS_one (i := 22) (by as_aux_lemma => kernel_rfl) ?_
            intro oi hoi K hK
            simp only [List.getElem?_toArray, List.getElem?_cons_zero, List.getElem?_cons_succ, Option.some.injEq] at hoi; subst hoi
            go_simp
            refine hK.out _ _ (fun _ => ⟨cell_alloc_l' _ m2, cell_alloc_l' _ b0, cell_alloc_l' _ b1, cell_alloc_l' _ b2, cell_alloc_l' _ b3⟩) ?_
            clear hK K
            try simp only [Act.put, List.setIfInBounds_toArray, List.set_cons_zero, List.set_cons_succ]
            refine wpAnyS_one (i := 23) (by as_aux_lemma => kernel_rfl) ?_
            intro oi hoi K hK
            simp only [List.getElem?_toArray, List.getElem?_cons_zero, List.getElem?_cons_succ, Option.some.injEq] at hoi; subst hoi
            refine step_append_hp (by rfl) _ _ 23 (by rfl) 61 i1 _ 4 4 Tryz.underlying23 hi' hz0' hz1' hz2' rfl (by decide) (Hp.alloc hH.out.drew _) (by rfl) ⟨wr.heap.size, 0, none⟩ 1 1 (i4c (xo, xa, xc, xd)) (by rfl) (by rfl) (blk_newsU (l := i4c (xo, xa, xc, xd)) (blk_alloc_new _ _)) (by simp [Value.oneCell', bv, i4c]) (by have := HLK.out; have := HLT.out; have := hDC.out; omega) (by omega) ?_
            intro v7 w7 HA0
            have HA := on_snoc HA0
            have hvt : ∃ q1 q2 q3, v7 = .slice q1 q2 q3 := by obtain ⟨q1, q3, h⟩ := own_slice HA0; exact ⟨q1, _, q3, h⟩
            obtain ⟨y1, y2, y3, rfl⟩ := hvt
            have m3 : w7.cell? ⟨mb, 2, none⟩ = some (.slice vv tk.length cvv) := (im_cells (HA.pull 1 rfl)).2.2
            have f3 := free_blk (blk_get (HA.pull 1 rfl)) 2
            have hSS : (fun (x : World) => x.cell? ⟨mb, 2, none⟩ = some (.slice vv tk.length cvv) ∧ x.cell? ⟨g, o + p, none⟩ = some (bv xo) ∧ x.cell? ⟨g, o + (p + 1), none⟩ = some (bv xa) ∧ x.cell? ⟨g, o + (p + 2), none⟩ = some (bv xc) ∧ x.cell? ⟨g, o + (p + 3), none⟩ = some (bv xd)) w7 := ⟨m3, HB4.out _ _ HA⟩
            refine hK.out _ _ (fun _ => hSS) ?_
            have HA1 := Lib.hid HA
            clear hK K HA0 HA m2 b0 b1 b2 b3 hH
            try simp only [Act.put, List.setIfInBounds_toArray, List.set_cons_zero, List.set_cons_succ]
            refine wpAnyS_take (i := 24) (by as_aux_lemma => kernel_rfl) (by as_aux_lemma => kernel_rfl) (by as_aux_lemma => kernel_rfl) (by as_aux_lemma => kernel_rfl) (by as_aux_lemma => kernel_rfl) (by as_aux_lemma => kernel_rfl) (by as_aux_lemma => kernel_rfl) (by as_aux_lemma => kernel_rfl) (by intro c a d v w h; cases d <;> exact h) hSS (fun oi hoi => ?_)
            simp only [List.getElem?_toArray, List.getElem?_cons_zero, List.getElem?_cons_succ, Option.some.injEq] at hoi; subst hoi
            refine ⟨?_, by rfl, fun wx hSx => ?_, ?_⟩
            rotate_left
            · have ⟨s1, s2, s3, s4, s5⟩ := hSx
              go_simp
              try with_reducible rfl
            try simp only [Act.put, List.setIfInBounds_toArray, List.set_cons_zero, List.set_cons_succ]
            refine wpAnyS_one (i := 25) (by as_aux_lemma => kernel_rfl) ?_
            intro oi hoi K hK
            simp only [List.getElem?_toArray, List.getElem?_cons_zero, List.getElem?_cons_succ, Option.some.injEq] at hoi; subst hoi
            go_simp
            refine hK.out _ _ (fun h => absurd h (by decide)) ?_
            clear hK K
            try simp only [Act.put, List.setIfInBounds_toArray, List.set_cons_zero, List.set_cons_succ]
            refine wpAnyS_done (by as_aux_lemma => kernel_rfl) ?_ _
            have H7 : Hid (Hp w (w7.setCell ⟨mb, 2, none⟩ (.slice y1 y2 y3)) (OwnN (.slice y1 y2 y3) (tk ++ [(xo, xa, xc, xd)]) :: IM mb N (.slice av dl.length cv) (.slice y1 y2 y3) :: OwnU (.slice av dl.length cv) dl :: [Blk w.heap.size (.cells zI 25 (0, 0))])) := Lib.hid ((blk_set (HA1.out.pull 1 rfl) 2 (.slice y1 y2 y3)).pull 1 rfl)
            clear HA1 m3 f3 hSS u1 u2 u3 z1 z2 z3 n1 n2 n3 l0 l1 l2 l3
            generalize (w7.setCell ⟨mb, 2, none⟩ (.slice y1 y2 y3)) = w8 at *
            go_wp2
            go_roundw
            case rel => exact ⟨k + 1, _, by have := HLT.out; omega, by first | go_num | (simp [hw5.out]), by rw [htk.out]; exact H7⟩
            case measure => have := HLT.out; have := hw5.out; simp_all [intOf]; omega
          · obtain rfl : k = C := by omega
            have e2 : code.take k = code := List.take_of_length_le (by have := HCL.out; omega)
            rw [e2] at hH
            obtain ⟨va, vc, rfl⟩ := own_slice hH.out
            have CK := Lib.hid (rimck_c (N : Int) av va cv vc dl code wr (CellsIn.own hH.out))
            obtain ⟨m0, m1, m2⟩ := im_cells (hH.out.pull 1 rfl)
            clear e2 hlt hk k1 k2 k3 k4 k5 q1 q2 q3 hne
            go_wp2_with fail
            refine CK.out.mono ?_
            clear CK m0 m1 m2
            cases hik : imck (N : Int) dl code with
            | false =>
              have ho : oo = none := by rw [HO.out, if_neg (by rw [hik]; simp)]
              have HO3 := Lib.hid ho
              rintro e w5 ⟨rfl, hb⟩
              have H7 := Lib.hid (hH.out.below_read hb)
              clear hb hH HO hik ho
              go_upto_region 15 with fail
              have bz := blk_get (H7.out.pull 3 rfl)
              have z0 : w5.cell? ⟨w.heap.size, 0, none⟩ = some (.int .i64 0) := cell_blk bz 0
              have e0 := free_blk bz 0
              have z1 : w5.cell? ⟨w.heap.size, 1, none⟩ = some (.slice none 0 0) := cell_blk bz 1
              have e1 := free_blk bz 1
              have z2 : w5.cell? ⟨w.heap.size, 2, none⟩ = some (.slice none 0 0) := cell_blk bz 2
              have e2 := free_blk bz 2
              have H9 := Lib.hid (set3 (H7.out.pull 3 rfl) (.int .i64 0) (.slice none 0 0) (.slice none 0 0))
              clear bz H7
              go_wp2
              refine bodyPost_ret (results_cell_tmp_row rfl _ _ w.heap.size _ _ _ _ rfl (blk_get H9.out) Tryz.underlying25 rfl im_info) rfl ?_
              exact geto_none HO3.out H9.out.below
            | true =>
              have ho : oo = some (N, dl, code) := by rw [HO.out, if_pos hik]
              have HO3 := Lib.hid ho
              rintro e w5 ⟨rfl, hb⟩
              have H7 := Lib.hid (hH.out.below_read hb)
              clear hb hH HO hik ho
              go_upto_region 16 with fail
              obtain ⟨m0, m1, m2⟩ := im_cells (H7.out.pull 1 rfl)
              have bz := blk_get (H7.out.pull 3 rfl)
              have z0 : w5.cell? ⟨w.heap.size, 0, none⟩ = some (.int .i64 0) := cell_blk bz 0
              have e0 := free_blk bz 0
              have z1 : w5.cell? ⟨w.heap.size, 1, none⟩ = some (.slice none 0 0) := cell_blk bz 1
              have e1 := free_blk bz 1
              have z2 : w5.cell? ⟨w.heap.size, 2, none⟩ = some (.slice none 0 0) := cell_blk bz 2
              have e2 := free_blk bz 2
              have H9 := Lib.hid (set3 (H7.out.pull 3 rfl) (.int .i64 N) (.slice av dl.length cv) (.slice va code.length vc))
              clear bz H7
              go_wp2
              refine bodyPost_ret (results_cell_tmp_row rfl _ _ w.heap.size _ _ _ _ rfl (blk_get H9.out) Tryz.underlying25 rfl im_info) rfl ?_
              exact geto_some HO3.out rfl rfl (ownm_of (((H9.out.tail.pull 1 rfl).tail).pull 1 rfl))
      · have hne : ((r.length : Int) + 9 != 9 + (D : Int) + 4 * (C : Int)) = true := by simp; omega
        have ho : oo = none := by rw [HG.out, if_neg hl]
        have HN := Lib.hid ho
        clear HG ho hl hn hd hc
        go_upto_region 7 with fail
        have bz := blk_get (H4.out.pull 1 rfl)
        have z0 : w4.cell? ⟨w.heap.size, 0, none⟩ = some (.int .i64 0) := cell_blk bz 0
        have e0 := free_blk bz 0
        have z1 : w4.cell? ⟨w.heap.size, 1, none⟩ = some (.slice none 0 0) := cell_blk bz 1
        have e1 := free_blk bz 1
        have z2 : w4.cell? ⟨w.heap.size, 2, none⟩ = some (.slice none 0 0) := cell_blk bz 2
        have e2 := free_blk bz 2
        have H5 := Lib.hid (set3 (H4.out.pull 1 rfl) (.int .i64 0) (.slice none 0 0) (.slice none 0 0))
        clear bz H4
        go_wp2
        refine bodyPost_ret (results_cell_tmp_row rfl _ _ w.heap.size _ _ _ _ rfl (blk_get H5.out) Tryz.underlying25 rfl im_info) rfl ?_
        exact geto_none HN.out H5.out.below
    · have hn : imget b = none := by
        rcases head_cases b with ⟨_, hn⟩ | ⟨_, _, hn⟩ | ⟨n1, n0, d1, d0, c1, c0, r, rfl⟩
        · exact hn
        · exact hn
        · exact absurd rfl hpre
      have HN := Lib.hid hn
      have hne : (b.take 3 == [116, 107, 49]) = false := by simpa using hpre
      generalize imget b = oo at *
      generalize b.take 3 = t3 at *
      clear hn hpre h9
      go_enter Tryz.func20, Tryz.ntmps20
      go_upto_region 2 with fail
      have bz := blk_get (H1.out)
      have z0 : (w.alloc (.cells zI 25)).cell? ⟨w.heap.size, 0, none⟩ = some (.int .i64 0) := cell_blk bz 0
      have e0 := free_blk bz 0
      have z1 : (w.alloc (.cells zI 25)).cell? ⟨w.heap.size, 1, none⟩ = some (.slice none 0 0) := cell_blk bz 1
      have e1 := free_blk bz 1
      have z2 : (w.alloc (.cells zI 25)).cell? ⟨w.heap.size, 2, none⟩ = some (.slice none 0 0) := cell_blk bz 2
      have e2 := free_blk bz 2
      have H5 := Lib.hid (set3 (H1.out) (.int .i64 0) (.slice none 0 0) (.slice none 0 0))
      clear bz
      generalize (w.alloc (.cells zI 25)) = w2 at *
      go_wp2
      refine bodyPost_ret (results_cell_tmp_row rfl _ _ w.heap.size _ _ _ _ rfl (blk_get H5.out) Tryz.underlying25 rfl im_info) rfl ?_
      exact geto_none HN.out H5.out.below
end Go.Proofs.YtcfoljdpffonhaaGreatDoor
