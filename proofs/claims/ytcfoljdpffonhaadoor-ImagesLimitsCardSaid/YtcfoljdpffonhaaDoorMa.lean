/- Images: ImagesLimits, walked. -/
import Derived.Test.YtcfoljdpffonhaaDoorLq
import Derived.Test.YtcfoljdpffonhaaDoorLx
import Derived.RegionTactic
import Derived.ChangeAlike
import Derived.BigRegion
import Derived.Outline
set_option linter.unusedVariables false
set_option linter.unusedSimpArgs false
namespace Go.Proofs.YtcfoljdpffonhaaDoor
open Go.RowKit Go.Joins Go.Shelf
attribute [local go_sem] Oper.semAt_some

def zU (D : Nat) : Array Value := madeCells #[.int .u8 0] (D * 1)
def zC (K : Nat) : Array Value := madeCells #[.int .u8 0, .int .u8 0, .int .u8 0, .int .u8 0] (K * 4)
theorem mk_u8 (D : Nat) (hD : D ≤ 100000) (W : World) : (Instr.makeSlice 22 (.int .i64 (D : Int)) (.int .i64 (D : Int))).run Tryd.prog W = .ok (.slice (some ⟨W.heap.size, 0, none⟩) D D) (W.alloc (.cells (zU D) 5)) := by
  obtain ⟨i0, hi, hz0, hz1, hz2⟩ := info_parts info_u8
  have := run_make (P := Tryd.prog) W 22 5 i0 _ Tryd.underlying22 hi hz0 .i64 .i64 (D : Int) (D : Int) (by omega) (Int.le_refl _) (by rw [hz2]; omega) (by omega)
  rw [hz1] at this
  simpa [zU, Value.cells] using this
theorem mk_ins (K : Nat) (hK : K ≤ 100000) (W : World) : (Instr.makeSlice 23 (.int .i64 (K : Int)) (.int .i64 (K : Int))).run Tryd.prog W = .ok (.slice (some ⟨W.heap.size, 0, none⟩) K K) (W.alloc (.cells (zC K) 46)) := by
  obtain ⟨i0, hi, hz0, hz1, hz2⟩ := info_parts info_ins
  have := run_make (P := Tryd.prog) W 23 46 i0 _ Tryd.underlying23 hi hz0 .i64 .i64 (K : Int) (K : Int) (by omega) (Int.le_refl _) (by rw [hz2]; omega) (by omega)
  rw [hz1] at this
  simpa [zC, Value.cells] using this
theorem zU_list (D : Nat) : (zU D).toList = (List.replicate D (0 : UInt8)).map bv := by
  unfold zU
  rw [toList_madeCells_one, Nat.mul_one, List.map_replicate]
  rfl
theorem ics_zero : ∀ K : Nat, ics (List.replicate K ((0, 0, 0, 0) : I4)) = List.replicate (K * 4) (Value.int .u8 0)
  | 0 => rfl
  | K + 1 => by
    have ih := ics_zero K
    have : ics (List.replicate (K + 1) ((0, 0, 0, 0) : I4)) = i4c (0, 0, 0, 0) ++ ics (List.replicate K ((0, 0, 0, 0) : I4)) := by rw [List.replicate_succ]; rfl
    rw [this, ih, show (K + 1) * 4 = K * 4 + 1 + 1 + 1 + 1 by omega]
    simp only [List.replicate_succ]
    rfl
theorem zC_list (K : Nat) : (zC K).toList = ics (List.replicate K ((0, 0, 0, 0) : I4)) := by
  rw [ics_zero]
  apply List.ext_getElem?
  intro j
  by_cases hj : j < K * 4
  · have : j % 4 < 4 := Nat.mod_lt _ (by omega)
    have h4 : j % 4 = 0 ∨ j % 4 = 1 ∨ j % 4 = 2 ∨ j % 4 = 3 := by omega
    rcases h4 with h | h | h | h <;> simp [zC, madeCells, hj, h]
  · simp [zC, madeCells, hj]
theorem blk_inA {w0 w : World} {r : List Thing} {g : Nat} {cur : Array Value} {l : List Value} {t : TypeId} {f : Nat × Nat} (H : Hp w0 w (Blk g (.cells cur t f) :: r)) (h : cur.toList = l) : CellsIn w (some ⟨g, 0, none⟩) l := by
  subst h
  exact blk_in (l := cur.toList) (by simpa using H)
theorem imck_zero (n D K : Nat) : imck (n : Int) (List.replicate D 0) (List.replicate K (0, 0, 0, 0)) = (decide (n ≤ 4096) && decide (K ≤ 1024) && decide (D ≤ n)) := by
  have hall : (List.replicate K ((0, 0, 0, 0) : I4)).all ik = true := by
    rw [List.all_eq_true]
    intro x hx
    obtain ⟨_, rfl⟩ := List.mem_replicate.1 hx
    decide
  unfold imck
  rw [hall, Bool.and_true, List.length_replicate, List.length_replicate]
  by_cases h1 : n ≤ 4096 <;> by_cases h2 : K ≤ 1024 <;> by_cases h3 : D ≤ n <;> simp [h1, h2, h3] <;> omega
theorem may_no {n D K : Nat} (h : (decide (n ≤ 4096) && decide (K ≤ 1024) && decide (D ≤ n)) = false) : ¬ (n : Int) ≤ 4096 ∨ ((n : Int) ≤ 4096 ∧ ¬ (K : Int) ≤ 1024) ∨ ((n : Int) ≤ 4096 ∧ (K : Int) ≤ 1024 ∧ ¬ (D : Int) ≤ (n : Int)) := by
  by_cases h1 : n ≤ 4096
  · by_cases h2 : K ≤ 1024
    · by_cases h3 : D ≤ n
      · simp [h1, h2, h3] at h
      · exact Or.inr (Or.inr ⟨by omega, by omega, by omega⟩)
    · exact Or.inr (Or.inl ⟨by omega, by omega⟩)
  · exact Or.inl (by omega)
theorem alive_hp {w0 w : World} {r : List Thing} (L : Lf w0) (H : Hp w0 w r) : Calls Tryd.prog 9 #[] w fun e w' => e = .returned (.bool true) ∧ Below w.heap.size w w' :=
  (alive_c (Lf.hp L H) (Hp.start w)).mono (fun e w' h => ⟨h.1, h.2.below⟩)
theorem tmod3 (t : Int) : -2 ≤ t.tmod 3 ∧ t.tmod 3 ≤ 2 := by
  cases t with
  | ofNat n => show -2 ≤ ((n % 3 : Nat) : Int) ∧ ((n % 3 : Nat) : Int) ≤ 2; omega
  | negSucc n => show -2 ≤ -(((n + 1) % 3 : Nat) : Int) ∧ -(((n + 1) % 3 : Nat) : Int) ≤ 2; omega
set_option maxHeartbeats 16000000 in
set_option maxRecDepth 20000 in
theorem limits_c (w : World) (L : Lf w) (s c : Nat) (t : Int) (hs : s < 256) (hc : c < 256) (ht : -128 ≤ t ∧ t ≤ 127) :
    Calls Tryd.prog 4 #[.int .u8 s, .int .u8 c, .int .i8 t] w fun e w' => e = .returned (.bool true) ∧ Below w.heap.size w w' := by
  have H0 := Lib.hid (Hp.start w)
  have AC := Lib.hid (fun (w' : World) (r : List Thing) (H : Hp w w' r) => alive_c L H)
  obtain ⟨a, ha, ha9⟩ : ∃ a : Nat, (s : Int) % 10 = (a : Int) ∧ a ≤ 9 := ⟨s % 10, by omega, by omega⟩
  obtain ⟨b, hb, hb9⟩ : ∃ b : Nat, (c : Int) % 10 = (b : Int) ∧ b ≤ 9 := ⟨c % 10, by omega, by omega⟩
  obtain ⟨q, hq, hq1, hq2⟩ : ∃ q : Int, t.tmod 3 = q ∧ -2 ≤ q ∧ q ≤ 2 := ⟨_, rfl, (tmod3 t).1, (tmod3 t).2⟩
  obtain ⟨n, e1, n1, n2⟩ : ∃ n : Nat, 4091 + (a : Int) = (n : Int) ∧ 4091 ≤ n ∧ n ≤ 4100 := ⟨4091 + a, by omega, by omega, by omega⟩
  obtain ⟨K, e2, k1, k2⟩ : ∃ K : Nat, 1019 + (b : Int) = (K : Int) ∧ 1019 ≤ K ∧ K ≤ 1028 := ⟨1019 + b, by omega, by omega, by omega⟩
  obtain ⟨D, e3, d1, d2⟩ : ∃ D : Nat, max 0 ((n : Int) + q) = (D : Int) ∧ D ≤ n + 2 ∧ n ≤ D + 2 := ⟨((n : Int) + q).toNat, by omega, by omega, by omega⟩
  have mkD := fun W => mk_u8 D (by omega) W
  have mkC := fun W => mk_ins K (by omega) W
  go_enter Tryd.func4, Tryd.ntmps4
  go_wp2
  clear ha hb hq e1 e2 e3
  go_region
  all_goals clear mkD mkC
  · have HB := blk_new_at (blk_new_at (blk_new (Hp.start w) (.cells (zU D) 5)) (.cells (zC K) 46) (w.heap.size + 1) (size_alloc1 _ _)) (.cells #[.int .i64 (n : Int), .slice (some ⟨w.heap.size, 0, none⟩) D D, .slice (some ⟨w.heap.size + 1, 0, none⟩) K K] 25) (w.heap.size + 1 + 1) (size_alloc2 _ _ _)
    have H1 := Lib.hid (Hp.drew (((HB.pull 2 rfl).pull 2 rfl).pull 2 rfl))
    clear HB
    generalize (((w.alloc (.cells (zU D) 5)).alloc (.cells (zC K) 46)).alloc (.cells #[.int .i64 (n : Int), .slice (some ⟨w.heap.size, 0, none⟩) D D, .slice (some ⟨w.heap.size + 1, 0, none⟩) K K] 25)).drew = W1 at *
    generalize w.heap.size + 1 + 1 = gx at *
    generalize w.heap.size + 1 = gk at *
    generalize w.heap.size = gd at *
    obtain ⟨x0, x1, x2⟩ := im_cells H1.out
    have CU := Lib.hid (blk_inA (H1.out.pull 2 rfl) (zU_list D))
    have CC := Lib.hid (blk_inA (H1.out.pull 1 rfl) (zC_list K))
    cases hk : imck (n : Int) (List.replicate D 0) (List.replicate K (0, 0, 0, 0)) with
    | true =>
      have HK := Lib.hid hk
      rw [imck_zero] at hk
      simp only [Bool.and_eq_true, decide_eq_true_eq] at hk
      obtain ⟨⟨m1, m2⟩, m3⟩ := hk
      have m4 : (n : Int) ≤ 4096 := by omega
      have m5 : (K : Int) ≤ 1024 := by omega
      have m6 : (D : Int) ≤ (n : Int) := by omega
      have P := Lib.hid (imput_c n (some ⟨gd, 0, none⟩) (some ⟨gk, 0, none⟩) D K (List.replicate D 0) (List.replicate K (0, 0, 0, 0)) W1 CU.out CC.out HK.out)
      have HG2 := Lib.hid (imget_put HK.out)
      have HSH := Lib.hid (imput_short HK.out)
      rw [List.length_replicate, List.length_replicate] at P
      obtain ⟨bb, hbb⟩ : ∃ x, x = imput n (List.replicate D 0) (List.replicate K (0, 0, 0, 0)) := ⟨_, rfl⟩
      rw [← hbb] at P HG2 HSH
      clear hbb
      go_wp2_with fail
      refine P.out.mono ?_; rintro e2 w2 ⟨v2, rfl, K2⟩
      have H2 := Lib.hid (H1.out.lift K2)
      obtain ⟨a2, c2, rfl⟩ := own_slice K2
      clear P x0 x1 x2
      obtain ⟨x0, x1, x2⟩ := im_cells (H2.out.pull 1 rfl)
      have CK := Lib.hid (imcheck_c (n : Int) (some ⟨gd, 0, none⟩) (some ⟨gk, 0, none⟩) D K (List.replicate D 0) (List.replicate K (0, 0, 0, 0)) w2 (CC.out.below K2.below))
      rw [HK.out, List.length_replicate, List.length_replicate] at CK
      clear K2 H1
      go_wp2_with fail
      refine CK.out.mono ?_; rintro e3 w3 ⟨rfl, hb⟩
      have H3 := Lib.hid (H2.out.below_read hb)
      clear hb CK H2 x0 x1 x2
      have GC := Lib.hid (imget_c a2 c2 bb w3 (CellsIn.own H3.out) (by have := HSH.out; omega))
      rw [HG2.out] at GC
      go_wp2_with fail
      refine GC.out.mono ?_; intro e4 w4 h4
      obtain ⟨hb, ae, de, af, df, he4, he, hf⟩ := h4
      rw [List.length_replicate, List.length_replicate] at he4
      subst he4
      have H4 := Lib.hid (blk_new (H3.out.below_read hb) (.cells #[.int .i64 (n : Int), .slice ae D de, .slice af K df] 25))
      have HE := Lib.hid (he.read ((Tch.refl _ _).alloc (.cells #[.int .i64 (n : Int), .slice ae D de, .slice af K df] 25)))
      have HF := Lib.hid (hf.read ((Tch.refl _ _).alloc (.cells #[.int .i64 (n : Int), .slice ae D de, .slice af K df] 25)))
      clear hb GC H3 he hf CU CC
      go_upto_region 12 with fail
      generalize (w4.alloc (.cells #[.int .i64 (n : Int), .slice ae D de, .slice af K df] 25)) = w5 at *
      generalize w4.heap.size = gz at *
      have AL := Lib.hid (AC.out w5 [] ⟨H4.out.below, trivial⟩)
      go_wp2_with fail
      refine (alive_hp L H4.out).mono ?_; rintro e5 w6 ⟨rfl, hb⟩
      have H6 := Lib.hid (H4.out.below_read hb)
      have HE6 := Lib.hid (HE.out.below hb)
      have HF6 := Lib.hid (HF.out.below hb)
      clear AL H4 HE HF hb
      obtain ⟨y0, y1, y2⟩ := im_cells H6.out
      obtain ⟨x0, x1, x2⟩ := im_cells (H6.out.pull 2 rfl)
      have SI := Lib.hid (same_image n n ae (some ⟨gd, 0, none⟩) af (some ⟨gk, 0, none⟩) de D df K (List.replicate D 0) (List.replicate D 0) (List.replicate K (0, 0, 0, 0)) (List.replicate K (0, 0, 0, 0)) w6 HE6.out (blk_inA (H6.out.pull 4 rfl) (zU_list D)) HF6.out (blk_inA (H6.out.pull 3 rfl) (zC_list K)) (by rw [List.length_replicate]; omega) (by rw [List.length_replicate]; omega) (by rw [List.length_replicate]; omega) (by rw [List.length_replicate]; omega))
      rw [List.length_replicate, List.length_replicate] at SI
      go_wp2_with fail
      refine SI.out.mono ?_; rintro e7 w7 ⟨rfl, hb⟩
      have H7 := Lib.hid (H6.out.below_read hb)
      clear hb SI H6 x0 x1 x2 y0 y1 y2
      go_wp2
      go_ret
      exact ⟨by simp, H7.out.below⟩
    | false =>
      have HK := Lib.hid hk
      rw [imck_zero] at hk
      rcases may_no hk with m4 | ⟨m4, m5⟩ | ⟨m4, m5, m6⟩
      · have P := Lib.hid (imput_no (n : Int) (some ⟨gd, 0, none⟩) (some ⟨gk, 0, none⟩) D K (List.replicate D 0) (List.replicate K (0, 0, 0, 0)) W1 CC.out HK.out)
        rw [List.length_replicate, List.length_replicate] at P
        go_wp2_with fail
        refine P.out.mono ?_; rintro e2 w2 ⟨rfl, hb⟩
        have H2 := Lib.hid (H1.out.below_read hb)
        clear P x0 x1 x2
        obtain ⟨x0, x1, x2⟩ := im_cells H2.out
        have CK := Lib.hid (imcheck_c (n : Int) (some ⟨gd, 0, none⟩) (some ⟨gk, 0, none⟩) D K (List.replicate D 0) (List.replicate K (0, 0, 0, 0)) w2 (CC.out.below hb))
        rw [HK.out, List.length_replicate, List.length_replicate] at CK
        clear hb H1
        go_wp2_with fail
        refine CK.out.mono ?_; rintro e3 w3 ⟨rfl, hb⟩
        have H3 := Lib.hid (H2.out.below_read hb)
        clear hb CK H2 x0 x1 x2
        go_wp2_with fail
        refine (alive_hp L H3.out).mono ?_; rintro e5 w6 ⟨rfl, hb⟩
        have H6 := Lib.hid (H3.out.below_read hb)
        clear hb H3
        go_wp2
        go_ret
        exact ⟨rfl, H6.out.below⟩
      · have P := Lib.hid (imput_no (n : Int) (some ⟨gd, 0, none⟩) (some ⟨gk, 0, none⟩) D K (List.replicate D 0) (List.replicate K (0, 0, 0, 0)) W1 CC.out HK.out)
        rw [List.length_replicate, List.length_replicate] at P
        go_wp2_with fail
        refine P.out.mono ?_; rintro e2 w2 ⟨rfl, hb⟩
        have H2 := Lib.hid (H1.out.below_read hb)
        clear P x0 x1 x2
        obtain ⟨x0, x1, x2⟩ := im_cells H2.out
        have CK := Lib.hid (imcheck_c (n : Int) (some ⟨gd, 0, none⟩) (some ⟨gk, 0, none⟩) D K (List.replicate D 0) (List.replicate K (0, 0, 0, 0)) w2 (CC.out.below hb))
        rw [HK.out, List.length_replicate, List.length_replicate] at CK
        clear hb H1
        go_wp2_with fail
        refine CK.out.mono ?_; rintro e3 w3 ⟨rfl, hb⟩
        have H3 := Lib.hid (H2.out.below_read hb)
        clear hb CK H2 x0 x1 x2
        go_wp2_with fail
        refine (alive_hp L H3.out).mono ?_; rintro e5 w6 ⟨rfl, hb⟩
        have H6 := Lib.hid (H3.out.below_read hb)
        clear hb H3
        go_wp2
        go_ret
        exact ⟨rfl, H6.out.below⟩
      · have P := Lib.hid (imput_no (n : Int) (some ⟨gd, 0, none⟩) (some ⟨gk, 0, none⟩) D K (List.replicate D 0) (List.replicate K (0, 0, 0, 0)) W1 CC.out HK.out)
        rw [List.length_replicate, List.length_replicate] at P
        go_wp2_with fail
        refine P.out.mono ?_; rintro e2 w2 ⟨rfl, hb⟩
        have H2 := Lib.hid (H1.out.below_read hb)
        clear P x0 x1 x2
        obtain ⟨x0, x1, x2⟩ := im_cells H2.out
        have CK := Lib.hid (imcheck_c (n : Int) (some ⟨gd, 0, none⟩) (some ⟨gk, 0, none⟩) D K (List.replicate D 0) (List.replicate K (0, 0, 0, 0)) w2 (CC.out.below hb))
        rw [HK.out, List.length_replicate, List.length_replicate] at CK
        clear hb H1
        go_wp2_with fail
        refine CK.out.mono ?_; rintro e3 w3 ⟨rfl, hb⟩
        have H3 := Lib.hid (H2.out.below_read hb)
        clear hb CK H2 x0 x1 x2
        go_wp2_with fail
        refine (alive_hp L H3.out).mono ?_; rintro e5 w6 ⟨rfl, hb⟩
        have H6 := Lib.hid (H3.out.below_read hb)
        clear hb H3
        go_wp2
        go_ret
        exact ⟨rfl, H6.out.below⟩
  · have HB := blk_new_at (blk_new_at (blk_new (Hp.start w) (.cells (zU D) 5)) (.cells #[.int .i64 (n : Int), .slice (some ⟨w.heap.size, 0, none⟩) D D, .slice (some ⟨w.heap.size + 1 + 1, 0, none⟩) K K] 25) (w.heap.size + 1) (size_alloc1 _ _)) (.cells (zC K) 46) (w.heap.size + 1 + 1) (size_alloc2 _ _ _)
    have H1 := Lib.hid (Hp.drew (((HB.pull 2 rfl).pull 1 rfl).pull 2 rfl))
    clear HB
    generalize (((w.alloc (.cells (zU D) 5)).alloc (.cells #[.int .i64 (n : Int), .slice (some ⟨w.heap.size, 0, none⟩) D D, .slice (some ⟨w.heap.size + 1 + 1, 0, none⟩) K K] 25)).alloc (.cells (zC K) 46)).drew = W1 at *
    generalize w.heap.size + 1 + 1 = gk at *
    generalize w.heap.size + 1 = gx at *
    generalize w.heap.size = gd at *
    obtain ⟨x0, x1, x2⟩ := im_cells H1.out
    have CU := Lib.hid (blk_inA (H1.out.pull 2 rfl) (zU_list D))
    have CC := Lib.hid (blk_inA (H1.out.pull 1 rfl) (zC_list K))
    cases hk : imck (n : Int) (List.replicate D 0) (List.replicate K (0, 0, 0, 0)) with
    | true =>
      have HK := Lib.hid hk
      rw [imck_zero] at hk
      simp only [Bool.and_eq_true, decide_eq_true_eq] at hk
      obtain ⟨⟨m1, m2⟩, m3⟩ := hk
      have m4 : (n : Int) ≤ 4096 := by omega
      have m5 : (K : Int) ≤ 1024 := by omega
      have m6 : (D : Int) ≤ (n : Int) := by omega
      have P := Lib.hid (imput_c n (some ⟨gd, 0, none⟩) (some ⟨gk, 0, none⟩) D K (List.replicate D 0) (List.replicate K (0, 0, 0, 0)) W1 CU.out CC.out HK.out)
      have HG2 := Lib.hid (imget_put HK.out)
      have HSH := Lib.hid (imput_short HK.out)
      rw [List.length_replicate, List.length_replicate] at P
      obtain ⟨bb, hbb⟩ : ∃ x, x = imput n (List.replicate D 0) (List.replicate K (0, 0, 0, 0)) := ⟨_, rfl⟩
      rw [← hbb] at P HG2 HSH
      clear hbb
      go_wp2_with fail
      refine P.out.mono ?_; rintro e2 w2 ⟨v2, rfl, K2⟩
      have H2 := Lib.hid (H1.out.lift K2)
      obtain ⟨a2, c2, rfl⟩ := own_slice K2
      clear P x0 x1 x2
      obtain ⟨x0, x1, x2⟩ := im_cells (H2.out.pull 1 rfl)
      have CK := Lib.hid (imcheck_c (n : Int) (some ⟨gd, 0, none⟩) (some ⟨gk, 0, none⟩) D K (List.replicate D 0) (List.replicate K (0, 0, 0, 0)) w2 (CC.out.below K2.below))
      rw [HK.out, List.length_replicate, List.length_replicate] at CK
      clear K2 H1
      go_wp2_with fail
      refine CK.out.mono ?_; rintro e3 w3 ⟨rfl, hb⟩
      have H3 := Lib.hid (H2.out.below_read hb)
      clear hb CK H2 x0 x1 x2
      have GC := Lib.hid (imget_c a2 c2 bb w3 (CellsIn.own H3.out) (by have := HSH.out; omega))
      rw [HG2.out] at GC
      go_wp2_with fail
      refine GC.out.mono ?_; intro e4 w4 h4
      obtain ⟨hb, ae, de, af, df, he4, he, hf⟩ := h4
      rw [List.length_replicate, List.length_replicate] at he4
      subst he4
      have H4 := Lib.hid (blk_new (H3.out.below_read hb) (.cells #[.int .i64 (n : Int), .slice ae D de, .slice af K df] 25))
      have HE := Lib.hid (he.read ((Tch.refl _ _).alloc (.cells #[.int .i64 (n : Int), .slice ae D de, .slice af K df] 25)))
      have HF := Lib.hid (hf.read ((Tch.refl _ _).alloc (.cells #[.int .i64 (n : Int), .slice ae D de, .slice af K df] 25)))
      clear hb GC H3 he hf CU CC
      go_upto_region 12 with fail
      generalize (w4.alloc (.cells #[.int .i64 (n : Int), .slice ae D de, .slice af K df] 25)) = w5 at *
      generalize w4.heap.size = gz at *
      have AL := Lib.hid (AC.out w5 [] ⟨H4.out.below, trivial⟩)
      go_wp2_with fail
      refine (alive_hp L H4.out).mono ?_; rintro e5 w6 ⟨rfl, hb⟩
      have H6 := Lib.hid (H4.out.below_read hb)
      have HE6 := Lib.hid (HE.out.below hb)
      have HF6 := Lib.hid (HF.out.below hb)
      clear AL H4 HE HF hb
      obtain ⟨y0, y1, y2⟩ := im_cells H6.out
      obtain ⟨x0, x1, x2⟩ := im_cells (H6.out.pull 2 rfl)
      have SI := Lib.hid (same_image n n ae (some ⟨gd, 0, none⟩) af (some ⟨gk, 0, none⟩) de D df K (List.replicate D 0) (List.replicate D 0) (List.replicate K (0, 0, 0, 0)) (List.replicate K (0, 0, 0, 0)) w6 HE6.out (blk_inA (H6.out.pull 4 rfl) (zU_list D)) HF6.out (blk_inA (H6.out.pull 3 rfl) (zC_list K)) (by rw [List.length_replicate]; omega) (by rw [List.length_replicate]; omega) (by rw [List.length_replicate]; omega) (by rw [List.length_replicate]; omega))
      rw [List.length_replicate, List.length_replicate] at SI
      go_wp2_with fail
      refine SI.out.mono ?_; rintro e7 w7 ⟨rfl, hb⟩
      have H7 := Lib.hid (H6.out.below_read hb)
      clear hb SI H6 x0 x1 x2 y0 y1 y2
      go_wp2
      go_ret
      exact ⟨by simp, H7.out.below⟩
    | false =>
      have HK := Lib.hid hk
      rw [imck_zero] at hk
      rcases may_no hk with m4 | ⟨m4, m5⟩ | ⟨m4, m5, m6⟩
      · have P := Lib.hid (imput_no (n : Int) (some ⟨gd, 0, none⟩) (some ⟨gk, 0, none⟩) D K (List.replicate D 0) (List.replicate K (0, 0, 0, 0)) W1 CC.out HK.out)
        rw [List.length_replicate, List.length_replicate] at P
        go_wp2_with fail
        refine P.out.mono ?_; rintro e2 w2 ⟨rfl, hb⟩
        have H2 := Lib.hid (H1.out.below_read hb)
        clear P x0 x1 x2
        obtain ⟨x0, x1, x2⟩ := im_cells H2.out
        have CK := Lib.hid (imcheck_c (n : Int) (some ⟨gd, 0, none⟩) (some ⟨gk, 0, none⟩) D K (List.replicate D 0) (List.replicate K (0, 0, 0, 0)) w2 (CC.out.below hb))
        rw [HK.out, List.length_replicate, List.length_replicate] at CK
        clear hb H1
        go_wp2_with fail
        refine CK.out.mono ?_; rintro e3 w3 ⟨rfl, hb⟩
        have H3 := Lib.hid (H2.out.below_read hb)
        clear hb CK H2 x0 x1 x2
        go_wp2_with fail
        refine (alive_hp L H3.out).mono ?_; rintro e5 w6 ⟨rfl, hb⟩
        have H6 := Lib.hid (H3.out.below_read hb)
        clear hb H3
        go_wp2
        go_ret
        exact ⟨rfl, H6.out.below⟩
      · have P := Lib.hid (imput_no (n : Int) (some ⟨gd, 0, none⟩) (some ⟨gk, 0, none⟩) D K (List.replicate D 0) (List.replicate K (0, 0, 0, 0)) W1 CC.out HK.out)
        rw [List.length_replicate, List.length_replicate] at P
        go_wp2_with fail
        refine P.out.mono ?_; rintro e2 w2 ⟨rfl, hb⟩
        have H2 := Lib.hid (H1.out.below_read hb)
        clear P x0 x1 x2
        obtain ⟨x0, x1, x2⟩ := im_cells H2.out
        have CK := Lib.hid (imcheck_c (n : Int) (some ⟨gd, 0, none⟩) (some ⟨gk, 0, none⟩) D K (List.replicate D 0) (List.replicate K (0, 0, 0, 0)) w2 (CC.out.below hb))
        rw [HK.out, List.length_replicate, List.length_replicate] at CK
        clear hb H1
        go_wp2_with fail
        refine CK.out.mono ?_; rintro e3 w3 ⟨rfl, hb⟩
        have H3 := Lib.hid (H2.out.below_read hb)
        clear hb CK H2 x0 x1 x2
        go_wp2_with fail
        refine (alive_hp L H3.out).mono ?_; rintro e5 w6 ⟨rfl, hb⟩
        have H6 := Lib.hid (H3.out.below_read hb)
        clear hb H3
        go_wp2
        go_ret
        exact ⟨rfl, H6.out.below⟩
      · have P := Lib.hid (imput_no (n : Int) (some ⟨gd, 0, none⟩) (some ⟨gk, 0, none⟩) D K (List.replicate D 0) (List.replicate K (0, 0, 0, 0)) W1 CC.out HK.out)
        rw [List.length_replicate, List.length_replicate] at P
        go_wp2_with fail
        refine P.out.mono ?_; rintro e2 w2 ⟨rfl, hb⟩
        have H2 := Lib.hid (H1.out.below_read hb)
        clear P x0 x1 x2
        obtain ⟨x0, x1, x2⟩ := im_cells H2.out
        have CK := Lib.hid (imcheck_c (n : Int) (some ⟨gd, 0, none⟩) (some ⟨gk, 0, none⟩) D K (List.replicate D 0) (List.replicate K (0, 0, 0, 0)) w2 (CC.out.below hb))
        rw [HK.out, List.length_replicate, List.length_replicate] at CK
        clear hb H1
        go_wp2_with fail
        refine CK.out.mono ?_; rintro e3 w3 ⟨rfl, hb⟩
        have H3 := Lib.hid (H2.out.below_read hb)
        clear hb CK H2 x0 x1 x2
        go_wp2_with fail
        refine (alive_hp L H3.out).mono ?_; rintro e5 w6 ⟨rfl, hb⟩
        have H6 := Lib.hid (H3.out.below_read hb)
        clear hb H3
        go_wp2
        go_ret
        exact ⟨rfl, H6.out.below⟩
  · have HB := blk_new_at (blk_new_at (blk_new (Hp.start w) (.cells (zC K) 46)) (.cells (zU D) 5) (w.heap.size + 1) (size_alloc1 _ _)) (.cells #[.int .i64 (n : Int), .slice (some ⟨w.heap.size + 1, 0, none⟩) D D, .slice (some ⟨w.heap.size, 0, none⟩) K K] 25) (w.heap.size + 1 + 1) (size_alloc2 _ _ _)
    have H1 := Lib.hid (Hp.drew (((HB.pull 1 rfl).pull 2 rfl).pull 2 rfl))
    clear HB
    generalize (((w.alloc (.cells (zC K) 46)).alloc (.cells (zU D) 5)).alloc (.cells #[.int .i64 (n : Int), .slice (some ⟨w.heap.size + 1, 0, none⟩) D D, .slice (some ⟨w.heap.size, 0, none⟩) K K] 25)).drew = W1 at *
    generalize w.heap.size + 1 + 1 = gx at *
    generalize w.heap.size + 1 = gd at *
    generalize w.heap.size = gk at *
    obtain ⟨x0, x1, x2⟩ := im_cells H1.out
    have CU := Lib.hid (blk_inA (H1.out.pull 2 rfl) (zU_list D))
    have CC := Lib.hid (blk_inA (H1.out.pull 1 rfl) (zC_list K))
    cases hk : imck (n : Int) (List.replicate D 0) (List.replicate K (0, 0, 0, 0)) with
    | true =>
      have HK := Lib.hid hk
      rw [imck_zero] at hk
      simp only [Bool.and_eq_true, decide_eq_true_eq] at hk
      obtain ⟨⟨m1, m2⟩, m3⟩ := hk
      have m4 : (n : Int) ≤ 4096 := by omega
      have m5 : (K : Int) ≤ 1024 := by omega
      have m6 : (D : Int) ≤ (n : Int) := by omega
      have P := Lib.hid (imput_c n (some ⟨gd, 0, none⟩) (some ⟨gk, 0, none⟩) D K (List.replicate D 0) (List.replicate K (0, 0, 0, 0)) W1 CU.out CC.out HK.out)
      have HG2 := Lib.hid (imget_put HK.out)
      have HSH := Lib.hid (imput_short HK.out)
      rw [List.length_replicate, List.length_replicate] at P
      obtain ⟨bb, hbb⟩ : ∃ x, x = imput n (List.replicate D 0) (List.replicate K (0, 0, 0, 0)) := ⟨_, rfl⟩
      rw [← hbb] at P HG2 HSH
      clear hbb
      go_wp2_with fail
      refine P.out.mono ?_; rintro e2 w2 ⟨v2, rfl, K2⟩
      have H2 := Lib.hid (H1.out.lift K2)
      obtain ⟨a2, c2, rfl⟩ := own_slice K2
      clear P x0 x1 x2
      obtain ⟨x0, x1, x2⟩ := im_cells (H2.out.pull 1 rfl)
      have CK := Lib.hid (imcheck_c (n : Int) (some ⟨gd, 0, none⟩) (some ⟨gk, 0, none⟩) D K (List.replicate D 0) (List.replicate K (0, 0, 0, 0)) w2 (CC.out.below K2.below))
      rw [HK.out, List.length_replicate, List.length_replicate] at CK
      clear K2 H1
      go_wp2_with fail
      refine CK.out.mono ?_; rintro e3 w3 ⟨rfl, hb⟩
      have H3 := Lib.hid (H2.out.below_read hb)
      clear hb CK H2 x0 x1 x2
      have GC := Lib.hid (imget_c a2 c2 bb w3 (CellsIn.own H3.out) (by have := HSH.out; omega))
      rw [HG2.out] at GC
      go_wp2_with fail
      refine GC.out.mono ?_; intro e4 w4 h4
      obtain ⟨hb, ae, de, af, df, he4, he, hf⟩ := h4
      rw [List.length_replicate, List.length_replicate] at he4
      subst he4
      have H4 := Lib.hid (blk_new (H3.out.below_read hb) (.cells #[.int .i64 (n : Int), .slice ae D de, .slice af K df] 25))
      have HE := Lib.hid (he.read ((Tch.refl _ _).alloc (.cells #[.int .i64 (n : Int), .slice ae D de, .slice af K df] 25)))
      have HF := Lib.hid (hf.read ((Tch.refl _ _).alloc (.cells #[.int .i64 (n : Int), .slice ae D de, .slice af K df] 25)))
      clear hb GC H3 he hf CU CC
      go_upto_region 12 with fail
      generalize (w4.alloc (.cells #[.int .i64 (n : Int), .slice ae D de, .slice af K df] 25)) = w5 at *
      generalize w4.heap.size = gz at *
      have AL := Lib.hid (AC.out w5 [] ⟨H4.out.below, trivial⟩)
      go_wp2_with fail
      refine (alive_hp L H4.out).mono ?_; rintro e5 w6 ⟨rfl, hb⟩
      have H6 := Lib.hid (H4.out.below_read hb)
      have HE6 := Lib.hid (HE.out.below hb)
      have HF6 := Lib.hid (HF.out.below hb)
      clear AL H4 HE HF hb
      obtain ⟨y0, y1, y2⟩ := im_cells H6.out
      obtain ⟨x0, x1, x2⟩ := im_cells (H6.out.pull 2 rfl)
      have SI := Lib.hid (same_image n n ae (some ⟨gd, 0, none⟩) af (some ⟨gk, 0, none⟩) de D df K (List.replicate D 0) (List.replicate D 0) (List.replicate K (0, 0, 0, 0)) (List.replicate K (0, 0, 0, 0)) w6 HE6.out (blk_inA (H6.out.pull 4 rfl) (zU_list D)) HF6.out (blk_inA (H6.out.pull 3 rfl) (zC_list K)) (by rw [List.length_replicate]; omega) (by rw [List.length_replicate]; omega) (by rw [List.length_replicate]; omega) (by rw [List.length_replicate]; omega))
      rw [List.length_replicate, List.length_replicate] at SI
      go_wp2_with fail
      refine SI.out.mono ?_; rintro e7 w7 ⟨rfl, hb⟩
      have H7 := Lib.hid (H6.out.below_read hb)
      clear hb SI H6 x0 x1 x2 y0 y1 y2
      go_wp2
      go_ret
      exact ⟨by simp, H7.out.below⟩
    | false =>
      have HK := Lib.hid hk
      rw [imck_zero] at hk
      rcases may_no hk with m4 | ⟨m4, m5⟩ | ⟨m4, m5, m6⟩
      · have P := Lib.hid (imput_no (n : Int) (some ⟨gd, 0, none⟩) (some ⟨gk, 0, none⟩) D K (List.replicate D 0) (List.replicate K (0, 0, 0, 0)) W1 CC.out HK.out)
        rw [List.length_replicate, List.length_replicate] at P
        go_wp2_with fail
        refine P.out.mono ?_; rintro e2 w2 ⟨rfl, hb⟩
        have H2 := Lib.hid (H1.out.below_read hb)
        clear P x0 x1 x2
        obtain ⟨x0, x1, x2⟩ := im_cells H2.out
        have CK := Lib.hid (imcheck_c (n : Int) (some ⟨gd, 0, none⟩) (some ⟨gk, 0, none⟩) D K (List.replicate D 0) (List.replicate K (0, 0, 0, 0)) w2 (CC.out.below hb))
        rw [HK.out, List.length_replicate, List.length_replicate] at CK
        clear hb H1
        go_wp2_with fail
        refine CK.out.mono ?_; rintro e3 w3 ⟨rfl, hb⟩
        have H3 := Lib.hid (H2.out.below_read hb)
        clear hb CK H2 x0 x1 x2
        go_wp2_with fail
        refine (alive_hp L H3.out).mono ?_; rintro e5 w6 ⟨rfl, hb⟩
        have H6 := Lib.hid (H3.out.below_read hb)
        clear hb H3
        go_wp2
        go_ret
        exact ⟨rfl, H6.out.below⟩
      · have P := Lib.hid (imput_no (n : Int) (some ⟨gd, 0, none⟩) (some ⟨gk, 0, none⟩) D K (List.replicate D 0) (List.replicate K (0, 0, 0, 0)) W1 CC.out HK.out)
        rw [List.length_replicate, List.length_replicate] at P
        go_wp2_with fail
        refine P.out.mono ?_; rintro e2 w2 ⟨rfl, hb⟩
        have H2 := Lib.hid (H1.out.below_read hb)
        clear P x0 x1 x2
        obtain ⟨x0, x1, x2⟩ := im_cells H2.out
        have CK := Lib.hid (imcheck_c (n : Int) (some ⟨gd, 0, none⟩) (some ⟨gk, 0, none⟩) D K (List.replicate D 0) (List.replicate K (0, 0, 0, 0)) w2 (CC.out.below hb))
        rw [HK.out, List.length_replicate, List.length_replicate] at CK
        clear hb H1
        go_wp2_with fail
        refine CK.out.mono ?_; rintro e3 w3 ⟨rfl, hb⟩
        have H3 := Lib.hid (H2.out.below_read hb)
        clear hb CK H2 x0 x1 x2
        go_wp2_with fail
        refine (alive_hp L H3.out).mono ?_; rintro e5 w6 ⟨rfl, hb⟩
        have H6 := Lib.hid (H3.out.below_read hb)
        clear hb H3
        go_wp2
        go_ret
        exact ⟨rfl, H6.out.below⟩
      · have P := Lib.hid (imput_no (n : Int) (some ⟨gd, 0, none⟩) (some ⟨gk, 0, none⟩) D K (List.replicate D 0) (List.replicate K (0, 0, 0, 0)) W1 CC.out HK.out)
        rw [List.length_replicate, List.length_replicate] at P
        go_wp2_with fail
        refine P.out.mono ?_; rintro e2 w2 ⟨rfl, hb⟩
        have H2 := Lib.hid (H1.out.below_read hb)
        clear P x0 x1 x2
        obtain ⟨x0, x1, x2⟩ := im_cells H2.out
        have CK := Lib.hid (imcheck_c (n : Int) (some ⟨gd, 0, none⟩) (some ⟨gk, 0, none⟩) D K (List.replicate D 0) (List.replicate K (0, 0, 0, 0)) w2 (CC.out.below hb))
        rw [HK.out, List.length_replicate, List.length_replicate] at CK
        clear hb H1
        go_wp2_with fail
        refine CK.out.mono ?_; rintro e3 w3 ⟨rfl, hb⟩
        have H3 := Lib.hid (H2.out.below_read hb)
        clear hb CK H2 x0 x1 x2
        go_wp2_with fail
        refine (alive_hp L H3.out).mono ?_; rintro e5 w6 ⟨rfl, hb⟩
        have H6 := Lib.hid (H3.out.below_read hb)
        clear hb H3
        go_wp2
        go_ret
        exact ⟨rfl, H6.out.below⟩
  · have HB := blk_new_at (blk_new_at (blk_new (Hp.start w) (.cells (zC K) 46)) (.cells #[.int .i64 (n : Int), .slice (some ⟨w.heap.size + 1 + 1, 0, none⟩) D D, .slice (some ⟨w.heap.size, 0, none⟩) K K] 25) (w.heap.size + 1) (size_alloc1 _ _)) (.cells (zU D) 5) (w.heap.size + 1 + 1) (size_alloc2 _ _ _)
    have H1 := Lib.hid (Hp.drew (((HB.pull 0 rfl).pull 2 rfl).pull 2 rfl))
    clear HB
    generalize (((w.alloc (.cells (zC K) 46)).alloc (.cells #[.int .i64 (n : Int), .slice (some ⟨w.heap.size + 1 + 1, 0, none⟩) D D, .slice (some ⟨w.heap.size, 0, none⟩) K K] 25)).alloc (.cells (zU D) 5)).drew = W1 at *
    generalize w.heap.size + 1 + 1 = gd at *
    generalize w.heap.size + 1 = gx at *
    generalize w.heap.size = gk at *
    obtain ⟨x0, x1, x2⟩ := im_cells H1.out
    have CU := Lib.hid (blk_inA (H1.out.pull 2 rfl) (zU_list D))
    have CC := Lib.hid (blk_inA (H1.out.pull 1 rfl) (zC_list K))
    cases hk : imck (n : Int) (List.replicate D 0) (List.replicate K (0, 0, 0, 0)) with
    | true =>
      have HK := Lib.hid hk
      rw [imck_zero] at hk
      simp only [Bool.and_eq_true, decide_eq_true_eq] at hk
      obtain ⟨⟨m1, m2⟩, m3⟩ := hk
      have m4 : (n : Int) ≤ 4096 := by omega
      have m5 : (K : Int) ≤ 1024 := by omega
      have m6 : (D : Int) ≤ (n : Int) := by omega
      have P := Lib.hid (imput_c n (some ⟨gd, 0, none⟩) (some ⟨gk, 0, none⟩) D K (List.replicate D 0) (List.replicate K (0, 0, 0, 0)) W1 CU.out CC.out HK.out)
      have HG2 := Lib.hid (imget_put HK.out)
      have HSH := Lib.hid (imput_short HK.out)
      rw [List.length_replicate, List.length_replicate] at P
      obtain ⟨bb, hbb⟩ : ∃ x, x = imput n (List.replicate D 0) (List.replicate K (0, 0, 0, 0)) := ⟨_, rfl⟩
      rw [← hbb] at P HG2 HSH
      clear hbb
      go_wp2_with fail
      refine P.out.mono ?_; rintro e2 w2 ⟨v2, rfl, K2⟩
      have H2 := Lib.hid (H1.out.lift K2)
      obtain ⟨a2, c2, rfl⟩ := own_slice K2
      clear P x0 x1 x2
      obtain ⟨x0, x1, x2⟩ := im_cells (H2.out.pull 1 rfl)
      have CK := Lib.hid (imcheck_c (n : Int) (some ⟨gd, 0, none⟩) (some ⟨gk, 0, none⟩) D K (List.replicate D 0) (List.replicate K (0, 0, 0, 0)) w2 (CC.out.below K2.below))
      rw [HK.out, List.length_replicate, List.length_replicate] at CK
      clear K2 H1
      go_wp2_with fail
      refine CK.out.mono ?_; rintro e3 w3 ⟨rfl, hb⟩
      have H3 := Lib.hid (H2.out.below_read hb)
      clear hb CK H2 x0 x1 x2
      have GC := Lib.hid (imget_c a2 c2 bb w3 (CellsIn.own H3.out) (by have := HSH.out; omega))
      rw [HG2.out] at GC
      go_wp2_with fail
      refine GC.out.mono ?_; intro e4 w4 h4
      obtain ⟨hb, ae, de, af, df, he4, he, hf⟩ := h4
      rw [List.length_replicate, List.length_replicate] at he4
      subst he4
      have H4 := Lib.hid (blk_new (H3.out.below_read hb) (.cells #[.int .i64 (n : Int), .slice ae D de, .slice af K df] 25))
      have HE := Lib.hid (he.read ((Tch.refl _ _).alloc (.cells #[.int .i64 (n : Int), .slice ae D de, .slice af K df] 25)))
      have HF := Lib.hid (hf.read ((Tch.refl _ _).alloc (.cells #[.int .i64 (n : Int), .slice ae D de, .slice af K df] 25)))
      clear hb GC H3 he hf CU CC
      go_upto_region 12 with fail
      generalize (w4.alloc (.cells #[.int .i64 (n : Int), .slice ae D de, .slice af K df] 25)) = w5 at *
      generalize w4.heap.size = gz at *
      have AL := Lib.hid (AC.out w5 [] ⟨H4.out.below, trivial⟩)
      go_wp2_with fail
      refine (alive_hp L H4.out).mono ?_; rintro e5 w6 ⟨rfl, hb⟩
      have H6 := Lib.hid (H4.out.below_read hb)
      have HE6 := Lib.hid (HE.out.below hb)
      have HF6 := Lib.hid (HF.out.below hb)
      clear AL H4 HE HF hb
      obtain ⟨y0, y1, y2⟩ := im_cells H6.out
      obtain ⟨x0, x1, x2⟩ := im_cells (H6.out.pull 2 rfl)
      have SI := Lib.hid (same_image n n ae (some ⟨gd, 0, none⟩) af (some ⟨gk, 0, none⟩) de D df K (List.replicate D 0) (List.replicate D 0) (List.replicate K (0, 0, 0, 0)) (List.replicate K (0, 0, 0, 0)) w6 HE6.out (blk_inA (H6.out.pull 4 rfl) (zU_list D)) HF6.out (blk_inA (H6.out.pull 3 rfl) (zC_list K)) (by rw [List.length_replicate]; omega) (by rw [List.length_replicate]; omega) (by rw [List.length_replicate]; omega) (by rw [List.length_replicate]; omega))
      rw [List.length_replicate, List.length_replicate] at SI
      go_wp2_with fail
      refine SI.out.mono ?_; rintro e7 w7 ⟨rfl, hb⟩
      have H7 := Lib.hid (H6.out.below_read hb)
      clear hb SI H6 x0 x1 x2 y0 y1 y2
      go_wp2
      go_ret
      exact ⟨by simp, H7.out.below⟩
    | false =>
      have HK := Lib.hid hk
      rw [imck_zero] at hk
      rcases may_no hk with m4 | ⟨m4, m5⟩ | ⟨m4, m5, m6⟩
      · have P := Lib.hid (imput_no (n : Int) (some ⟨gd, 0, none⟩) (some ⟨gk, 0, none⟩) D K (List.replicate D 0) (List.replicate K (0, 0, 0, 0)) W1 CC.out HK.out)
        rw [List.length_replicate, List.length_replicate] at P
        go_wp2_with fail
        refine P.out.mono ?_; rintro e2 w2 ⟨rfl, hb⟩
        have H2 := Lib.hid (H1.out.below_read hb)
        clear P x0 x1 x2
        obtain ⟨x0, x1, x2⟩ := im_cells H2.out
        have CK := Lib.hid (imcheck_c (n : Int) (some ⟨gd, 0, none⟩) (some ⟨gk, 0, none⟩) D K (List.replicate D 0) (List.replicate K (0, 0, 0, 0)) w2 (CC.out.below hb))
        rw [HK.out, List.length_replicate, List.length_replicate] at CK
        clear hb H1
        go_wp2_with fail
        refine CK.out.mono ?_; rintro e3 w3 ⟨rfl, hb⟩
        have H3 := Lib.hid (H2.out.below_read hb)
        clear hb CK H2 x0 x1 x2
        go_wp2_with fail
        refine (alive_hp L H3.out).mono ?_; rintro e5 w6 ⟨rfl, hb⟩
        have H6 := Lib.hid (H3.out.below_read hb)
        clear hb H3
        go_wp2
        go_ret
        exact ⟨rfl, H6.out.below⟩
      · have P := Lib.hid (imput_no (n : Int) (some ⟨gd, 0, none⟩) (some ⟨gk, 0, none⟩) D K (List.replicate D 0) (List.replicate K (0, 0, 0, 0)) W1 CC.out HK.out)
        rw [List.length_replicate, List.length_replicate] at P
        go_wp2_with fail
        refine P.out.mono ?_; rintro e2 w2 ⟨rfl, hb⟩
        have H2 := Lib.hid (H1.out.below_read hb)
        clear P x0 x1 x2
        obtain ⟨x0, x1, x2⟩ := im_cells H2.out
        have CK := Lib.hid (imcheck_c (n : Int) (some ⟨gd, 0, none⟩) (some ⟨gk, 0, none⟩) D K (List.replicate D 0) (List.replicate K (0, 0, 0, 0)) w2 (CC.out.below hb))
        rw [HK.out, List.length_replicate, List.length_replicate] at CK
        clear hb H1
        go_wp2_with fail
        refine CK.out.mono ?_; rintro e3 w3 ⟨rfl, hb⟩
        have H3 := Lib.hid (H2.out.below_read hb)
        clear hb CK H2 x0 x1 x2
        go_wp2_with fail
        refine (alive_hp L H3.out).mono ?_; rintro e5 w6 ⟨rfl, hb⟩
        have H6 := Lib.hid (H3.out.below_read hb)
        clear hb H3
        go_wp2
        go_ret
        exact ⟨rfl, H6.out.below⟩
      · have P := Lib.hid (imput_no (n : Int) (some ⟨gd, 0, none⟩) (some ⟨gk, 0, none⟩) D K (List.replicate D 0) (List.replicate K (0, 0, 0, 0)) W1 CC.out HK.out)
        rw [List.length_replicate, List.length_replicate] at P
        go_wp2_with fail
        refine P.out.mono ?_; rintro e2 w2 ⟨rfl, hb⟩
        have H2 := Lib.hid (H1.out.below_read hb)
        clear P x0 x1 x2
        obtain ⟨x0, x1, x2⟩ := im_cells H2.out
        have CK := Lib.hid (imcheck_c (n : Int) (some ⟨gd, 0, none⟩) (some ⟨gk, 0, none⟩) D K (List.replicate D 0) (List.replicate K (0, 0, 0, 0)) w2 (CC.out.below hb))
        rw [HK.out, List.length_replicate, List.length_replicate] at CK
        clear hb H1
        go_wp2_with fail
        refine CK.out.mono ?_; rintro e3 w3 ⟨rfl, hb⟩
        have H3 := Lib.hid (H2.out.below_read hb)
        clear hb CK H2 x0 x1 x2
        go_wp2_with fail
        refine (alive_hp L H3.out).mono ?_; rintro e5 w6 ⟨rfl, hb⟩
        have H6 := Lib.hid (H3.out.below_read hb)
        clear hb H3
        go_wp2
        go_ret
        exact ⟨rfl, H6.out.below⟩
  · have HB := blk_new_at (blk_new_at (blk_new (Hp.start w) (.cells #[.int .i64 (n : Int), .slice (some ⟨w.heap.size + 1, 0, none⟩) D D, .slice (some ⟨w.heap.size + 1 + 1, 0, none⟩) K K] 25)) (.cells (zU D) 5) (w.heap.size + 1) (size_alloc1 _ _)) (.cells (zC K) 46) (w.heap.size + 1 + 1) (size_alloc2 _ _ _)
    have H1 := Lib.hid (Hp.drew (((HB.pull 1 rfl).pull 1 rfl).pull 2 rfl))
    clear HB
    generalize (((w.alloc (.cells #[.int .i64 (n : Int), .slice (some ⟨w.heap.size + 1, 0, none⟩) D D, .slice (some ⟨w.heap.size + 1 + 1, 0, none⟩) K K] 25)).alloc (.cells (zU D) 5)).alloc (.cells (zC K) 46)).drew = W1 at *
    generalize w.heap.size + 1 + 1 = gk at *
    generalize w.heap.size + 1 = gd at *
    generalize w.heap.size = gx at *
    obtain ⟨x0, x1, x2⟩ := im_cells H1.out
    have CU := Lib.hid (blk_inA (H1.out.pull 2 rfl) (zU_list D))
    have CC := Lib.hid (blk_inA (H1.out.pull 1 rfl) (zC_list K))
    cases hk : imck (n : Int) (List.replicate D 0) (List.replicate K (0, 0, 0, 0)) with
    | true =>
      have HK := Lib.hid hk
      rw [imck_zero] at hk
      simp only [Bool.and_eq_true, decide_eq_true_eq] at hk
      obtain ⟨⟨m1, m2⟩, m3⟩ := hk
      have m4 : (n : Int) ≤ 4096 := by omega
      have m5 : (K : Int) ≤ 1024 := by omega
      have m6 : (D : Int) ≤ (n : Int) := by omega
      have P := Lib.hid (imput_c n (some ⟨gd, 0, none⟩) (some ⟨gk, 0, none⟩) D K (List.replicate D 0) (List.replicate K (0, 0, 0, 0)) W1 CU.out CC.out HK.out)
      have HG2 := Lib.hid (imget_put HK.out)
      have HSH := Lib.hid (imput_short HK.out)
      rw [List.length_replicate, List.length_replicate] at P
      obtain ⟨bb, hbb⟩ : ∃ x, x = imput n (List.replicate D 0) (List.replicate K (0, 0, 0, 0)) := ⟨_, rfl⟩
      rw [← hbb] at P HG2 HSH
      clear hbb
      go_wp2_with fail
      refine P.out.mono ?_; rintro e2 w2 ⟨v2, rfl, K2⟩
      have H2 := Lib.hid (H1.out.lift K2)
      obtain ⟨a2, c2, rfl⟩ := own_slice K2
      clear P x0 x1 x2
      obtain ⟨x0, x1, x2⟩ := im_cells (H2.out.pull 1 rfl)
      have CK := Lib.hid (imcheck_c (n : Int) (some ⟨gd, 0, none⟩) (some ⟨gk, 0, none⟩) D K (List.replicate D 0) (List.replicate K (0, 0, 0, 0)) w2 (CC.out.below K2.below))
      rw [HK.out, List.length_replicate, List.length_replicate] at CK
      clear K2 H1
      go_wp2_with fail
      refine CK.out.mono ?_; rintro e3 w3 ⟨rfl, hb⟩
      have H3 := Lib.hid (H2.out.below_read hb)
      clear hb CK H2 x0 x1 x2
      have GC := Lib.hid (imget_c a2 c2 bb w3 (CellsIn.own H3.out) (by have := HSH.out; omega))
      rw [HG2.out] at GC
      go_wp2_with fail
      refine GC.out.mono ?_; intro e4 w4 h4
      obtain ⟨hb, ae, de, af, df, he4, he, hf⟩ := h4
      rw [List.length_replicate, List.length_replicate] at he4
      subst he4
      have H4 := Lib.hid (blk_new (H3.out.below_read hb) (.cells #[.int .i64 (n : Int), .slice ae D de, .slice af K df] 25))
      have HE := Lib.hid (he.read ((Tch.refl _ _).alloc (.cells #[.int .i64 (n : Int), .slice ae D de, .slice af K df] 25)))
      have HF := Lib.hid (hf.read ((Tch.refl _ _).alloc (.cells #[.int .i64 (n : Int), .slice ae D de, .slice af K df] 25)))
      clear hb GC H3 he hf CU CC
      go_upto_region 12 with fail
      generalize (w4.alloc (.cells #[.int .i64 (n : Int), .slice ae D de, .slice af K df] 25)) = w5 at *
      generalize w4.heap.size = gz at *
      have AL := Lib.hid (AC.out w5 [] ⟨H4.out.below, trivial⟩)
      go_wp2_with fail
      refine (alive_hp L H4.out).mono ?_; rintro e5 w6 ⟨rfl, hb⟩
      have H6 := Lib.hid (H4.out.below_read hb)
      have HE6 := Lib.hid (HE.out.below hb)
      have HF6 := Lib.hid (HF.out.below hb)
      clear AL H4 HE HF hb
      obtain ⟨y0, y1, y2⟩ := im_cells H6.out
      obtain ⟨x0, x1, x2⟩ := im_cells (H6.out.pull 2 rfl)
      have SI := Lib.hid (same_image n n ae (some ⟨gd, 0, none⟩) af (some ⟨gk, 0, none⟩) de D df K (List.replicate D 0) (List.replicate D 0) (List.replicate K (0, 0, 0, 0)) (List.replicate K (0, 0, 0, 0)) w6 HE6.out (blk_inA (H6.out.pull 4 rfl) (zU_list D)) HF6.out (blk_inA (H6.out.pull 3 rfl) (zC_list K)) (by rw [List.length_replicate]; omega) (by rw [List.length_replicate]; omega) (by rw [List.length_replicate]; omega) (by rw [List.length_replicate]; omega))
      rw [List.length_replicate, List.length_replicate] at SI
      go_wp2_with fail
      refine SI.out.mono ?_; rintro e7 w7 ⟨rfl, hb⟩
      have H7 := Lib.hid (H6.out.below_read hb)
      clear hb SI H6 x0 x1 x2 y0 y1 y2
      go_wp2
      go_ret
      exact ⟨by simp, H7.out.below⟩
    | false =>
      have HK := Lib.hid hk
      rw [imck_zero] at hk
      rcases may_no hk with m4 | ⟨m4, m5⟩ | ⟨m4, m5, m6⟩
      · have P := Lib.hid (imput_no (n : Int) (some ⟨gd, 0, none⟩) (some ⟨gk, 0, none⟩) D K (List.replicate D 0) (List.replicate K (0, 0, 0, 0)) W1 CC.out HK.out)
        rw [List.length_replicate, List.length_replicate] at P
        go_wp2_with fail
        refine P.out.mono ?_; rintro e2 w2 ⟨rfl, hb⟩
        have H2 := Lib.hid (H1.out.below_read hb)
        clear P x0 x1 x2
        obtain ⟨x0, x1, x2⟩ := im_cells H2.out
        have CK := Lib.hid (imcheck_c (n : Int) (some ⟨gd, 0, none⟩) (some ⟨gk, 0, none⟩) D K (List.replicate D 0) (List.replicate K (0, 0, 0, 0)) w2 (CC.out.below hb))
        rw [HK.out, List.length_replicate, List.length_replicate] at CK
        clear hb H1
        go_wp2_with fail
        refine CK.out.mono ?_; rintro e3 w3 ⟨rfl, hb⟩
        have H3 := Lib.hid (H2.out.below_read hb)
        clear hb CK H2 x0 x1 x2
        go_wp2_with fail
        refine (alive_hp L H3.out).mono ?_; rintro e5 w6 ⟨rfl, hb⟩
        have H6 := Lib.hid (H3.out.below_read hb)
        clear hb H3
        go_wp2
        go_ret
        exact ⟨rfl, H6.out.below⟩
      · have P := Lib.hid (imput_no (n : Int) (some ⟨gd, 0, none⟩) (some ⟨gk, 0, none⟩) D K (List.replicate D 0) (List.replicate K (0, 0, 0, 0)) W1 CC.out HK.out)
        rw [List.length_replicate, List.length_replicate] at P
        go_wp2_with fail
        refine P.out.mono ?_; rintro e2 w2 ⟨rfl, hb⟩
        have H2 := Lib.hid (H1.out.below_read hb)
        clear P x0 x1 x2
        obtain ⟨x0, x1, x2⟩ := im_cells H2.out
        have CK := Lib.hid (imcheck_c (n : Int) (some ⟨gd, 0, none⟩) (some ⟨gk, 0, none⟩) D K (List.replicate D 0) (List.replicate K (0, 0, 0, 0)) w2 (CC.out.below hb))
        rw [HK.out, List.length_replicate, List.length_replicate] at CK
        clear hb H1
        go_wp2_with fail
        refine CK.out.mono ?_; rintro e3 w3 ⟨rfl, hb⟩
        have H3 := Lib.hid (H2.out.below_read hb)
        clear hb CK H2 x0 x1 x2
        go_wp2_with fail
        refine (alive_hp L H3.out).mono ?_; rintro e5 w6 ⟨rfl, hb⟩
        have H6 := Lib.hid (H3.out.below_read hb)
        clear hb H3
        go_wp2
        go_ret
        exact ⟨rfl, H6.out.below⟩
      · have P := Lib.hid (imput_no (n : Int) (some ⟨gd, 0, none⟩) (some ⟨gk, 0, none⟩) D K (List.replicate D 0) (List.replicate K (0, 0, 0, 0)) W1 CC.out HK.out)
        rw [List.length_replicate, List.length_replicate] at P
        go_wp2_with fail
        refine P.out.mono ?_; rintro e2 w2 ⟨rfl, hb⟩
        have H2 := Lib.hid (H1.out.below_read hb)
        clear P x0 x1 x2
        obtain ⟨x0, x1, x2⟩ := im_cells H2.out
        have CK := Lib.hid (imcheck_c (n : Int) (some ⟨gd, 0, none⟩) (some ⟨gk, 0, none⟩) D K (List.replicate D 0) (List.replicate K (0, 0, 0, 0)) w2 (CC.out.below hb))
        rw [HK.out, List.length_replicate, List.length_replicate] at CK
        clear hb H1
        go_wp2_with fail
        refine CK.out.mono ?_; rintro e3 w3 ⟨rfl, hb⟩
        have H3 := Lib.hid (H2.out.below_read hb)
        clear hb CK H2 x0 x1 x2
        go_wp2_with fail
        refine (alive_hp L H3.out).mono ?_; rintro e5 w6 ⟨rfl, hb⟩
        have H6 := Lib.hid (H3.out.below_read hb)
        clear hb H3
        go_wp2
        go_ret
        exact ⟨rfl, H6.out.below⟩
  · have HB := blk_new_at (blk_new_at (blk_new (Hp.start w) (.cells #[.int .i64 (n : Int), .slice (some ⟨w.heap.size + 1 + 1, 0, none⟩) D D, .slice (some ⟨w.heap.size + 1, 0, none⟩) K K] 25)) (.cells (zC K) 46) (w.heap.size + 1) (size_alloc1 _ _)) (.cells (zU D) 5) (w.heap.size + 1 + 1) (size_alloc2 _ _ _)
    have H1 := Lib.hid (Hp.drew (((HB.pull 0 rfl).pull 1 rfl).pull 2 rfl))
    clear HB
    generalize (((w.alloc (.cells #[.int .i64 (n : Int), .slice (some ⟨w.heap.size + 1 + 1, 0, none⟩) D D, .slice (some ⟨w.heap.size + 1, 0, none⟩) K K] 25)).alloc (.cells (zC K) 46)).alloc (.cells (zU D) 5)).drew = W1 at *
    generalize w.heap.size + 1 + 1 = gd at *
    generalize w.heap.size + 1 = gk at *
    generalize w.heap.size = gx at *
    obtain ⟨x0, x1, x2⟩ := im_cells H1.out
    have CU := Lib.hid (blk_inA (H1.out.pull 2 rfl) (zU_list D))
    have CC := Lib.hid (blk_inA (H1.out.pull 1 rfl) (zC_list K))
    cases hk : imck (n : Int) (List.replicate D 0) (List.replicate K (0, 0, 0, 0)) with
    | true =>
      have HK := Lib.hid hk
      rw [imck_zero] at hk
      simp only [Bool.and_eq_true, decide_eq_true_eq] at hk
      obtain ⟨⟨m1, m2⟩, m3⟩ := hk
      have m4 : (n : Int) ≤ 4096 := by omega
      have m5 : (K : Int) ≤ 1024 := by omega
      have m6 : (D : Int) ≤ (n : Int) := by omega
      have P := Lib.hid (imput_c n (some ⟨gd, 0, none⟩) (some ⟨gk, 0, none⟩) D K (List.replicate D 0) (List.replicate K (0, 0, 0, 0)) W1 CU.out CC.out HK.out)
      have HG2 := Lib.hid (imget_put HK.out)
      have HSH := Lib.hid (imput_short HK.out)
      rw [List.length_replicate, List.length_replicate] at P
      obtain ⟨bb, hbb⟩ : ∃ x, x = imput n (List.replicate D 0) (List.replicate K (0, 0, 0, 0)) := ⟨_, rfl⟩
      rw [← hbb] at P HG2 HSH
      clear hbb
      go_wp2_with fail
      refine P.out.mono ?_; rintro e2 w2 ⟨v2, rfl, K2⟩
      have H2 := Lib.hid (H1.out.lift K2)
      obtain ⟨a2, c2, rfl⟩ := own_slice K2
      clear P x0 x1 x2
      obtain ⟨x0, x1, x2⟩ := im_cells (H2.out.pull 1 rfl)
      have CK := Lib.hid (imcheck_c (n : Int) (some ⟨gd, 0, none⟩) (some ⟨gk, 0, none⟩) D K (List.replicate D 0) (List.replicate K (0, 0, 0, 0)) w2 (CC.out.below K2.below))
      rw [HK.out, List.length_replicate, List.length_replicate] at CK
      clear K2 H1
      go_wp2_with fail
      refine CK.out.mono ?_; rintro e3 w3 ⟨rfl, hb⟩
      have H3 := Lib.hid (H2.out.below_read hb)
      clear hb CK H2 x0 x1 x2
      have GC := Lib.hid (imget_c a2 c2 bb w3 (CellsIn.own H3.out) (by have := HSH.out; omega))
      rw [HG2.out] at GC
      go_wp2_with fail
      refine GC.out.mono ?_; intro e4 w4 h4
      obtain ⟨hb, ae, de, af, df, he4, he, hf⟩ := h4
      rw [List.length_replicate, List.length_replicate] at he4
      subst he4
      have H4 := Lib.hid (blk_new (H3.out.below_read hb) (.cells #[.int .i64 (n : Int), .slice ae D de, .slice af K df] 25))
      have HE := Lib.hid (he.read ((Tch.refl _ _).alloc (.cells #[.int .i64 (n : Int), .slice ae D de, .slice af K df] 25)))
      have HF := Lib.hid (hf.read ((Tch.refl _ _).alloc (.cells #[.int .i64 (n : Int), .slice ae D de, .slice af K df] 25)))
      clear hb GC H3 he hf CU CC
      go_upto_region 12 with fail
      generalize (w4.alloc (.cells #[.int .i64 (n : Int), .slice ae D de, .slice af K df] 25)) = w5 at *
      generalize w4.heap.size = gz at *
      have AL := Lib.hid (AC.out w5 [] ⟨H4.out.below, trivial⟩)
      go_wp2_with fail
      refine (alive_hp L H4.out).mono ?_; rintro e5 w6 ⟨rfl, hb⟩
      have H6 := Lib.hid (H4.out.below_read hb)
      have HE6 := Lib.hid (HE.out.below hb)
      have HF6 := Lib.hid (HF.out.below hb)
      clear AL H4 HE HF hb
      obtain ⟨y0, y1, y2⟩ := im_cells H6.out
      obtain ⟨x0, x1, x2⟩ := im_cells (H6.out.pull 2 rfl)
      have SI := Lib.hid (same_image n n ae (some ⟨gd, 0, none⟩) af (some ⟨gk, 0, none⟩) de D df K (List.replicate D 0) (List.replicate D 0) (List.replicate K (0, 0, 0, 0)) (List.replicate K (0, 0, 0, 0)) w6 HE6.out (blk_inA (H6.out.pull 4 rfl) (zU_list D)) HF6.out (blk_inA (H6.out.pull 3 rfl) (zC_list K)) (by rw [List.length_replicate]; omega) (by rw [List.length_replicate]; omega) (by rw [List.length_replicate]; omega) (by rw [List.length_replicate]; omega))
      rw [List.length_replicate, List.length_replicate] at SI
      go_wp2_with fail
      refine SI.out.mono ?_; rintro e7 w7 ⟨rfl, hb⟩
      have H7 := Lib.hid (H6.out.below_read hb)
      clear hb SI H6 x0 x1 x2 y0 y1 y2
      go_wp2
      go_ret
      exact ⟨by simp, H7.out.below⟩
    | false =>
      have HK := Lib.hid hk
      rw [imck_zero] at hk
      rcases may_no hk with m4 | ⟨m4, m5⟩ | ⟨m4, m5, m6⟩
      · have P := Lib.hid (imput_no (n : Int) (some ⟨gd, 0, none⟩) (some ⟨gk, 0, none⟩) D K (List.replicate D 0) (List.replicate K (0, 0, 0, 0)) W1 CC.out HK.out)
        rw [List.length_replicate, List.length_replicate] at P
        go_wp2_with fail
        refine P.out.mono ?_; rintro e2 w2 ⟨rfl, hb⟩
        have H2 := Lib.hid (H1.out.below_read hb)
        clear P x0 x1 x2
        obtain ⟨x0, x1, x2⟩ := im_cells H2.out
        have CK := Lib.hid (imcheck_c (n : Int) (some ⟨gd, 0, none⟩) (some ⟨gk, 0, none⟩) D K (List.replicate D 0) (List.replicate K (0, 0, 0, 0)) w2 (CC.out.below hb))
        rw [HK.out, List.length_replicate, List.length_replicate] at CK
        clear hb H1
        go_wp2_with fail
        refine CK.out.mono ?_; rintro e3 w3 ⟨rfl, hb⟩
        have H3 := Lib.hid (H2.out.below_read hb)
        clear hb CK H2 x0 x1 x2
        go_wp2_with fail
        refine (alive_hp L H3.out).mono ?_; rintro e5 w6 ⟨rfl, hb⟩
        have H6 := Lib.hid (H3.out.below_read hb)
        clear hb H3
        go_wp2
        go_ret
        exact ⟨rfl, H6.out.below⟩
      · have P := Lib.hid (imput_no (n : Int) (some ⟨gd, 0, none⟩) (some ⟨gk, 0, none⟩) D K (List.replicate D 0) (List.replicate K (0, 0, 0, 0)) W1 CC.out HK.out)
        rw [List.length_replicate, List.length_replicate] at P
        go_wp2_with fail
        refine P.out.mono ?_; rintro e2 w2 ⟨rfl, hb⟩
        have H2 := Lib.hid (H1.out.below_read hb)
        clear P x0 x1 x2
        obtain ⟨x0, x1, x2⟩ := im_cells H2.out
        have CK := Lib.hid (imcheck_c (n : Int) (some ⟨gd, 0, none⟩) (some ⟨gk, 0, none⟩) D K (List.replicate D 0) (List.replicate K (0, 0, 0, 0)) w2 (CC.out.below hb))
        rw [HK.out, List.length_replicate, List.length_replicate] at CK
        clear hb H1
        go_wp2_with fail
        refine CK.out.mono ?_; rintro e3 w3 ⟨rfl, hb⟩
        have H3 := Lib.hid (H2.out.below_read hb)
        clear hb CK H2 x0 x1 x2
        go_wp2_with fail
        refine (alive_hp L H3.out).mono ?_; rintro e5 w6 ⟨rfl, hb⟩
        have H6 := Lib.hid (H3.out.below_read hb)
        clear hb H3
        go_wp2
        go_ret
        exact ⟨rfl, H6.out.below⟩
      · have P := Lib.hid (imput_no (n : Int) (some ⟨gd, 0, none⟩) (some ⟨gk, 0, none⟩) D K (List.replicate D 0) (List.replicate K (0, 0, 0, 0)) W1 CC.out HK.out)
        rw [List.length_replicate, List.length_replicate] at P
        go_wp2_with fail
        refine P.out.mono ?_; rintro e2 w2 ⟨rfl, hb⟩
        have H2 := Lib.hid (H1.out.below_read hb)
        clear P x0 x1 x2
        obtain ⟨x0, x1, x2⟩ := im_cells H2.out
        have CK := Lib.hid (imcheck_c (n : Int) (some ⟨gd, 0, none⟩) (some ⟨gk, 0, none⟩) D K (List.replicate D 0) (List.replicate K (0, 0, 0, 0)) w2 (CC.out.below hb))
        rw [HK.out, List.length_replicate, List.length_replicate] at CK
        clear hb H1
        go_wp2_with fail
        refine CK.out.mono ?_; rintro e3 w3 ⟨rfl, hb⟩
        have H3 := Lib.hid (H2.out.below_read hb)
        clear hb CK H2 x0 x1 x2
        go_wp2_with fail
        refine (alive_hp L H3.out).mono ?_; rintro e5 w6 ⟨rfl, hb⟩
        have H6 := Lib.hid (H3.out.below_read hb)
        clear hb H3
        go_wp2
        go_ret
        exact ⟨rfl, H6.out.below⟩
end Go.Proofs.YtcfoljdpffonhaaDoor
