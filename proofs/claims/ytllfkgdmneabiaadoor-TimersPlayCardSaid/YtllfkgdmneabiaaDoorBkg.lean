/- The book of lists of ints: all are grown. -/
import Derived.Test.YtllfkgdmneabiaaDoorBkw
import Derived.Laws.AppendOwn
set_option linter.unusedVariables false
set_option linter.unusedSimpArgs false
namespace Go.Proofs.YtllfkgdmneabiaaDoor
open Go.RowKit Go.Shelf
attribute [local go_sem] Oper.semAt_some

/-- Grown by 40. -/
abbrev Gx (x : Hr) : Thing := Gp x.l x.long (x.l.n + 40)
theorem gp_slice {w0 w : World} {h : Hl} {long : Value} {m : Nat} {r : List Thing} (H : Hp w0 w (Gp h long m :: r)) : ∃ a c, long = .slice a m c := by
  rcases (gp_own H).2 with ⟨e, e2⟩ | ⟨g, cap, cur, e, _⟩
  · exact ⟨none, 0, by rw [e, e2]⟩
  · exact ⟨_, _, e⟩
theorem gp_hv {w0 w : World} {h : Hl} {long : Value} {m : Nat} {r : List Thing} (H : Hp w0 w (Gp h long m :: r)) : ∃ a c, h.v = .slice a h.n c := by
  rcases gp_cells H with ⟨e, e2⟩ | ⟨g, c, e, _⟩
  · exact ⟨none, 0, by rw [e, e2]⟩
  · exact ⟨_, _, e⟩
theorem own_shape {w : World} {B : Nat} {e : TypeId} {size : Nat} {v : Value} {n : Nat} {xs : List Value} (h : w.ownsRow B e size v n xs) : ∃ a c, v = .slice a n c := by
  rcases h.2 with ⟨e, e2⟩ | ⟨g, cap, cur, e, _⟩
  · exact ⟨none, 0, by rw [e, e2]⟩
  · exact ⟨_, _, e⟩
abbrev nil_ (h : Hl) : Hr := ⟨h, .slice none 0 0⟩

set_option maxHeartbeats 4000000 in
set_option maxRecDepth 20000 in
theorem grow_c {w0 w : World} {r : List Thing} {kb : Nat} {n : Int} {vb : Value} {xs : List Hl} (H : Hp w0 w (Bkt kb n vb :: Rows_ vb (xs.map nil_) :: (xs.map Mk ++ r))) (hq : ∀ h ∈ xs, (0 ≤ h.q ∧ h.q ≤ 100000) ∧ h.n < 100000) (hl : xs.length < 100000) :
    Calls Tryd.prog 37 #[.pointer (some ⟨kb, 0, none⟩)] w fun e w' => e = .returned (.tuple #[]) ∧ ∃ ys : List Hr, ys.map (·.l) = xs ∧ Hp w0 w' (Bkt kb n vb :: Rows_ vb ys :: (ys.map Gx ++ r)) := by
  obtain ⟨i0, hi, hz0, hz1, hz2⟩ := info_parts info_int
  have HQ := Lib.hid hq
  clear hq
  obtain ⟨a, c, rfl⟩ := own_slice H.tail
  rw [List.length_map] at H ⊢
  have HH := Lib.hid H
  clear H
  go_enter Tryd.func37, Tryd.ntmps37
  go_upto_region 1 with fail
  go_loopw [2] (fun i wr => ∃ (A : List Hr) (B : List Hl), Hid (xs = A.map (·.l) ++ B) ∧ i = .int .i64 A.length ∧ Hid (Hp w0 wr (Bkt kb n (.slice a xs.length c) :: Rows_ (.slice a xs.length c) (A ++ B.map nil_) :: (A.map Gx ++ B.map Mk ++ r)))) (fun i _ => xs.length - (intOf i).toNat)
  case atStart => exact ⟨[], xs, Lib.hid rfl, rfl, HH⟩
  case round =>
    obtain ⟨A, B, hx, rfl, hH⟩ := hrel
    obtain ⟨hk, hf⟩ := bk_cells hH.out
    have h3 : wr.cell? ⟨kb, 3, none⟩ = some (.slice a xs.length c) := hk 3
    clear hk hf
    cases B with
    | nil =>
      have e : A.map (·.l) = xs := by have := hx.out; simpa using this.symm
      have e2 : A.length = xs.length := by rw [← e, List.length_map]
      have E := Lib.hid e
      have E2 := Lib.hid e2
      have c1 : ¬ (A.length : Int) < (xs.length : Int) := by omega
      clear e e2
      go_wp2
      exact bodyPost_end (results_none rfl _ _ _) rfl ⟨rfl, A, E.out, by have := hH.out; simpa using this⟩
    | cons h B =>
      have hlen : xs.length = A.length + (B.length + 1) := by rw [hx.out]; simp
      have c1 : (A.length : Int) < (xs.length : Int) := by omega
      have H1 := Hp.perm hH.out perm_in
      have H2 := gp_of H1
      obtain ⟨ah, ch, hv⟩ := gp_slice H2
      have hcs : ∀ o, o < 3 → (hc (A ++ (h :: B).map nil_))[A.length * 3 + o]? = (hrc (nil_ h))[o]? := fun o ho => hc_at _ _ _ _ rfl o ho
      obtain ⟨g, cap, e1, k0⟩ := own_cell H2.tail.tail _ _ (hcs 0 (by omega))
      obtain ⟨g', cap', e2, k1⟩ := own_cell H2.tail.tail _ _ (hcs 1 (by omega))
      obtain ⟨rfl, -, rfl⟩ := Value.slice.inj e1
      obtain ⟨e2, -, -⟩ := Value.slice.inj e2
      cases e2
      obtain ⟨g', cap', e2, k2⟩ := own_cell H2.tail.tail _ _ (hcs 2 (by omega))
      obtain ⟨e2, -, -⟩ := Value.slice.inj e2
      cases e2
      clear hcs e1
      rw [hv] at k0 H2
      have HH2 := Lib.hid H2
      have HX := Lib.hid hx.out
      have HV := Lib.hid hv
      have hqn := HQ.out h (by rw [hx.out]; simp)
      have HQN := Lib.hid hqn
      simp only [Nat.add_zero] at k0
      have hlt0 : (0 : Int) ≤ (A.length : Int) := Int.natCast_nonneg _
      clear H1 H2 hx hH hlen hqn
      go_upto_region 6 with fail
      have H3 := (blk_new HH2.out (.cells #[.slice ah h.n ch, .slice none 0 0, .int .i64 h.q] 76)).up1
      clear k0 k1 k2 h3 HH2 hv c1 hlt0
      generalize (wr.alloc (.cells #[.slice ah h.n ch, .slice none 0 0, .int .i64 h.q] 76)) = w2 at *
      generalize wr.heap.size = hb at *
      have H3' := Lib.hid H3
      clear H3
      go_loopw [4, 5] (fun lv j wx => ∃ (k : Nat) (al : Option Addr) (cl : Nat), k ≤ 40 ∧ lv = .slice al (h.n + k) cl ∧ j = .int .i64 k ∧ Hid (Hp w0 wx (Gp h (.slice al (h.n + k) cl) (h.n + k) :: Blk hb (.cells #[.slice ah h.n ch, .slice none 0 0, .int .i64 h.q] 76 (0, 0)) :: Bkt kb n (.slice (some ⟨g, 0, none⟩) xs.length c) :: Rows_ (.slice (some ⟨g, 0, none⟩) xs.length c) (A ++ (h :: B).map nil_) :: (A.map Gx ++ B.map Mk ++ r)))) (fun _ j _ => 40 - (intOf j).toNat)
      case atStart => exact ⟨0, ah, ch, by omega, rfl, rfl, H3'⟩
      case round =>
        obtain ⟨k, al, cl, hk, rfl, rfl, hH⟩ := hrel
        have b2 : wr.cell? ⟨hb, 2, none⟩ = some (.int .i64 h.q) := cell_blk (blk_get hH.out.up1) 2
        by_cases hlt : k < 40
        · have c1 : (k : Int) < 40 := by omega
          have hwz : IntKind.i64.wrap ((k : Int) + 1) = (k : Int) + 1 := by rw [IntKind.wrap_i64]; omega
          have MC := Lib.hid (fun w => mark_c w h.q HQN.out.1)
          have hn1 := HQN.out.2
          have HT := Lib.hid (fun (wa w' : World) (long' : Value) (ha : Hp w0 wa (Gp h (.slice al (h.n + k) cl) (h.n + k) :: Blk hb (.cells #[.slice ah h.n ch, .slice none 0 0, .int .i64 h.q] 76 (0, 0)) :: Bkt kb n (.slice (some ⟨g, 0, none⟩) xs.length c) :: Rows_ (.slice (some ⟨g, 0, none⟩) xs.length c) (A ++ (h :: B).map nil_) :: (A.map Gx ++ B.map Mk ++ r))) => gp_turn (w' := w') (long' := long') ha (Nat.le_add_right _ _))
          have hown := gp_own hH.out
          generalize mk h.q = mq at *
          generalize (List.replicate (h.n + k) mq).map (Value.int .i64) = cs at *
          go_wp2_with fail
          refine (MC.out _).mono ?_; rintro e wz ⟨rfl, rfl⟩
          go_wp2_with (at_builtin; refine wpList_append_keep _ rfl _ _ 43 rfl 0 3 i0 (.int .i64 0) 1 8 Tryd.underlying43 hi hz0 hz1 hz2 rfl (by decide) (.slice al (h.n + k) cl) (h.n + k) cs rfl (hown.alloc _) ⟨wr.heap.size, 0, none⟩ 1 1 [.int .i64 mq] rfl rfl (cell_one_new _ _ _) (by intro u hu; simp at hu; subst hu; rfl) (by unfold maxLen; omega) (by omega) (Nat.zero_le _) ?_; intro v' w' hown' hgrow hkeep; have HN := HT.out _ w' v' (hH.out.alloc _) hgrow hown' hkeep; obtain ⟨a', c', rfl⟩ := own_shape hown'; replace HN := Lib.hid HN; clear hown' hgrow hkeep)
          go_roundw
          case rel => exact ⟨k + 1, a', c', by omega, by rw [Nat.add_assoc], by go_num, HN⟩
          case measure => simp [intOf]; omega
        · have hke : k = 40 := by omega
          subst hke
          have hlen : xs.length = A.length + (B.length + 1) := by have := congrArg List.length HX.out; simpa using this
          have hwz : IntKind.i64.wrap ((A.length : Int) + 1) = (A.length : Int) + 1 := by rw [IntKind.wrap_i64]; omega
          obtain ⟨hk3, hf3⟩ := bk_cells hH.out.tail.tail
          have h3 : wr.cell? ⟨kb, 3, none⟩ = some (.slice (some ⟨g, 0, none⟩) xs.length c) := hk3 3
          have eR : ∀ x : Hr, Rows_ (.slice (some ⟨g, 0, none⟩) xs.length c) (A ++ x :: B.map nil_) = Own 76 3 (.slice (some ⟨g, 0, none⟩) xs.length c) xs.length (hc (A ++ x :: B.map nil_)) := fun x => by
            unfold Rows_; rw [show (A ++ x :: B.map nil_).length = xs.length by simp; omega]
          have hR : Hp w0 wr (Own 76 3 (.slice (some ⟨g, 0, none⟩) xs.length c) xs.length (hc (A ++ nil_ h :: B.map nil_)) :: Gp h (.slice al (h.n + 40) cl) (h.n + 40) :: Blk hb (.cells #[.slice ah h.n ch, .slice none 0 0, .int .i64 h.q] 76 (0, 0)) :: Bkt kb n (.slice (some ⟨g, 0, none⟩) xs.length c) :: (A.map Gx ++ B.map Mk ++ r)) := by
            rw [← eR]; exact hH.out.pull 3 rfl
          obtain ⟨g', cap', e2, k1⟩ := own_cell hR (A.length * 3 + 1) (.slice none 0 0) (hc_at A (B.map nil_) (nil_ h) A.length rfl 1 (by omega))
          obtain ⟨e2, -, -⟩ := Value.slice.inj e2
          cases e2
          have kf := (own_get hR).frozenAt (A.length * 3 + 1)
          have HE : Hid (Hp w0 (wr.setCell ⟨g, A.length * 3 + 1, none⟩ (.slice al (h.n + 40) cl)) (Bkt kb n (.slice (some ⟨g, 0, none⟩) xs.length c) :: Rows_ (.slice (some ⟨g, 0, none⟩) xs.length c) ((A ++ [⟨h, .slice al (h.n + 40) cl⟩]) ++ B.map nil_) :: ((A ++ [(⟨h, .slice al (h.n + 40) cl⟩ : Hr)]).map Gx ++ B.map Mk ++ r))) := Lib.hid (by
            have h1 := own_set hR (A.length * 3 + 1) (.slice al (h.n + 40) cl) (by omega)
            rw [hc_set _ _ _ _ rfl, ← eR] at h1
            have h2 := ((h1.pull 2 rfl).tail.pull 2 rfl).pull 2 rfl
            have h4 := Hp.perm h2 perm_in.symm
            simpa using h4)
          have c1 : (A.length : Int) < (xs.length : Int) := by omega
          have hlt0 : (0 : Int) ≤ (A.length : Int) := Int.natCast_nonneg _
          clear hlen hk3 hf3 hR eR hH b2
          go_wp2
          go_roundw
          case rel => exact ⟨A ++ [⟨h, .slice al (h.n + 40) cl⟩], B, Lib.hid (by rw [HX.out]; simp), by rw [List.length_append, List.length_singleton]; go_num, Lib.hid (by first | exact HE.out | exact HE.out.drew)⟩
          case measure => have := HX.out; simp [intOf]; have h2 := congrArg List.length this; simp at h2; omega
end Go.Proofs.YtllfkgdmneabiaaDoor
