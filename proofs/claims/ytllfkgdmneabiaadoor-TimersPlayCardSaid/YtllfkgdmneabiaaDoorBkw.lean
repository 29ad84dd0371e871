/- The book of lists of ints that were answered: its walks. -/
import Derived.Test.YtllfkgdmneabiaaDoorBka
import Derived.Deep.RegionLaw
import Derived.Deep.RegionHeld3
import Derived.Deep.CutRange
import Derived.Deep.Light
import Derived.BigQuiet
import Derived.StillTailTactics
set_option linter.unusedVariables false
set_option linter.unusedSimpArgs false
namespace Go.Proofs.YtllfkgdmneabiaaDoor
open Go.RowKit Go.Shelf
attribute [local go_sem] Oper.semAt_some

theorem info_held : (Tryd.prog.info? 76).map (fun i => (i.zero, i.size, i.bytes)) = some (some (.agg #[.slice none 0 0, .slice none 0 0, .int .i64 0]), 3, 56) := by kernel_rfl
theorem mark_wrap {q : Int} (h : 0 ≤ q ∧ q ≤ 100000) : IntKind.i64.wrap (-1000 - q) = mk q := by rw [IntKind.wrap_i64]; unfold mk; omega
theorem mark_c (w : World) (q : Int) (h : 0 ≤ q ∧ q ≤ 100000) :
    Calls Tryd.prog 58 #[.int .i64 q] w fun e w' => e = .returned (.int .i64 (mk q)) ∧ w = w' := by
  have hw := mark_wrap h
  generalize mk q = m at *
  clear h
  go_enter Tryd.func58, Tryd.ntmps58
  go_wp2
  go_ret
  exact ⟨rfl, rfl⟩
theorem ismark_c (w : World) (q : Int) (h : 0 ≤ q ∧ q ≤ 100000) :
    Calls Tryd.prog 66 #[.int .i64 (mk q), .int .i64 q] w fun e w' => e = .returned (.bool true) ∧ w = w' := by
  have hw := mark_wrap h
  generalize mk q = m at *
  clear h
  go_enter Tryd.func66, Tryd.ntmps66
  go_wp2
  go_ret
  exact ⟨by simp, rfl⟩

abbrev Bkt (kb : Nat) (n : Int) (vb : Value) : Thing := Blk kb (.cells (bk n vb) 37 (0, 0))
abbrev Rows_ (vb : Value) (xs : List Hr) : Thing := Own 76 3 vb xs.length (hc xs)
theorem bk_cells {w0 w : World} {r : List Thing} {kb : Nat} {n : Int} {vb : Value} (h : Hp w0 w (Bkt kb n vb :: r)) : (∀ o, w.cell? ⟨kb, o, none⟩ = (bk n vb)[o]?) ∧ ∀ o, w.frozen? ⟨kb, o, none⟩ = false :=
  ⟨fun o => cell_blk (blk_get h) o, fun o => free_blk (blk_get h) o⟩
theorem rows_snoc {w0 w : World} {r : List Thing} {t : Thing} {v : Value} {xs : List Hr} {x : Hr} (h : Hp w0 w (t :: Own 76 3 v (xs.length + 1) (hc xs ++ [x.l.v, x.long, .int .i64 x.l.q]) :: r)) : Hp w0 w (t :: Rows_ v (xs ++ [x]) :: r) := by
  have e1 : (xs ++ [x]).length = xs.length + 1 := by simp
  have e2 : hc (xs ++ [x]) = hc xs ++ [x.l.v, x.long, .int .i64 x.l.q] := hc_app _ _
  unfold Rows_
  rw [e1, e2]
  exact h
theorem perm_in {a b t : Thing} {X Y r : List Thing} : (a :: b :: (X ++ (t :: Y) ++ r)).Perm (t :: a :: b :: (X ++ Y ++ r)) := by
  have := List.perm_middle (a := t) (l₁ := a :: b :: X) (l₂ := Y ++ r)
  simpa using this

set_option maxHeartbeats 4000000 in
set_option maxRecDepth 20000 in
theorem keepint_c {w0 w : World} {r : List Thing} {kb : Nat} {n : Int} {vb : Value} {xs : List Hr} (av : Option Addr) (m cv : Nat) (H : Hp w0 w (Bkt kb n vb :: Rows_ vb xs :: r)) (hn : 0 ≤ n ∧ n < 100000) (hl : xs.length < 100000) :
    Calls Tryd.prog 25 #[.pointer (some ⟨kb, 0, none⟩), .slice av m cv] w fun e w' => e = .returned (.tuple #[]) ∧ ∃ vb', Hp w0 w' (Bkt kb (n + 1) vb' :: Rows_ vb' (xs ++ [⟨⟨.slice av m cv, m, n + 1⟩, .slice none 0 0⟩]) :: r) := by
  obtain ⟨i0, hi, hz0, hz1, hz2⟩ := info_parts info_held
  have hw : IntKind.i64.wrap (n + 1) = n + 1 := by rw [IntKind.wrap_i64]; omega
  obtain ⟨hk, hf⟩ := bk_cells H
  have h0 : w.cell? ⟨kb, 0, none⟩ = some (.int .i64 n) := hk 0
  have f0 := hf 0
  clear hk hf
  have HH := Lib.hid H
  clear H
  go_enter Tryd.func25, Tryd.ntmps25
  go_upto_region 1 with fail
  have H1 : Hp w0 (w.setCell ⟨kb, 0, none⟩ (.int .i64 (n + 1))) (Bkt kb (n + 1) vb :: Rows_ vb xs :: r) := blk_set HH.out 0 _
  clear h0 f0 HH
  generalize (w.setCell ⟨kb, 0, none⟩ (.int .i64 (n + 1))) = w1 at *
  obtain ⟨hk, hf⟩ := bk_cells H1
  have h0 : w1.cell? ⟨kb, 0, none⟩ = some (.int .i64 (n + 1)) := hk 0
  have h3 : w1.cell? ⟨kb, 3, none⟩ = some vb := hk 3
  have f3 := hf 3
  clear hk hf
  obtain ⟨a, c, rfl⟩ := own_slice H1.tail
  have hown := own_get H1.tail
  have h3a : (w1.alloc (.cells #[.slice av m cv, .slice none 0 0, .int .i64 (n + 1)] 76)).cell? ⟨kb, 3, none⟩ = some (.slice a xs.length c) := (bk_cells (H1.alloc _)).1 3
  have HH := Lib.hid H1
  clear H1
  go_wp2
  go_region_law ((refine step_append_lies _ (by rfl) _ _ _ (by rfl) 0 76 i0 _ 3 56 Tryd.underlying30 hi hz0 hz1 hz2 rfl (by omega) (.slice a xs.length c) xs.length (hc xs) (by rfl) (by first | exact hown.alloc _ | exact (hown.alloc _).drew | exact hown.drew.alloc _ | exact (hown.drew.alloc _).drew) ⟨w1.heap.size, 0, none⟩ 1 1 [.slice av m cv, .slice none 0 0, .int .i64 (n + 1)] (by rfl) (by rfl) (World.news_of_block (cs := #[.slice av m cv, .slice none 0 0, .int .i64 (n + 1)]) (t := 76) (fr := (0, 0)) (blk_alloc_new _ _)) (by simp [Value.oneCell']) (by omega) (by unfold maxLen; omega) (by omega) (by omega) _ rfl ?_; intro g cap w2 hown2 hgrow hat hlt; have HB := own_turn (by first | exact HH.out.up1.alloc _ | exact (HH.out.up1.alloc _).drew | exact HH.out.up1.drew.alloc _ | exact (HH.out.up1.drew.alloc _).drew) hgrow hown2 (hat.elim (fun h => Or.inl h.symm) (fun h => Or.inr (by rw [h]; rfl))); replace HB := HB.up1; have k3 : w2.cell? ⟨kb, 3, none⟩ = some (.slice a xs.length c) := (bk_cells HB).1 3; have f3' := (bk_cells HB).2 3; replace HB := Lib.hid HB; clear hown2 hgrow hat hlt))
  all_goals go_wp2
  all_goals refine bodyPost_end (results_none rfl _ _ _) rfl ⟨rfl, .slice (some ⟨g, 0, none⟩) (xs.length + 1) cap, ?_⟩
  all_goals exact rows_snoc (blk_set HB.out 3 _)

theorem ints_c {w0 w : World} {r : List Thing} {kb : Nat} {n : Int} {vb : Value} {xs : List Hr} (av : Option Addr) (m cv : Nat) (H : Hp w0 w (Bkt kb n vb :: Rows_ vb xs :: r)) (hn : 0 ≤ n ∧ n < 100000) (hl : xs.length < 100000) :
    Calls Tryd.prog 14 #[.pointer (some ⟨kb, 0, none⟩), .slice av m cv] w fun e w' => e = .returned (.tuple #[]) ∧ ∃ vb', Hp w0 w' (Bkt kb (n + 1) vb' :: Rows_ vb' (xs ++ [⟨⟨.slice av m cv, m, n + 1⟩, .slice none 0 0⟩]) :: r) := by
  have HK := keepint_c av m cv H hn hl
  clear H
  go_enter Tryd.func14, Tryd.ntmps14
  go_wp2_with fail
  refine HK.mono ?_; rintro e w2 ⟨rfl, vb', H2⟩
  go_wp2
  exact bodyPost_end (results_none rfl _ _ _) rfl ⟨rfl, vb', H2⟩

theorem fillstep (m : Int) (zs : List Int) (k : Nat) (h : k < zs.length) : ((List.replicate k m ++ zs.drop k).map (Value.int .i64)).set k (.int .i64 m) = (List.replicate (k + 1) m ++ zs.drop (k + 1)).map (Value.int .i64) := by
  rw [← List.map_set]
  congr 1
  rw [List.set_append_right _ _ (by simp), List.length_replicate, Nat.sub_self, List.drop_eq_getElem_cons h]
  rw [List.set_cons_zero, List.replicate_succ']
  simp
set_option maxHeartbeats 4000000 in
set_option maxRecDepth 20000 in
theorem fill_c {w0 w : World} {r : List Thing} {kb : Nat} {n : Int} {vb : Value} {xs : List Hl} (H : Hp w0 w (Bkt kb n vb :: Rows_ vb (xs.map (⟨·, .slice none 0 0⟩)) :: (xs.map Kp ++ r))) (hq : ∀ h ∈ xs, (0 ≤ h.q ∧ h.q ≤ 100000) ∧ h.n < 100000) (hl : xs.length < 100000) :
    Calls Tryd.prog 29 #[.pointer (some ⟨kb, 0, none⟩)] w fun e w' => e = .returned (.tuple #[]) ∧ Hp w0 w' (Bkt kb n vb :: Rows_ vb (xs.map (⟨·, .slice none 0 0⟩)) :: (xs.map Mk ++ r)) := by
  have HQ := Lib.hid hq
  clear hq
  obtain ⟨a, c, rfl⟩ := own_slice H.tail
  rw [List.length_map] at H ⊢
  have HH := Lib.hid H
  clear H
  go_enter Tryd.func29, Tryd.ntmps29
  go_upto_region 1 with fail
  go_loopw [2] (fun i wr => ∃ A B : List Hl, Hid (xs = A ++ B) ∧ i = .int .i64 A.length ∧ Hid (Hp w0 wr (Bkt kb n (.slice a xs.length c) :: Rows_ (.slice a xs.length c) (xs.map (⟨·, .slice none 0 0⟩)) :: (A.map Mk ++ B.map Kp ++ r)))) (fun i _ => xs.length - (intOf i).toNat)
  case atStart => exact ⟨[], xs, Lib.hid rfl, rfl, HH⟩
  case round =>
    obtain ⟨A, B, hx, rfl, hH⟩ := hrel
    obtain ⟨hk, hf⟩ := bk_cells hH.out
    have h3 : wr.cell? ⟨kb, 3, none⟩ = some (.slice a xs.length c) := hk 3
    clear hk hf
    cases B with
    | nil =>
      have e : xs = A := by have := hx.out; simpa using this
      subst e
      go_wp2
      exact bodyPost_end (results_none rfl _ _ _) rfl ⟨rfl, by have := hH.out; simpa using this⟩
    | cons h B =>
      have hlen : xs.length = A.length + (B.length + 1) := by rw [hx.out]; simp
      have c1 : (A.length : Int) < (xs.length : Int) := by omega
      have H1 := Hp.perm hH.out perm_in
      obtain ⟨zs, hz, H2⟩ := ownx_get H1
      obtain ⟨ah, ch, hv⟩ := own_slice H2
      have hcs : ∀ o, o < 3 → (hc (xs.map (⟨·, .slice none 0 0⟩)))[A.length * 3 + o]? = (hrc ⟨h, .slice none 0 0⟩)[o]? := fun o ho => by
        rw [hx.out, List.map_append]
        exact hc_at _ _ _ _ (by simp) o ho
      obtain ⟨g, cap, e1, k0⟩ := own_cell H2.tail.tail _ _ (hcs 0 (by omega))
      obtain ⟨g', cap', e2, k1⟩ := own_cell H2.tail.tail _ _ (hcs 1 (by omega))
      obtain ⟨rfl, -, rfl⟩ := Value.slice.inj e1
      obtain ⟨e2, -, -⟩ := Value.slice.inj e2
      cases e2
      obtain ⟨g', cap', e2, k2⟩ := own_cell H2.tail.tail _ _ (hcs 2 (by omega))
      obtain ⟨e2, -, -⟩ := Value.slice.inj e2
      cases e2
      clear hcs
      rw [hv] at k0
      have HH2 := Lib.hid H2
      have HZ := Lib.hid hz
      have HX := Lib.hid hx.out
      have HV := Lib.hid hv
      have hqn := HQ.out h (by rw [hx.out]; simp)
      have HQN := Lib.hid hqn
      simp only [Nat.add_zero] at k0
      have hlt0 : (0 : Int) ≤ (A.length : Int) := Int.natCast_nonneg _
      clear H1 H2 hx hH hlen hz hqn
      go_upto_region 5 with fail
      have H3 := blk_new HH2.out (.cells #[.slice ah zs.length ch, .slice none 0 0, .int .i64 h.q] 76)
      rw [hv] at H3
      clear k0 k1 k2 h3 HH2 hv c1 hlt0
      generalize (wr.alloc (.cells #[.slice ah zs.length ch, .slice none 0 0, .int .i64 h.q] 76)) = w2 at *
      generalize wr.heap.size = hb at *
      have H3' : Hid (Hp w0 w2 (Blk hb (.cells #[.slice ah zs.length ch, .slice none 0 0, .int .i64 h.q] 76 (0, 0)) :: Own 3 1 (.slice ah zs.length ch) zs.length ((List.replicate 0 (mk h.q) ++ zs.drop 0).map (Value.int .i64)) :: Bkt kb n (.slice (some ⟨g, 0, none⟩) xs.length c) :: Rows_ (.slice (some ⟨g, 0, none⟩) xs.length c) (xs.map (⟨·, .slice none 0 0⟩)) :: (A.map Mk ++ B.map Kp ++ r))) := Lib.hid (by simpa using H3)
      clear H3
      go_loopw [4] (fun j wx => ∃ k : Nat, k ≤ zs.length ∧ j = .int .i64 k ∧ Hid (Hp w0 wx (Blk hb (.cells #[.slice ah zs.length ch, .slice none 0 0, .int .i64 h.q] 76 (0, 0)) :: Own 3 1 (.slice ah zs.length ch) zs.length ((List.replicate k (mk h.q) ++ zs.drop k).map (Value.int .i64)) :: Bkt kb n (.slice (some ⟨g, 0, none⟩) xs.length c) :: Rows_ (.slice (some ⟨g, 0, none⟩) xs.length c) (xs.map (⟨·, .slice none 0 0⟩)) :: (A.map Mk ++ B.map Kp ++ r)))) (fun j _ => zs.length - (intOf j).toNat)
      case atStart => exact ⟨0, Nat.zero_le _, rfl, H3'⟩
      case round =>
        obtain ⟨k, hk, rfl, hH⟩ := hrel
        have b0 : wr.cell? ⟨hb, 0, none⟩ = some (.slice ah zs.length ch) := cell_blk (blk_get hH.out) 0
        have b2 : wr.cell? ⟨hb, 2, none⟩ = some (.int .i64 h.q) := cell_blk (blk_get hH.out) 2
        by_cases hlt : k < zs.length
        · have c1 : (k : Int) < (zs.length : Int) := by omega
          obtain ⟨x, hx⟩ : ∃ x, ((List.replicate k (mk h.q) ++ zs.drop k).map (Value.int .i64))[k]? = some x := by
            rw [List.getElem?_eq_getElem (by simp; omega)]; exact ⟨_, rfl⟩
          obtain ⟨g2, cap, e1, kx⟩ := own_cell hH.out.tail k x hx
          obtain ⟨rfl, -, rfl⟩ := Value.slice.inj e1
          have kf := (own_get hH.out.tail).frozenAt k
          have hmk : ((List.replicate k (mk h.q) ++ zs.drop k).map (Value.int .i64)).set k (.int .i64 (mk h.q)) = (List.replicate (k + 1) (mk h.q) ++ zs.drop (k + 1)).map (Value.int .i64) := fillstep (mk h.q) zs k hlt
          have HM := Lib.hid hmk
          have MC := Lib.hid (fun w => mark_c w h.q HQN.out.1)
          have hk0 : (0 : Int) ≤ (k : Int) := Int.natCast_nonneg _
          have hwz : IntKind.i64.wrap ((k : Int) + 1) = (k : Int) + 1 := by rw [IntKind.wrap_i64]; have := HQN.out.2; have := HZ.out; omega
          generalize mk h.q = mq at *
          clear hx e1 hmk
          have HR : Hid (∀ (wz : World), Tch Nil wr wz → Hp w0 (wz.setCell ⟨g2, k, none⟩ (.int .i64 mq)) _) := Lib.hid fun wz ht => by have := own_set (hH.out.read ht).up1 k (.int .i64 mq) (by omega); rw [HM.out] at this; exact this.up1
          go_wp2
          go_region_with (go_at_call 58; refine (MC.out _).mono ?_; rintro e wz ⟨rfl, rfl⟩)
          all_goals
            (go_wp2
             go_roundw
             case rel => exact ⟨k + 1, by omega, by go_num, Lib.hid (by first | exact HR.out _ (Tch.refl _ _) | exact (HR.out _ (Tch.refl _ _)).drew)⟩
             case measure => simp [intOf]; omega)
        · have hke : k = zs.length := by omega
          have hlen : xs.length = A.length + (B.length + 1) := by rw [HX.out]; simp
          have hwz : IntKind.i64.wrap ((A.length : Int) + 1) = (A.length : Int) + 1 := by rw [IntKind.wrap_i64]; omega
          have HE : Hid (∀ wz, Tch Nil wr wz → Hp w0 wz (Bkt kb n (.slice (some ⟨g, 0, none⟩) xs.length c) :: Rows_ (.slice (some ⟨g, 0, none⟩) xs.length c) (xs.map (⟨·, .slice none 0 0⟩)) :: ((A ++ [h]).map Mk ++ B.map Kp ++ r))) := Lib.hid fun wz ht => by
            have h1 := (hH.out.read ht).tail
            rw [hke, List.drop_length, List.append_nil] at h1
            have h2 : Hp w0 wz (Mk h :: Bkt kb n (.slice (some ⟨g, 0, none⟩) xs.length c) :: Rows_ (.slice (some ⟨g, 0, none⟩) xs.length c) (xs.map (⟨·, .slice none 0 0⟩)) :: (A.map Mk ++ B.map Kp ++ r)) := by
              unfold Mk OwnI
              rw [HV.out, ← HZ.out, List.length_replicate]
              exact h1
            have h3 := h2.perm perm_in.symm
            simpa using h3
          clear hlen
          subst hke
          have c1 : ¬ (zs.length : Int) < (zs.length : Int) := by omega
          go_wp2
          go_roundw
          case rel => exact ⟨A ++ [h], B, Lib.hid (by rw [HX.out]; simp), by rw [List.length_append, List.length_singleton]; go_num, Lib.hid (by first | exact HE.out _ (Tch.refl _ _) | exact (HE.out _ (Tch.refl _ _)).drew)⟩
          case measure => have := HX.out; simp [intOf]; have h2 := congrArg List.length this; simp at h2; omega
end Go.Proofs.YtllfkgdmneabiaaDoor
