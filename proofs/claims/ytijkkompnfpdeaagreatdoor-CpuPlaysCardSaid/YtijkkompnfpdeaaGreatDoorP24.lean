/- The book's lists of bytes. -/
import Derived.Test.YtijkkompnfpdeaaGreatDoorP23
set_option linter.unusedVariables false
set_option linter.unusedSimpArgs false
namespace Go.Proofs.YtijkkompnfpdeaaGreatDoor
open Go.RowKit Go.Shelf
attribute [local go_sem] Oper.semAt_some
namespace BkB
/-- A row of bytes. -/
abbrev OwnI (v : Value) (zs : List Int) : Thing := Own 5 1 v zs.length (zs.map (Value.int .u8))
theorem info_byte : (Tryz.prog.info? 5).map (fun i => (i.zero, i.size, i.bytes)) = some (some (.int .u8 0), 1, 1) := by kernel_rfl
/-- The book's own cells. -/
def bk (vo : Value) (n : Int) (vb : Value) : Array Value := #[.int .i64 n, vb, .slice none 0 0, .slice none 0 0, .slice none 0 0, vo, .slice none 0 0, .slice none 0 0, .slice none 0 0]
/-- Its mark. -/
def mk (q : Int) : Int := 1 + q % 250
/-- A row of ints, whichever. -/
def OwnX (v : Value) (n : Nat) : Thing where
  at_ w S := ∃ zs : List Int, zs.length = n ∧ (OwnI v zs).at_ w S
  lt := by rintro w S ⟨zs, _, h⟩; exact (OwnI v zs).lt h
  keeps := by rintro w w' S T ⟨zs, e, h⟩ ht hn; exact ⟨zs, e, (OwnI v zs).keeps h ht hn⟩
theorem ownx_of {w0 w : World} {v : Value} {zs : List Int} {r : List Thing} (h : Hp w0 w (OwnI v zs :: r)) : Hp w0 w (OwnX v zs.length :: r) := h.as fun S h => ⟨zs, rfl, h⟩
theorem ownx_get {w0 w : World} {v : Value} {n : Nat} {r : List Thing} (h : Hp w0 w (OwnX v n :: r)) : ∃ zs : List Int, zs.length = n ∧ Hp w0 w (OwnI v zs :: r) := by
  obtain ⟨S, ⟨zs, e, h1⟩, h2, h3⟩ := h.lay
  exact ⟨zs, e, h.below, S, h1, h2, h3⟩
abbrev Kp (h : Hl) : Thing := OwnX h.v h.n
/-- All marked. -/
abbrev Mk (h : Hl) : Thing := OwnI h.v (List.replicate h.n (mk h.q))
/-- Grown: all marks, the list and the long one. -/
def Gp (h : Hl) (long : Value) (m : Nat) : Thing where
  at_ w S := w.ownsRow 0 5 1 long m ((List.replicate m (mk h.q)).map (Value.int .u8)) ∧
    ((h.v = .slice none 0 0 ∧ h.n = 0) ∨ ∃ g c o, h.v = .slice (some ⟨g, 0, none⟩) h.n c ∧ w.heap[g]? = some o ∧ ∀ j, j < h.n → w.cell? ⟨g, j, none⟩ = some (.int .u8 (mk h.q))) ∧
    S = fun k => h.v.ownBlock = some k ∨ long.ownBlock = some k
  lt := by
    rintro w S ⟨h1, h2, rfl⟩ k (hk | hk)
    · rcases h2 with ⟨e, _⟩ | ⟨g, c, o, e, hg, _⟩
      · rw [e] at hk; cases hk
      · rw [e] at hk; injection hk with hk; subst hk; exact blk_lt hg
    · exact (h1.lt k hk).2
  keeps := by
    rintro w w' S T ⟨h1, h2, rfl⟩ ht hn
    refine ⟨?_, ?_, rfl⟩
    · exact ((Own 5 1 long m _).keeps (S := fun k => long.ownBlock = some k) ⟨h1, rfl⟩ ht (fun k hk => hn k (Or.inr hk))).1
    · rcases h2 with e | ⟨g, c, o, e, hg, hc⟩
      · exact Or.inl e
      · have hb := ht.block g (blk_lt hg) (hn g (Or.inl (by rw [e]; rfl)))
        exact Or.inr ⟨g, c, o, e, hb.trans hg, fun j hj => (World.cell?_of_block (a := ⟨g, j, none⟩) hb).trans (hc j hj)⟩
theorem gp_of {w0 w : World} {h : Hl} {r : List Thing} (H : Hp w0 w (Mk h :: r)) : Hp w0 w (Gp h h.v h.n :: r) := H.as fun S h1 => by
  obtain ⟨h1, rfl⟩ := h1
  have h1' : w.ownsRow 0 5 1 h.v h.n ((List.replicate h.n (mk h.q)).map (Value.int .u8)) := by simpa using h1
  refine ⟨h1', ?_, ?_⟩
  · rcases h1'.2 with h3 | ⟨g, cap, cur, e, h2, h3, h4⟩
    · exact Or.inl h3
    · refine Or.inr ⟨g, cap, _, e, h3, fun j hj => ?_⟩
      have := h1'.cells (g := g) (by rw [e]; rfl) j (.int .u8 (mk h.q)) (by simp [hj])
      rwa [show (⟨g, 0, none⟩ : Addr).add j = ⟨g, 0 + j, none⟩ from Addr.add_lit g 0 j, Nat.zero_add] at this
  · funext k; simp
theorem gp_own {w0 w : World} {h : Hl} {long : Value} {m : Nat} {r : List Thing} (H : Hp w0 w (Gp h long m :: r)) : w.ownsRow 0 5 1 long m ((List.replicate m (mk h.q)).map (Value.int .u8)) := by
  obtain ⟨S, ⟨h1, _⟩, _⟩ := H.lay
  exact h1
theorem gp_cells {w0 w : World} {h : Hl} {long : Value} {m : Nat} {r : List Thing} (H : Hp w0 w (Gp h long m :: r)) : (h.v = .slice none 0 0 ∧ h.n = 0) ∨ ∃ g c, h.v = .slice (some ⟨g, 0, none⟩) h.n c ∧ ∀ j, j < h.n → w.cell? ⟨g, j, none⟩ = some (.int .u8 (mk h.q)) := by
  obtain ⟨S, ⟨_, h1, _⟩, _⟩ := H.lay
  rcases h1 with h1 | ⟨g, c, o, e, _, h2⟩
  · exact Or.inl h1
  · exact Or.inr ⟨g, c, e, h2⟩
theorem gp_turn {w0 w w' : World} {h : Hl} {long long' : Value} {m : Nat} {r : List Thing} (H : Hp w0 w (Gp h long m :: r)) (hm : h.n ≤ m) (hg : w.grownBy w' long.ownBlock)
    (ho : w'.ownsRow 0 5 1 long' (m + 1) ((List.replicate m (mk h.q)).map (Value.int .u8) ++ [.int .u8 (mk h.q)])) (hl : long'.ownBlock = long.ownBlock ∨ (long'.ownBlock = some w.heap.size ∧ w.grownBy w' none)) : Hp w0 w' (Gp h long' (m + 1) :: r) := by
  obtain ⟨S, ⟨h1, h2, rfl⟩, h3, h4⟩ := H.lay
  have ho' : w'.ownsRow 0 5 1 long' (m + 1) ((List.replicate (m + 1) (mk h.q)).map (Value.int .u8)) := by
    rw [List.replicate_succ', List.map_append]; exact ho
  refine Hp.step (t' := Gp h long' (m + 1)) (S := fun k => h.v.ownBlock = some k ∨ long.ownBlock = some k) (S' := fun k => h.v.ownBlock = some k ∨ long'.ownBlock = some k) H.below (fun k hk => (h3 k hk).1) h4
    ⟨hg.os, hg.tape, hg.output, hg.size, fun k hk hn => hg.block k hk (fun e => hn (Or.inr e.symm))⟩ ⟨ho', ?_, rfl⟩ (fun k hk => ?_)
  · rcases h2 with h2 | ⟨g, c, o, e, hb, hc⟩
    · exact Or.inl h2
    · have keep : w'.heap[g]? = w.heap[g]? → (h.v = .slice none 0 0 ∧ h.n = 0) ∨ ∃ g c o, h.v = .slice (some ⟨g, 0, none⟩) h.n c ∧ w'.heap[g]? = some o ∧ ∀ j, j < h.n → w'.cell? ⟨g, j, none⟩ = some (.int .u8 (mk h.q)) := fun hk =>
        Or.inr ⟨g, c, o, e, hk.trans hb, fun j hj => (World.cell?_of_block (a := ⟨g, j, none⟩) hk).trans (hc j hj)⟩
      by_cases hs : long.ownBlock = some g
      · rcases hl with hl | ⟨_, hl⟩
        · have hlg : long'.ownBlock = some g := hl.trans hs
          rcases ho'.2 with ⟨e1, _⟩ | ⟨g', cap, cur, e1, _, hg', _⟩
          · rw [e1] at hlg; cases hlg
          · rw [e1] at hlg
            injection hlg with hlg
            simp only at hlg
            subst hlg
            refine Or.inr ⟨g', c, _, e, hg', fun j hj => ?_⟩
            have := ho'.cells (g := g') (by rw [e1]; rfl) j (.int .u8 (mk h.q)) (by rw [List.getElem?_map, List.getElem?_replicate, if_pos (by omega)]; rfl)
            rwa [show (⟨g', 0, none⟩ : Addr).add j = ⟨g', 0 + j, none⟩ from Addr.add_lit g' 0 j, Nat.zero_add] at this
        · exact keep (hl.block g (blk_lt hb) (by simp))
      · exact keep (hg.block g (blk_lt hb) (fun e => hs e.symm))
  · rcases hk with hk | hk
    · exact Or.inl (Or.inl hk)
    · rcases hl with hl | ⟨hl, _⟩
      · exact Or.inl (Or.inr (by rw [← hl]; exact hk))
      · rw [hl] at hk; injection hk with hk; exact Or.inr (by omega)

theorem info_held : (Tryz.prog.info? 122).map (fun i => (i.zero, i.size, i.bytes)) = some (some (.agg #[.slice none 0 0, .slice none 0 0, .int .i64 0]), 3, 56) := by kernel_rfl
theorem mark_wrap {q : Int} (h : 0 ≤ q ∧ q ≤ 100000) : 1 + q % 250 = mk q ∧ IntKind.u8.wrap (1 + q % 250) = mk q := by rw [IntKind.wrap_u8]; unfold mk; omega
theorem mark_c (w : World) (q : Int) (h : 0 ≤ q ∧ q ≤ 100000) :
    Calls Tryz.prog 109 #[.int .i64 q] w fun e w' => e = .returned (.int .u8 (mk q)) ∧ w = w' := by
  obtain ⟨hw1, hw⟩ := mark_wrap h
  obtain ⟨h0, h1⟩ := h
  have hr := Int.emod_nonneg q (show (250 : Int) ≠ 0 by omega)
  have hr2 := Int.emod_lt_of_pos q (show (0 : Int) < 250 by omega)
  generalize mk q = m at *
  go_enter Tryz.func109, Tryz.ntmps109
  go_wp2
  go_ret
  exact ⟨rfl, rfl⟩
theorem ismark_c (w : World) (q : Int) (h : 0 ≤ q ∧ q ≤ 100000) :
    Calls Tryz.prog 117 #[.int .u8 (mk q), .int .i64 q] w fun e w' => e = .returned (.bool true) ∧ w = w' := by
  obtain ⟨hw1, hw⟩ := mark_wrap h
  obtain ⟨h0, h1⟩ := h
  have hr := Int.emod_nonneg q (show (250 : Int) ≠ 0 by omega)
  have hr2 := Int.emod_lt_of_pos q (show (0 : Int) < 250 by omega)
  generalize mk q = m at *
  go_enter Tryz.func117, Tryz.ntmps117
  go_wp2
  go_ret
  exact ⟨by simp, rfl⟩

abbrev Bkt (vo : Value) (kb : Nat) (n : Int) (vb : Value) : Thing := Blk kb (.cells (bk vo n vb) 69 (0, 0))
abbrev Rows_ (vb : Value) (xs : List Hr) : Thing := Own 122 3 vb xs.length (hc xs)
theorem bk_cells {w0 w : World} {r : List Thing} {vo : Value} {kb : Nat} {n : Int} {vb : Value} (h : Hp w0 w (Bkt vo kb n vb :: r)) : (∀ o, w.cell? ⟨kb, o, none⟩ = (bk vo n vb)[o]?) ∧ ∀ o, w.frozen? ⟨kb, o, none⟩ = false :=
  ⟨fun o => cell_blk (blk_get h) o, fun o => free_blk (blk_get h) o⟩
theorem rows_snoc {w0 w : World} {r : List Thing} {t : Thing} {v : Value} {xs : List Hr} {x : Hr} (h : Hp w0 w (t :: Own 122 3 v (xs.length + 1) (hc xs ++ [x.l.v, x.long, .int .i64 x.l.q]) :: r)) : Hp w0 w (t :: Rows_ v (xs ++ [x]) :: r) := by
  have e1 : (xs ++ [x]).length = xs.length + 1 := by simp
  have e2 : hc (xs ++ [x]) = hc xs ++ [x.l.v, x.long, .int .i64 x.l.q] := hc_app _ _
  unfold Rows_
  rw [e1, e2]
  exact h
set_option maxHeartbeats 4000000 in
set_option maxRecDepth 20000 in
theorem keepint_c {w0 w : World} {r : List Thing} {vo : Value} {kb : Nat} {n : Int} {vb : Value} {xs : List Hr} (av : Option Addr) (m cv : Nat) (H : Hp w0 w (Bkt vo kb n vb :: Rows_ vb xs :: r)) (hn : 0 ≤ n ∧ n < 100000) (hl : xs.length < 100000) :
    Calls Tryz.prog 49 #[.pointer (some ⟨kb, 0, none⟩), .slice av m cv] w fun e w' => e = .returned (.tuple #[]) ∧ ∃ vb', Hp w0 w' (Bkt vo kb (n + 1) vb' :: Rows_ vb' (xs ++ [⟨⟨.slice av m cv, m, n + 1⟩, .slice none 0 0⟩]) :: r) := by
  obtain ⟨i0, hi, hz0, hz1, hz2⟩ := info_parts info_held
  have hw : IntKind.i64.wrap (n + 1) = n + 1 := by rw [IntKind.wrap_i64]; omega
  obtain ⟨hk, hf⟩ := bk_cells H
  have h0 : w.cell? ⟨kb, 0, none⟩ = some (.int .i64 n) := hk 0
  have f0 := hf 0
  clear hk hf
  have HH := Lib.hid H
  clear H
  go_enter Tryz.func49, Tryz.ntmps49
  go_upto_region 1 with fail
  have H1 : Hp w0 (w.setCell ⟨kb, 0, none⟩ (.int .i64 (n + 1))) (Bkt vo kb (n + 1) vb :: Rows_ vb xs :: r) := blk_set HH.out 0 _
  clear h0 f0 HH
  generalize (w.setCell ⟨kb, 0, none⟩ (.int .i64 (n + 1))) = w1 at *
  obtain ⟨hk, hf⟩ := bk_cells H1
  have h0 : w1.cell? ⟨kb, 0, none⟩ = some (.int .i64 (n + 1)) := hk 0
  have h3 : w1.cell? ⟨kb, 1, none⟩ = some vb := hk 1
  have f3 := hf 1
  clear hk hf
  obtain ⟨a, c, rfl⟩ := own_slice H1.tail
  have hown := own_get H1.tail
  have h3a : (w1.alloc (.cells #[.slice av m cv, .slice none 0 0, .int .i64 (n + 1)] 122)).cell? ⟨kb, 1, none⟩ = some (.slice a xs.length c) := (bk_cells (H1.alloc _)).1 1
  have HH := Lib.hid H1
  clear H1
  go_wp2
  go_region_law ((refine step_append_lies _ (by rfl) _ _ _ (by rfl) 0 122 i0 _ 3 56 Tryz.underlying60 hi hz0 hz1 hz2 rfl (by omega) (.slice a xs.length c) xs.length (hc xs) (by rfl) (by first | exact hown.alloc _ | exact (hown.alloc _).drew | exact hown.drew.alloc _ | exact (hown.drew.alloc _).drew) ⟨w1.heap.size, 0, none⟩ 1 1 [.slice av m cv, .slice none 0 0, .int .i64 (n + 1)] (by rfl) (by rfl) (World.news_of_block (cs := #[.slice av m cv, .slice none 0 0, .int .i64 (n + 1)]) (t := 122) (fr := (0, 0)) (blk_alloc_new _ _)) (by simp [Value.oneCell']) (by omega) (by unfold maxLen; omega) (by omega) (by omega) _ rfl ?_; intro g cap w2 hown2 hgrow hat hlt; have HB := own_turn (by first | exact HH.out.up1.alloc _ | exact (HH.out.up1.alloc _).drew | exact HH.out.up1.drew.alloc _ | exact (HH.out.up1.drew.alloc _).drew) hgrow hown2 (hat.elim (fun h => Or.inl h.symm) (fun h => Or.inr (by rw [h]; rfl))); replace HB := HB.up1; have k3 : w2.cell? ⟨kb, 1, none⟩ = some (.slice a xs.length c) := (bk_cells HB).1 1; have f3' := (bk_cells HB).2 1; replace HB := Lib.hid HB; clear hown2 hgrow hat hlt))
  all_goals go_wp2
  all_goals refine bodyPost_end (results_none rfl _ _ _) rfl ⟨rfl, .slice (some ⟨g, 0, none⟩) (xs.length + 1) cap, ?_⟩
  all_goals exact rows_snoc (blk_set HB.out 1 _)

theorem ints_c {w0 w : World} {r : List Thing} {vo : Value} {kb : Nat} {n : Int} {vb : Value} {xs : List Hr} (av : Option Addr) (m cv : Nat) (H : Hp w0 w (Bkt vo kb n vb :: Rows_ vb xs :: r)) (hn : 0 ≤ n ∧ n < 100000) (hl : xs.length < 100000) :
    Calls Tryz.prog 27 #[.pointer (some ⟨kb, 0, none⟩), .slice av m cv] w fun e w' => e = .returned (.tuple #[]) ∧ ∃ vb', Hp w0 w' (Bkt vo kb (n + 1) vb' :: Rows_ vb' (xs ++ [⟨⟨.slice av m cv, m, n + 1⟩, .slice none 0 0⟩]) :: r) := by
  have HK := keepint_c av m cv H hn hl
  clear H
  go_enter Tryz.func27, Tryz.ntmps27
  go_wp2_with fail
  refine HK.mono ?_; rintro e w2 ⟨rfl, vb', H2⟩
  go_wp2
  exact bodyPost_end (results_none rfl _ _ _) rfl ⟨rfl, vb', H2⟩

theorem fillstep (m : Int) (zs : List Int) (k : Nat) (h : k < zs.length) : ((List.replicate k m ++ zs.drop k).map (Value.int .u8)).set k (.int .u8 m) = (List.replicate (k + 1) m ++ zs.drop (k + 1)).map (Value.int .u8) := by
  rw [← List.map_set]
  congr 1
  rw [List.set_append_right _ _ (by simp), List.length_replicate, Nat.sub_self, List.drop_eq_getElem_cons h]
  rw [List.set_cons_zero, List.replicate_succ']
  simp
set_option maxHeartbeats 4000000 in
set_option maxRecDepth 20000 in
theorem fill_c {w0 w : World} {r : List Thing} {vo : Value} {kb : Nat} {n : Int} {vb : Value} {xs : List Hl} (H : Hp w0 w (Bkt vo kb n vb :: Rows_ vb (xs.map (⟨·, .slice none 0 0⟩)) :: (xs.map Kp ++ r))) (hq : ∀ h ∈ xs, (0 ≤ h.q ∧ h.q ≤ 100000) ∧ h.n < 100000) (hl : xs.length < 100000) :
    Calls Tryz.prog 50 #[.pointer (some ⟨kb, 0, none⟩)] w fun e w' => e = .returned (.tuple #[]) ∧ Hp w0 w' (Bkt vo kb n vb :: Rows_ vb (xs.map (⟨·, .slice none 0 0⟩)) :: (xs.map Mk ++ r)) := by
  have HQ := Lib.hid hq
  clear hq
  obtain ⟨a, c, rfl⟩ := own_slice H.tail
  rw [List.length_map] at H ⊢
  have HH := Lib.hid H
  clear H
  go_enter Tryz.func50, Tryz.ntmps50
  go_upto_region 1 with fail
  go_loopw [2] (fun i wr => ∃ A B : List Hl, Hid (xs = A ++ B) ∧ i = .int .i64 A.length ∧ Hid (Hp w0 wr (Bkt vo kb n (.slice a xs.length c) :: Rows_ (.slice a xs.length c) (xs.map (⟨·, .slice none 0 0⟩)) :: (A.map Mk ++ B.map Kp ++ r)))) (fun i _ => xs.length - (intOf i).toNat)
  case atStart => exact ⟨[], xs, Lib.hid rfl, rfl, HH⟩
  case round =>
    obtain ⟨A, B, hx, rfl, hH⟩ := hrel
    obtain ⟨hk, hf⟩ := bk_cells hH.out
    have h3 : wr.cell? ⟨kb, 1, none⟩ = some (.slice a xs.length c) := hk 1
    clear hk hf
    cases B with
    | nil =>
      have e : xs = A := by have := hx.out; simpa using this
      subst e
      go_wp2
      exact bodyPost_end (results_none rfl _ _ _) rfl ⟨rfl, by have := hH.out; simpa using this⟩
    | cons h B =>
      have hlen : xs.length = A.length + (B.length + 1) := by rw [hx.out]; simp
      have c1 : (A.length : Int) < (xs.length : Int) := by omega
      have H1 := Hp.perm hH.out perm_in
      obtain ⟨zs, hz, H2⟩ := ownx_get H1
      obtain ⟨ah, ch, hv⟩ := own_slice H2
      have hcs : ∀ o, o < 3 → (hc (xs.map (⟨·, .slice none 0 0⟩)))[A.length * 3 + o]? = (hrc ⟨h, .slice none 0 0⟩)[o]? := fun o ho => by
        rw [hx.out, List.map_append]
        exact hc_at _ _ _ _ (by simp) o ho
      obtain ⟨g, cap, e1, k0⟩ := own_cell H2.tail.tail _ _ (hcs 0 (by omega))
      obtain ⟨g', cap', e2, k1⟩ := own_cell H2.tail.tail _ _ (hcs 1 (by omega))
      obtain ⟨rfl, -, rfl⟩ := Value.slice.inj e1
      obtain ⟨e2, -, -⟩ := Value.slice.inj e2
      cases e2
      obtain ⟨g', cap', e2, k2⟩ := own_cell H2.tail.tail _ _ (hcs 2 (by omega))
      obtain ⟨e2, -, -⟩ := Value.slice.inj e2
      cases e2
      clear hcs
      rw [hv] at k0
      have HH2 := Lib.hid H2
      have HZ := Lib.hid hz
      have HX := Lib.hid hx.out
      have HV := Lib.hid hv
      have hqn := HQ.out h (by rw [hx.out]; simp)
      have HQN := Lib.hid hqn
      simp only [Nat.add_zero] at k0
      have hlt0 : (0 : Int) ≤ (A.length : Int) := Int.natCast_nonneg _
      clear H1 H2 hx hH hlen hz hqn
      go_upto_region 5 with fail
      have H3 := blk_new HH2.out (.cells #[.slice ah zs.length ch, .slice none 0 0, .int .i64 h.q] 122)
      rw [hv] at H3
      clear k0 k1 k2 h3 HH2 hv c1 hlt0
      generalize (wr.alloc (.cells #[.slice ah zs.length ch, .slice none 0 0, .int .i64 h.q] 122)) = w2 at *
      generalize wr.heap.size = hb at *
      have H3' : Hid (Hp w0 w2 (Blk hb (.cells #[.slice ah zs.length ch, .slice none 0 0, .int .i64 h.q] 122 (0, 0)) :: Own 5 1 (.slice ah zs.length ch) zs.length ((List.replicate 0 (mk h.q) ++ zs.drop 0).map (Value.int .u8)) :: Bkt vo kb n (.slice (some ⟨g, 0, none⟩) xs.length c) :: Rows_ (.slice (some ⟨g, 0, none⟩) xs.length c) (xs.map (⟨·, .slice none 0 0⟩)) :: (A.map Mk ++ B.map Kp ++ r))) := Lib.hid (by simpa using H3)
      clear H3
      go_loopw [4] (fun j wx => ∃ k : Nat, k ≤ zs.length ∧ j = .int .i64 k ∧ Hid (Hp w0 wx (Blk hb (.cells #[.slice ah zs.length ch, .slice none 0 0, .int .i64 h.q] 122 (0, 0)) :: Own 5 1 (.slice ah zs.length ch) zs.length ((List.replicate k (mk h.q) ++ zs.drop k).map (Value.int .u8)) :: Bkt vo kb n (.slice (some ⟨g, 0, none⟩) xs.length c) :: Rows_ (.slice (some ⟨g, 0, none⟩) xs.length c) (xs.map (⟨·, .slice none 0 0⟩)) :: (A.map Mk ++ B.map Kp ++ r)))) (fun j _ => zs.length - (intOf j).toNat)
      case atStart => exact ⟨0, Nat.zero_le _, rfl, H3'⟩
      case round =>
        obtain ⟨k, hk, rfl, hH⟩ := hrel
        have b0 : wr.cell? ⟨hb, 0, none⟩ = some (.slice ah zs.length ch) := cell_blk (blk_get hH.out) 0
        have b2 : wr.cell? ⟨hb, 2, none⟩ = some (.int .i64 h.q) := cell_blk (blk_get hH.out) 2
        by_cases hlt : k < zs.length
        · have c1 : (k : Int) < (zs.length : Int) := by omega
          obtain ⟨x, hx⟩ : ∃ x, ((List.replicate k (mk h.q) ++ zs.drop k).map (Value.int .u8))[k]? = some x := by
            rw [List.getElem?_eq_getElem (by simp; omega)]; exact ⟨_, rfl⟩
          obtain ⟨g2, cap, e1, kx⟩ := own_cell hH.out.tail k x hx
          obtain ⟨rfl, -, rfl⟩ := Value.slice.inj e1
          have kf := (own_get hH.out.tail).frozenAt k
          have hmk : ((List.replicate k (mk h.q) ++ zs.drop k).map (Value.int .u8)).set k (.int .u8 (mk h.q)) = (List.replicate (k + 1) (mk h.q) ++ zs.drop (k + 1)).map (Value.int .u8) := fillstep (mk h.q) zs k hlt
          have HM := Lib.hid hmk
          have MC := Lib.hid (fun w => mark_c w h.q HQN.out.1)
          have hk0 : (0 : Int) ≤ (k : Int) := Int.natCast_nonneg _
          have hwz : IntKind.i64.wrap ((k : Int) + 1) = (k : Int) + 1 := by rw [IntKind.wrap_i64]; have := HQN.out.2; have := HZ.out; omega
          generalize mk h.q = mq at *
          clear hx e1 hmk
          have HR : Hid (∀ (wz : World), Tch Nil wr wz → Hp w0 (wz.setCell ⟨g2, k, none⟩ (.int .u8 mq)) _) := Lib.hid fun wz ht => by have := own_set (hH.out.read ht).up1 k (.int .u8 mq) (by omega); rw [HM.out] at this; exact this.up1
          go_wp2
          go_region_with (go_at_call 109; refine (MC.out _).mono ?_; rintro e wz ⟨rfl, rfl⟩)
          all_goals
            (go_wp2
             go_roundw
             case rel => exact ⟨k + 1, by omega, by go_num, Lib.hid (by first | exact HR.out _ (Tch.refl _ _) | exact (HR.out _ (Tch.refl _ _)).drew)⟩
             case measure => simp [intOf]; omega)
        · have hke : k = zs.length := by omega
          have hlen : xs.length = A.length + (B.length + 1) := by rw [HX.out]; simp
          have hwz : IntKind.i64.wrap ((A.length : Int) + 1) = (A.length : Int) + 1 := by rw [IntKind.wrap_i64]; omega
          have HE : Hid (∀ wz, Tch Nil wr wz → Hp w0 wz (Bkt vo kb n (.slice (some ⟨g, 0, none⟩) xs.length c) :: Rows_ (.slice (some ⟨g, 0, none⟩) xs.length c) (xs.map (⟨·, .slice none 0 0⟩)) :: ((A ++ [h]).map Mk ++ B.map Kp ++ r))) := Lib.hid fun wz ht => by
            have h1 := (hH.out.read ht).tail
            rw [hke, List.drop_length, List.append_nil] at h1
            have h2 : Hp w0 wz (Mk h :: Bkt vo kb n (.slice (some ⟨g, 0, none⟩) xs.length c) :: Rows_ (.slice (some ⟨g, 0, none⟩) xs.length c) (xs.map (⟨·, .slice none 0 0⟩)) :: (A.map Mk ++ B.map Kp ++ r)) := by
              unfold Mk OwnI
              rw [HV.out, ← HZ.out, List.length_replicate]
              exact h1
            have h3 := h2.perm perm_in.symm
            simpa using h3
          clear hlen
          subst hke
          have c1 : ¬ (zs.length : Int) < (zs.length : Int) := by omega
          go_wp2
          go_roundw
          case rel => exact ⟨A ++ [h], B, Lib.hid (by rw [HX.out]; simp), by rw [List.length_append, List.length_singleton]; go_num, Lib.hid (by first | exact HE.out _ (Tch.refl _ _) | exact (HE.out _ (Tch.refl _ _)).drew)⟩
          case measure => have := HX.out; simp [intOf]; have h2 := congrArg List.length this; simp at h2; omega
/-- Grown by 40. -/
abbrev Gx (x : Hr) : Thing := Gp x.l x.long (x.l.n + 40)
theorem gp_slice {w0 w : World} {h : Hl} {long : Value} {m : Nat} {r : List Thing} (H : Hp w0 w (Gp h long m :: r)) : ∃ a c, long = .slice a m c := by
  rcases (gp_own H).2 with ⟨e, e2⟩ | ⟨g, cap, cur, e, _⟩
  · exact ⟨none, 0, by rw [e, e2]⟩
  · exact ⟨_, _, e⟩
theorem gp_hv {w0 w : World} {h : Hl} {long : Value} {m : Nat} {r : List Thing} (H : Hp w0 w (Gp h long m :: r)) : ∃ a c, h.v = .slice a h.n c := by
  rcases gp_cells H with ⟨e, e2⟩ | ⟨g, c, e, _⟩
  · exact ⟨none, 0, by rw [e, e2]⟩
  · exact ⟨_, _, e⟩
set_option maxHeartbeats 4000000 in
set_option maxRecDepth 20000 in
theorem grow_c {w0 w : World} {r : List Thing} {vo : Value} {kb : Nat} {n : Int} {vb : Value} {xs : List Hl} (H : Hp w0 w (Bkt vo kb n vb :: Rows_ vb (xs.map nil_) :: (xs.map Mk ++ r))) (hq : ∀ h ∈ xs, (0 ≤ h.q ∧ h.q ≤ 100000) ∧ h.n < 100000) (hl : xs.length < 100000) :
    Calls Tryz.prog 58 #[.pointer (some ⟨kb, 0, none⟩)] w fun e w' => e = .returned (.tuple #[]) ∧ ∃ ys : List Hr, ys.map (·.l) = xs ∧ Hp w0 w' (Bkt vo kb n vb :: Rows_ vb ys :: (ys.map Gx ++ r)) := by
  obtain ⟨i0, hi, hz0, hz1, hz2⟩ := info_parts info_byte
  have HQ := Lib.hid hq
  clear hq
  obtain ⟨a, c, rfl⟩ := own_slice H.tail
  rw [List.length_map] at H ⊢
  have HH := Lib.hid H
  clear H
  go_enter Tryz.func58, Tryz.ntmps58
  go_upto_region 1 with fail
  go_loopw [2] (fun i wr => ∃ (A : List Hr) (B : List Hl), Hid (xs = A.map (·.l) ++ B) ∧ i = .int .i64 A.length ∧ Hid (Hp w0 wr (Bkt vo kb n (.slice a xs.length c) :: Rows_ (.slice a xs.length c) (A ++ B.map nil_) :: (A.map Gx ++ B.map Mk ++ r)))) (fun i _ => xs.length - (intOf i).toNat)
  case atStart => exact ⟨[], xs, Lib.hid rfl, rfl, HH⟩
  case round =>
    obtain ⟨A, B, hx, rfl, hH⟩ := hrel
    obtain ⟨hk, hf⟩ := bk_cells hH.out
    have h3 : wr.cell? ⟨kb, 1, none⟩ = some (.slice a xs.length c) := hk 1
    clear hk hf
    cases B with
    | nil =>
      have e : A.map (·.l) = xs := by have := hx.out; simpa using this.symm
      have e2 : A.length = xs.length := by rw [← e, List.length_map]
      have E := Lib.hid e
      have E2 := Lib.hid e2
      have c1 : ¬ (A.length : Int) < (xs.length : Int) := by omega
      clear e e2
      go_wp2
      exact bodyPost_end (results_none rfl _ _ _) rfl ⟨rfl, A, E.out, by have := hH.out; simpa using this⟩
    | cons h B =>
      have hlen : xs.length = A.length + (B.length + 1) := by rw [hx.out]; simp
      have c1 : (A.length : Int) < (xs.length : Int) := by omega
      have H1 := Hp.perm hH.out perm_in
      have H2 := gp_of H1
      obtain ⟨ah, ch, hv⟩ := gp_slice H2
      have hcs : ∀ o, o < 3 → (hc (A ++ (h :: B).map nil_))[A.length * 3 + o]? = (hrc (nil_ h))[o]? := fun o ho => hc_at _ _ _ _ rfl o ho
      obtain ⟨g, cap, e1, k0⟩ := own_cell H2.tail.tail _ _ (hcs 0 (by omega))
      obtain ⟨g', cap', e2, k1⟩ := own_cell H2.tail.tail _ _ (hcs 1 (by omega))
      obtain ⟨rfl, -, rfl⟩ := Value.slice.inj e1
      obtain ⟨e2, -, -⟩ := Value.slice.inj e2
      cases e2
      obtain ⟨g', cap', e2, k2⟩ := own_cell H2.tail.tail _ _ (hcs 2 (by omega))
      obtain ⟨e2, -, -⟩ := Value.slice.inj e2
      cases e2
      clear hcs e1
      rw [hv] at k0 H2
      have HH2 := Lib.hid H2
      have HX := Lib.hid hx.out
      have HV := Lib.hid hv
      have hqn := HQ.out h (by rw [hx.out]; simp)
      have HQN := Lib.hid hqn
      simp only [Nat.add_zero] at k0
      have hlt0 : (0 : Int) ≤ (A.length : Int) := Int.natCast_nonneg _
      clear H1 H2 hx hH hlen hqn
      go_upto_region 6 with fail
      have H3 := (blk_new HH2.out (.cells #[.slice ah h.n ch, .slice none 0 0, .int .i64 h.q] 122)).up1
      clear k0 k1 k2 h3 HH2 hv c1 hlt0
      generalize (wr.alloc (.cells #[.slice ah h.n ch, .slice none 0 0, .int .i64 h.q] 122)) = w2 at *
      generalize wr.heap.size = hb at *
      have H3' := Lib.hid H3
      clear H3
      go_loopw [4, 5] (fun lv j wx => ∃ (k : Nat) (al : Option Addr) (cl : Nat), k ≤ 40 ∧ lv = .slice al (h.n + k) cl ∧ j = .int .i64 k ∧ Hid (Hp w0 wx (Gp h (.slice al (h.n + k) cl) (h.n + k) :: Blk hb (.cells #[.slice ah h.n ch, .slice none 0 0, .int .i64 h.q] 122 (0, 0)) :: Bkt vo kb n (.slice (some ⟨g, 0, none⟩) xs.length c) :: Rows_ (.slice (some ⟨g, 0, none⟩) xs.length c) (A ++ (h :: B).map nil_) :: (A.map Gx ++ B.map Mk ++ r)))) (fun _ j _ => 40 - (intOf j).toNat)
      case atStart => exact ⟨0, ah, ch, by omega, rfl, rfl, H3'⟩
      case round =>
        obtain ⟨k, al, cl, hk, rfl, rfl, hH⟩ := hrel
        have b2 : wr.cell? ⟨hb, 2, none⟩ = some (.int .i64 h.q) := cell_blk (blk_get hH.out.up1) 2
        by_cases hlt : k < 40
        · have c1 : (k : Int) < 40 := by omega
          have hwz : IntKind.i64.wrap ((k : Int) + 1) = (k : Int) + 1 := by rw [IntKind.wrap_i64]; omega
          have MC := Lib.hid (fun w => mark_c w h.q HQN.out.1)
          have hn1 := HQN.out.2
          have HT := Lib.hid (fun (wa w' : World) (long' : Value) (ha : Hp w0 wa (Gp h (.slice al (h.n + k) cl) (h.n + k) :: Blk hb (.cells #[.slice ah h.n ch, .slice none 0 0, .int .i64 h.q] 122 (0, 0)) :: Bkt vo kb n (.slice (some ⟨g, 0, none⟩) xs.length c) :: Rows_ (.slice (some ⟨g, 0, none⟩) xs.length c) (A ++ (h :: B).map nil_) :: (A.map Gx ++ B.map Mk ++ r))) => gp_turn (w' := w') (long' := long') ha (Nat.le_add_right _ _))
          have hown := gp_own hH.out
          generalize mk h.q = mq at *
          generalize (List.replicate (h.n + k) mq).map (Value.int .u8) = cs at *
          go_wp2_with fail
          refine (MC.out _).mono ?_; rintro e wz ⟨rfl, rfl⟩
          go_wp2_with (at_builtin; refine wpList_append_keep _ rfl _ _ 22 rfl 0 5 i0 (.int .u8 0) 1 1 Tryz.underlying22 hi hz0 hz1 hz2 rfl (by decide) (.slice al (h.n + k) cl) (h.n + k) cs rfl (hown.alloc _) ⟨wr.heap.size, 0, none⟩ 1 1 [.int .u8 mq] rfl rfl (cell_one_new _ _ _) (by intro u hu; simp at hu; subst hu; rfl) (by unfold maxLen; omega) (by omega) (Nat.zero_le _) ?_; intro v' w' hown' hgrow hkeep; have HN := HT.out _ w' v' (hH.out.alloc _) hgrow hown' hkeep; obtain ⟨a', c', rfl⟩ := own_shape hown'; replace HN := Lib.hid HN; clear hown' hgrow hkeep)
          go_roundw
          case rel => exact ⟨k + 1, a', c', by omega, by rw [Nat.add_assoc], by go_num, HN⟩
          case measure => simp [intOf]; omega
        · have hke : k = 40 := by omega
          subst hke
          have hlen : xs.length = A.length + (B.length + 1) := by have := congrArg List.length HX.out; simpa using this
          have hwz : IntKind.i64.wrap ((A.length : Int) + 1) = (A.length : Int) + 1 := by rw [IntKind.wrap_i64]; omega
          obtain ⟨hk3, hf3⟩ := bk_cells hH.out.tail.tail
          have h3 : wr.cell? ⟨kb, 1, none⟩ = some (.slice (some ⟨g, 0, none⟩) xs.length c) := hk3 1
          have eR : ∀ x : Hr, Rows_ (.slice (some ⟨g, 0, none⟩) xs.length c) (A ++ x :: B.map nil_) = Own 122 3 (.slice (some ⟨g, 0, none⟩) xs.length c) xs.length (hc (A ++ x :: B.map nil_)) := fun x => by
            unfold Rows_; rw [show (A ++ x :: B.map nil_).length = xs.length by simp; omega]
          have hR : Hp w0 wr (Own 122 3 (.slice (some ⟨g, 0, none⟩) xs.length c) xs.length (hc (A ++ nil_ h :: B.map nil_)) :: Gp h (.slice al (h.n + 40) cl) (h.n + 40) :: Blk hb (.cells #[.slice ah h.n ch, .slice none 0 0, .int .i64 h.q] 122 (0, 0)) :: Bkt vo kb n (.slice (some ⟨g, 0, none⟩) xs.length c) :: (A.map Gx ++ B.map Mk ++ r)) := by
            rw [← eR]; exact hH.out.pull 3 rfl
          obtain ⟨g', cap', e2, k1⟩ := own_cell hR (A.length * 3 + 1) (.slice none 0 0) (hc_at A (B.map nil_) (nil_ h) A.length rfl 1 (by omega))
          obtain ⟨e2, -, -⟩ := Value.slice.inj e2
          cases e2
          have kf := (own_get hR).frozenAt (A.length * 3 + 1)
          have HE : Hid (Hp w0 (wr.setCell ⟨g, A.length * 3 + 1, none⟩ (.slice al (h.n + 40) cl)) (Bkt vo kb n (.slice (some ⟨g, 0, none⟩) xs.length c) :: Rows_ (.slice (some ⟨g, 0, none⟩) xs.length c) ((A ++ [⟨h, .slice al (h.n + 40) cl⟩]) ++ B.map nil_) :: ((A ++ [(⟨h, .slice al (h.n + 40) cl⟩ : Hr)]).map Gx ++ B.map Mk ++ r))) := Lib.hid (by
            have h1 := own_set hR (A.length * 3 + 1) (.slice al (h.n + 40) cl) (by omega)
            rw [hc_set _ _ _ _ rfl, ← eR] at h1
            have h2 := ((h1.pull 2 rfl).tail.pull 2 rfl).pull 2 rfl
            have h4 := Hp.perm h2 perm_in.symm
            simpa using h4)
          have c1 : (A.length : Int) < (xs.length : Int) := by omega
          have hlt0 : (0 : Int) ≤ (A.length : Int) := Int.natCast_nonneg _
          clear hlen hk3 hf3 hR eR hH b2
          go_wp2
          go_roundw
          case rel => exact ⟨A ++ [⟨h, .slice al (h.n + 40) cl⟩], B, Lib.hid (by rw [HX.out]; simp), by rw [List.length_append, List.length_singleton]; go_num, Lib.hid (by first | exact HE.out | exact HE.out.drew)⟩
          case measure => have := HX.out; simp [intOf]; have h2 := congrArg List.length this; simp at h2; omega
theorem gp_long {w0 w : World} {h : Hl} {al : Option Addr} {m c : Nat} {r : List Thing} (H : Hp w0 w (Gp h (.slice al m c) m :: r)) (k : Nat) (hk : k < m) : ∃ g, al = some ⟨g, 0, none⟩ ∧ w.cell? ⟨g, k, none⟩ = some (.int .u8 (mk h.q)) := by
  have ho := gp_own H
  rcases ho.2 with ⟨e, e2⟩ | ⟨g, cap, cur, e, _⟩
  · omega
  · obtain ⟨e1, -, -⟩ := Value.slice.inj e
    subst e1
    refine ⟨g, rfl, ?_⟩
    have := ho.cells (g := g) rfl k (.int .u8 (mk h.q)) (by rw [List.getElem?_map, List.getElem?_replicate, if_pos hk]; rfl)
    rwa [show (⟨g, 0, none⟩ : Addr).add k = ⟨g, 0 + k, none⟩ from Addr.add_lit g 0 k, Nat.zero_add] at this
theorem gp_short {w0 w : World} {h : Hl} {long : Value} {ah : Option Addr} {m c : Nat} {r : List Thing} (H : Hp w0 w (Gp h long m :: r)) (hv : h.v = .slice ah h.n c) (k : Nat) (hk : k < h.n) : ∃ g, ah = some ⟨g, 0, none⟩ ∧ w.cell? ⟨g, k, none⟩ = some (.int .u8 (mk h.q)) := by
  rcases gp_cells H with ⟨_, e⟩ | ⟨g, c', e, h2⟩
  · omega
  · rw [hv] at e
    obtain ⟨e1, -, -⟩ := Value.slice.inj e
    exact ⟨g, e1, h2 k hk⟩

set_option maxHeartbeats 4000000 in
set_option maxRecDepth 20000 in
theorem look_c {w0 w : World} {r : List Thing} {vo : Value} {kb : Nat} {n : Int} {vb : Value} {ys : List Hr} (H : Hp w0 w (Bkt vo kb n vb :: Rows_ vb ys :: (ys.map Gx ++ r))) (hq : ∀ x ∈ ys, (0 ≤ x.l.q ∧ x.l.q ≤ 100000) ∧ x.l.n < 100000) (hl : ys.length < 100000) :
    Calls Tryz.prog 66 #[.pointer (some ⟨kb, 0, none⟩)] w fun e w' => e = .returned (.bool true) ∧ Hp w0 w' (Bkt vo kb n vb :: Rows_ vb ys :: (ys.map Gx ++ r)) := by
  have HQ := Lib.hid hq
  clear hq
  obtain ⟨a, c, rfl⟩ := own_slice H.tail
  have HH := Lib.hid H
  clear H
  go_enter Tryz.func66, Tryz.ntmps66
  go_upto_region 2 with fail
  go_loopw [3] (fun i wr => ∃ A B : List Hr, Hid (ys = A ++ B) ∧ i = .int .i64 A.length ∧ Hid (Hp w0 wr (Bkt vo kb n (.slice a ys.length c) :: Rows_ (.slice a ys.length c) ys :: (ys.map Gx ++ r)))) (fun i _ => ys.length - (intOf i).toNat)
  case atStart => exact ⟨[], ys, Lib.hid rfl, rfl, HH⟩
  case round =>
    obtain ⟨A, B, hx, rfl, hH⟩ := hrel
    obtain ⟨hk, hf⟩ := bk_cells hH.out
    have h3 : wr.cell? ⟨kb, 1, none⟩ = some (.slice a ys.length c) := hk 1
    clear hk hf
    cases B with
    | nil =>
      have e2 : A.length = ys.length := by have := congrArg List.length hx.out; simpa using this.symm
      have c1 : ¬ (A.length : Int) < (ys.length : Int) := by omega
      clear e2
      go_wp2
      go_ret
      exact ⟨rfl, hH.out⟩
    | cons x B =>
      have hlen : ys.length = A.length + (B.length + 1) := by rw [hx.out]; simp
      have c1 : (A.length : Int) < (ys.length : Int) := by omega
      have H2 : Hp w0 wr (Gx x :: Bkt vo kb n (.slice a ys.length c) :: Rows_ (.slice a ys.length c) ys :: (A.map Gx ++ B.map Gx ++ r)) := by
        have h1 := hH.out
        have e : ys.map Gx = A.map Gx ++ Gx x :: B.map Gx := by rw [hx.out]; simp
        rw [e] at h1
        exact h1.perm perm_in
      obtain ⟨al, cl, hlv⟩ := gp_slice H2
      obtain ⟨ah, ch, hv⟩ := gp_hv H2
      have hcs : ∀ o, o < 3 → (hc ys)[A.length * 3 + o]? = (hrc x)[o]? := fun o ho => by
        rw [hx.out]; exact hc_at _ _ _ _ rfl o ho
      obtain ⟨g, cap, e1, k0⟩ := own_cell H2.tail.tail _ _ (hcs 0 (by omega))
      obtain ⟨g', cap', e2, k1⟩ := own_cell H2.tail.tail _ _ (hcs 1 (by omega))
      obtain ⟨rfl, -, rfl⟩ := Value.slice.inj e1
      obtain ⟨e2, -, -⟩ := Value.slice.inj e2
      cases e2
      obtain ⟨g', cap', e2, k2⟩ := own_cell H2.tail.tail _ _ (hcs 2 (by omega))
      obtain ⟨e2, -, -⟩ := Value.slice.inj e2
      cases e2
      clear hcs e1
      rw [hv] at k0
      rw [hlv] at k1
      have hqn := HQ.out x (by rw [hx.out]; simp)
      have HQN := Lib.hid hqn
      have HX := Lib.hid hx.out
      have hn1 := hqn.2
      simp only [Nat.add_zero] at k0
      have hlt0 : (0 : Int) ≤ (A.length : Int) := Int.natCast_nonneg _
      have HH2 : Hid (Hp w0 wr (Gp x.l (.slice al (x.l.n + 40) cl) (x.l.n + 40) :: Bkt vo kb n (.slice (some ⟨g, 0, none⟩) ys.length c) :: Rows_ (.slice (some ⟨g, 0, none⟩) ys.length c) ys :: (A.map Gx ++ B.map Gx ++ r))) := Lib.hid (by have h1 := H2; unfold Gx at h1; rw [hlv] at h1; exact h1)
      have HV := Lib.hid hv
      have HLV := Lib.hid hlv
      have hw4 : IntKind.i64.wrap ((x.l.n : Int) + 40) = ((x.l.n + 40 : Nat) : Int) := by rw [IntKind.wrap_i64]; omega
      clear H2 hx hH hlen hqn hv hlv
      obtain ⟨m, hm⟩ : ∃ m, m = x.l.n + 40 := ⟨_, rfl⟩
      rw [← hm] at hw4 k1 HH2
      have HM := Lib.hid hm
      clear hm
      go_upto_region 8 with fail
      have H3 := Lib.hid (blk_new HH2.out (.cells #[.slice ah x.l.n ch, .slice al m cl, .int .i64 x.l.q] 122))
      clear k0 k1 k2 h3 HH2 c1 hlt0 hw4
      generalize (wr.alloc (.cells #[.slice ah x.l.n ch, .slice al m cl, .int .i64 x.l.q] 122)) = w2 at *
      generalize wr.heap.size = hb at *
      go_loopw [5] (fun j wx => ∃ k : Nat, k ≤ m ∧ j = .int .i64 k ∧ Hid (Hp w0 wx (Blk hb (.cells #[.slice ah x.l.n ch, .slice al m cl, .int .i64 x.l.q] 122 (0, 0)) :: Gp x.l (.slice al m cl) m :: Bkt vo kb n (.slice (some ⟨g, 0, none⟩) ys.length c) :: Rows_ (.slice (some ⟨g, 0, none⟩) ys.length c) ys :: (A.map Gx ++ B.map Gx ++ r)))) (fun j _ => m - (intOf j).toNat)
      case atStart => exact ⟨0, Nat.zero_le _, rfl, H3⟩
      case round =>
        obtain ⟨k, hk, rfl, hH⟩ := hrel
        have b0 : wr.cell? ⟨hb, 0, none⟩ = some (.slice ah x.l.n ch) := cell_blk (blk_get hH.out) 0
        have b1 : wr.cell? ⟨hb, 1, none⟩ = some (.slice al m cl) := cell_blk (blk_get hH.out) 1
        have b2 : wr.cell? ⟨hb, 2, none⟩ = some (.int .i64 x.l.q) := cell_blk (blk_get hH.out) 2
        by_cases hlt : k < m
        · have c1 : (k : Int) < (m : Int) := by omega
          have hk0 : (0 : Int) ≤ (k : Int) := Int.natCast_nonneg _
          have hwz : IntKind.i64.wrap ((k : Int) + 1) = (k : Int) + 1 := by rw [IntKind.wrap_i64]; have := HM.out; omega
          have MC := Lib.hid (fun w => (ismark_c w x.l.q HQN.out.1).mono fun _ _ h => (⟨h.1, h.2.symm⟩ : _ ∧ _))
          obtain ⟨gl, rfl, kl⟩ := gp_long hH.out.up1 k hlt
          by_cases hs : k < x.l.n
          · obtain ⟨gs, rfl, ks⟩ := gp_short hH.out.up1 HV.out k hs
            have c2 : decide ((k : Int) < (x.l.n : Int)) = true := by simpa using hs
            have c3 : (k : Int) < (x.l.n : Int) := by omega
            generalize mk x.l.q = mq at *
            go_wp2
            go_quiet ((go_at_call 117; exact Calls.quiet_of_same (MC.out _)))
            go_wp2
            go_roundw
            case rel => exact ⟨k + 1, by omega, by go_num, Lib.hid (hH.out.drewN _)⟩
            case measure => simp [intOf]; omega
          · have c2 : decide ((k : Int) < (x.l.n : Int)) = false := by simpa using hs
            generalize mk x.l.q = mq at *
            go_wp2
            go_quiet ((go_at_call 117; exact Calls.quiet_of_same (MC.out _)))
            go_wp2
            go_roundw
            case rel => exact ⟨k + 1, by omega, by go_num, Lib.hid (hH.out.drewN _)⟩
            case measure => simp [intOf]; omega
        · have hke : k = m := by omega
          subst hke
          have hlen : ys.length = A.length + (B.length + 1) := by rw [HX.out]; simp
          have hwz : IntKind.i64.wrap ((A.length : Int) + 1) = (A.length : Int) + 1 := by rw [IntKind.wrap_i64]; omega
          have HE : Hid (Hp w0 wr (Bkt vo kb n (.slice (some ⟨g, 0, none⟩) ys.length c) :: Rows_ (.slice (some ⟨g, 0, none⟩) ys.length c) ys :: (ys.map Gx ++ r))) := Lib.hid (by
            have h1 : Hp w0 wr (Gx x :: Bkt vo kb n (.slice (some ⟨g, 0, none⟩) ys.length c) :: Rows_ (.slice (some ⟨g, 0, none⟩) ys.length c) ys :: (A.map Gx ++ B.map Gx ++ r)) := by
              unfold Gx; rw [HLV.out, ← HM.out]; exact hH.out.tail
            have e : ys.map Gx = A.map Gx ++ Gx x :: B.map Gx := by rw [HX.out]; simp
            rw [e]
            exact h1.perm perm_in.symm)
          have c1 : ¬ (k : Int) < (k : Int) := by omega
          clear hlen hH b0 b2
          go_wp2
          go_roundw
          case rel => exact ⟨A ++ [x], B, Lib.hid (by rw [HX.out]; simp), by rw [List.length_append, List.length_singleton]; go_num, Lib.hid (by first | exact HE.out | exact HE.out.drew)⟩
          case measure => have := HX.out; simp [intOf]; have h2 := congrArg List.length this; simp at h2; omega
end BkB
end Go.Proofs.YtijkkompnfpdeaaGreatDoor
