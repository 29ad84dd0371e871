/- The book's lists of instructions. -/
import Derived.Test.YtijkkompnfpdeaaGreatDoorP23
import Derived.Test.YtijkkompnfpdeaaGreatDoorP22
set_option linter.unusedVariables false
set_option linter.unusedSimpArgs false
namespace Go.Proofs.YtijkkompnfpdeaaGreatDoor
open Go.RowKit Go.Shelf
attribute [local go_sem] Oper.semAt_some
namespace BkI
theorem info_ins4 : (Tryz.prog.info? 26).map (fun i => (i.zero, i.size, i.bytes)) = some (some (.agg #[.int .u8 0, .int .u8 0, .int .u8 0, .int .u8 0]), 4, 4) := by kernel_rfl
/-- The book's own cells. -/
def bk (vo : Value) (n : Int) (vb : Value) : Array Value := #[.int .i64 n, vo, .slice none 0 0, .slice none 0 0, .slice none 0 0, vb, .slice none 0 0, .slice none 0 0, .slice none 0 0]
theorem info_held : (Tryz.prog.info? 136).map (fun i => (i.zero, i.size, i.bytes)) = some (some (.agg #[.slice none 0 0, .slice none 0 0, .int .i64 0]), 3, 56) := by kernel_rfl
theorem wpAnyS_skip {P : Program} {ops : Array Oper} {Q : Exit → Act → World → Prop} {md : Region.Mode} {S : World → Prop} {s : Nat} {i : Nat} {fuel : Nat} {listed : Array Bool} {a : Act} {w : World}
    (hsel : Region.noSelect ops = true) (hsk : Region.sinkB md ops s = true) (hch : Region.chainB md ops s = true) (hs : decide (s < ops.size) = true) (his : decide (i < s) = true) (hh : headB md ops s listed = true) (hf : Region.free md ops listed i = true) (hr : (Region.ready md ops listed).contains i = true)
    (hQ : ∀ (c : _) (a : Act) (d : Option Tmp) (v : Value) (w : World), Q (.panic c) (a.put d v) w → Q (.panic c) a w) (hS : S w)
    (h : ∀ oi, ops[i]? = some oi → Region.wanted oi (yielded ops a.tmps) = false ∧ wpAnyS P md ops Q S s fuel (listed.setIfInBounds i true) (a.put oi.dst undef) w) : wpAnyS P md ops Q S s (fuel + 1) listed a w := by
  have hs' := of_decide_eq_true hs
  have his' := of_decide_eq_true his
  obtain ⟨oi, hi⟩ : ∃ oi, ops[i]? = some oi := ⟨_, Array.getElem?_eq_getElem (by omega)⟩
  obtain ⟨hw, h⟩ := h oi hi
  exact wpAnyS_first hi (Region.noSelect_spec hsel) (fun c a w => hQ c a _ _ w) hsk hch hs' his' fuel listed a w (headB_spec hh) (Region.free_spec hi hf) (by simpa using hr) (Or.inr ⟨hw, rfl⟩) hS h
/-- Its mark. -/
def mk (q : Int) : I4 := (255, UInt8.ofNat q.toNat, 0, 0)
theorem mk_c (q : Int) (h : 0 ≤ q ∧ q ≤ 200) : i4c (mk q) = [.int .u8 255, .int .u8 q, .int .u8 0, .int .u8 0] := by
  have : (UInt8.ofNat q.toNat).toNat = q.toNat := by simp; omega
  unfold i4c mk bv
  simp only [this]
  rw [show ((q.toNat : Nat) : Int) = q by omega]
  rfl
theorem ics_set : ∀ (l : List I4) (k : Nat) (x : I4), k < l.length → ((((ics l).set (k * 4) (bv x.1)).set (k * 4 + 1) (bv x.2.1)).set (k * 4 + 2) (bv x.2.2.1)).set (k * 4 + 3) (bv x.2.2.2) = ics (l.set k x)
  | [], k, x, h => by simp at h
  | y :: l, 0, x, _ => rfl
  | y :: l, k + 1, x, h => by
    have ih := ics_set l k x (by simpa using h)
    have e : ∀ z : I4, ∀ l' : List I4, ics (z :: l') = bv z.1 :: bv z.2.1 :: bv z.2.2.1 :: bv z.2.2.2 :: ics l' := fun _ _ => rfl
    rw [List.set_cons_succ, e, e, ← ih]
    rw [show (k + 1) * 4 = k * 4 + 1 + 1 + 1 + 1 by omega, show k * 4 + 1 + 1 + 1 + 1 + 1 = (k * 4 + 1) + 1 + 1 + 1 + 1 by omega, show k * 4 + 1 + 1 + 1 + 1 + 2 = (k * 4 + 2) + 1 + 1 + 1 + 1 by omega, show k * 4 + 1 + 1 + 1 + 1 + 3 = (k * 4 + 3) + 1 + 1 + 1 + 1 by omega]
    simp only [List.set_cons_succ]
theorem ics_app (a b : List I4) : ics (a ++ b) = ics a ++ ics b := by simp [ics]
theorem ics_more {n m : Nat} {x : I4} (h : n ≤ m) {j : Nat} {u : Value} (hj : (ics (List.replicate n x))[j]? = some u) : (ics (List.replicate m x))[j]? = some u := by
  rw [show m = n + (m - n) by omega, ← List.replicate_append_replicate, ics_app]
  obtain ⟨hlt, _⟩ := List.getElem?_eq_some_iff.1 hj
  rw [List.getElem?_append_left hlt]; exact hj
theorem ics_rep {m k o : Nat} {x : I4} (h : k < m) (ho : o < 4) : (ics (List.replicate m x))[k * 4 + o]? = (i4c x)[o]? := by
  rw [ics_get _ k o (by simpa using h) ho, List.getElem_replicate]
/-- A row of instructions, whichever. -/
def OwnX (v : Value) (n : Nat) : Thing where
  at_ w S := ∃ zs : List I4, zs.length = n ∧ (OwnN v zs).at_ w S
  lt := by rintro w S ⟨zs, _, h⟩; exact (OwnN v zs).lt h
  keeps := by rintro w w' S T ⟨zs, e, h⟩ ht hn; exact ⟨zs, e, (OwnN v zs).keeps h ht hn⟩
theorem ownx_of {w0 w : World} {v : Value} {zs : List I4} {r : List Thing} (h : Hp w0 w (OwnN v zs :: r)) : Hp w0 w (OwnX v zs.length :: r) := h.as fun S h => ⟨zs, rfl, h⟩
theorem ownx_get {w0 w : World} {v : Value} {n : Nat} {r : List Thing} (h : Hp w0 w (OwnX v n :: r)) : ∃ zs : List I4, zs.length = n ∧ Hp w0 w (OwnN v zs :: r) := by
  obtain ⟨S, ⟨zs, e, h1⟩, h2, h3⟩ := h.lay
  exact ⟨zs, e, h.below, S, h1, h2, h3⟩
abbrev Kp (h : Hl) : Thing := OwnX h.v h.n
/-- All marked. -/
abbrev Mk (h : Hl) : Thing := OwnN h.v (List.replicate h.n (mk h.q))
/-- Grown: all marks, the list and the long one. -/
def Gp (h : Hl) (long : Value) (m : Nat) : Thing where
  at_ w S := w.ownsRow 0 26 4 long m (ics (List.replicate m (mk h.q))) ∧
    ((h.v = .slice none 0 0 ∧ h.n = 0) ∨ ∃ g c o, h.v = .slice (some ⟨g, 0, none⟩) h.n c ∧ w.heap[g]? = some o ∧ ∀ j u, (ics (List.replicate h.n (mk h.q)))[j]? = some u → w.cell? ⟨g, j, none⟩ = some u) ∧
    S = fun k => h.v.ownBlock = some k ∨ long.ownBlock = some k
  lt := by
    rintro w S ⟨h1, h2, rfl⟩ k (hk | hk)
    · rcases h2 with ⟨e, _⟩ | ⟨g, c, o, e, hg, _⟩
      · rw [e] at hk; cases hk
      · rw [e] at hk; injection hk with hk; subst hk; exact blk_lt hg
    · exact (h1.lt k hk).2
  keeps := by
    rintro w w' S T ⟨h1, h2, rfl⟩ ht hn
    refine ⟨?_, ?_, rfl⟩
    · exact ((Own 26 4 long m _).keeps (S := fun k => long.ownBlock = some k) ⟨h1, rfl⟩ ht (fun k hk => hn k (Or.inr hk))).1
    · rcases h2 with e | ⟨g, c, o, e, hg, hc⟩
      · exact Or.inl e
      · have hb := ht.block g (blk_lt hg) (hn g (Or.inl (by rw [e]; rfl)))
        exact Or.inr ⟨g, c, o, e, hb.trans hg, fun j u hj => (World.cell?_of_block (a := ⟨g, j, none⟩) hb).trans (hc j u hj)⟩
theorem gp_of {w0 w : World} {h : Hl} {r : List Thing} (H : Hp w0 w (Mk h :: r)) : Hp w0 w (Gp h h.v h.n :: r) := H.as fun S h1 => by
  obtain ⟨h1, rfl⟩ := h1
  have h1' : w.ownsRow 0 26 4 h.v h.n (ics (List.replicate h.n (mk h.q))) := by simpa using h1
  refine ⟨h1', ?_, ?_⟩
  · rcases h1'.2 with h3 | ⟨g, cap, cur, e, h2, h3, h4⟩
    · exact Or.inl h3
    · refine Or.inr ⟨g, cap, _, e, h3, fun j u hj => ?_⟩
      have := h1'.cells (g := g) (by rw [e]; rfl) j u hj
      rwa [show (⟨g, 0, none⟩ : Addr).add j = ⟨g, 0 + j, none⟩ from Addr.add_lit g 0 j, Nat.zero_add] at this
  · funext k; simp
theorem gp_own {w0 w : World} {h : Hl} {long : Value} {m : Nat} {r : List Thing} (H : Hp w0 w (Gp h long m :: r)) : w.ownsRow 0 26 4 long m (ics (List.replicate m (mk h.q))) := by
  obtain ⟨S, ⟨h1, _⟩, _⟩ := H.lay
  exact h1
theorem gp_cells {w0 w : World} {h : Hl} {long : Value} {m : Nat} {r : List Thing} (H : Hp w0 w (Gp h long m :: r)) : (h.v = .slice none 0 0 ∧ h.n = 0) ∨ ∃ g c, h.v = .slice (some ⟨g, 0, none⟩) h.n c ∧ ∀ j u, (ics (List.replicate h.n (mk h.q)))[j]? = some u → w.cell? ⟨g, j, none⟩ = some u := by
  obtain ⟨S, ⟨_, h1, _⟩, _⟩ := H.lay
  rcases h1 with h1 | ⟨g, c, o, e, _, h2⟩
  · exact Or.inl h1
  · exact Or.inr ⟨g, c, e, h2⟩
theorem gp_turn {w0 w w' : World} {h : Hl} {long long' : Value} {m : Nat} {r : List Thing} (H : Hp w0 w (Gp h long m :: r)) (hm : h.n ≤ m) (hg : w.grownBy w' long.ownBlock)
    (ho : w'.ownsRow 0 26 4 long' (m + 1) (ics (List.replicate m (mk h.q)) ++ i4c (mk h.q))) (hl : long'.ownBlock = long.ownBlock ∨ (long'.ownBlock = some w.heap.size ∧ w.grownBy w' none)) : Hp w0 w' (Gp h long' (m + 1) :: r) := by
  obtain ⟨S, ⟨h1, h2, rfl⟩, h3, h4⟩ := H.lay
  have ho' : w'.ownsRow 0 26 4 long' (m + 1) (ics (List.replicate (m + 1) (mk h.q))) := by
    have e : ics [mk h.q] = i4c (mk h.q) := by simp [ics]
    rw [List.replicate_succ', ics_app, e]; exact ho
  refine Hp.step (t' := Gp h long' (m + 1)) (S := fun k => h.v.ownBlock = some k ∨ long.ownBlock = some k) (S' := fun k => h.v.ownBlock = some k ∨ long'.ownBlock = some k) H.below (fun k hk => (h3 k hk).1) h4
    ⟨hg.os, hg.tape, hg.output, hg.size, fun k hk hn => hg.block k hk (fun e => hn (Or.inr e.symm))⟩ ⟨ho', ?_, rfl⟩ (fun k hk => ?_)
  · rcases h2 with h2 | ⟨g, c, o, e, hb, hc⟩
    · exact Or.inl h2
    · have keep : w'.heap[g]? = w.heap[g]? → (h.v = .slice none 0 0 ∧ h.n = 0) ∨ ∃ g c o, h.v = .slice (some ⟨g, 0, none⟩) h.n c ∧ w'.heap[g]? = some o ∧ ∀ j u, (ics (List.replicate h.n (mk h.q)))[j]? = some u → w'.cell? ⟨g, j, none⟩ = some u := fun hk =>
        Or.inr ⟨g, c, o, e, hk.trans hb, fun j u hj => (World.cell?_of_block (a := ⟨g, j, none⟩) hk).trans (hc j u hj)⟩
      by_cases hs : long.ownBlock = some g
      · rcases hl with hl | ⟨_, hl⟩
        · have hlg : long'.ownBlock = some g := hl.trans hs
          rcases ho'.2 with ⟨e1, _⟩ | ⟨g', cap, cur, e1, _, hg', _⟩
          · rw [e1] at hlg; cases hlg
          · rw [e1] at hlg
            injection hlg with hlg
            simp only at hlg
            subst hlg
            refine Or.inr ⟨g', c, _, e, hg', fun j u hj => ?_⟩
            have := ho'.cells (g := g') (by rw [e1]; rfl) j u (ics_more (by omega) hj)
            rwa [show (⟨g', 0, none⟩ : Addr).add j = ⟨g', 0 + j, none⟩ from Addr.add_lit g' 0 j, Nat.zero_add] at this
        · exact keep (hl.block g (blk_lt hb) (by simp))
      · exact keep (hg.block g (blk_lt hb) (fun e => hs e.symm))
  · rcases hk with hk | hk
    · exact Or.inl (Or.inl hk)
    · rcases hl with hl | ⟨hl, _⟩
      · exact Or.inl (Or.inr (by rw [← hl]; exact hk))
      · rw [hl] at hk; injection hk with hk; exact Or.inr (by omega)
theorem mark_c (w : World) (q : Int) (h : 0 ≤ q ∧ q ≤ 200) :
    Calls Tryz.prog 113 #[.int .i64 q] w fun e w' => e = .returned (.agg #[.int .u8 255, .int .u8 q, .int .u8 0, .int .u8 0]) ∧ Below w.heap.size w w' := by
  obtain ⟨h0, h1⟩ := h
  have H0 := Lib.hid (blk_new (Hp.start w) (.cells #[.int .u8 255, .int .u8 q, .int .u8 0, .int .u8 0] 26))
  have hw : IntKind.u8.wrap q = q := by rw [IntKind.wrap_u8]; omega
  have hs : q / 256 = 0 := by omega
  go_enter Tryz.func113, Tryz.ntmps113
  go_wp2
  exact bodyPost_ret (results_cell_row rfl _ _ w.heap.size _ _ _ _ rfl (blk_get H0.out) Tryz.underlying26 rfl ins_info) rfl ⟨rfl, H0.out.below⟩
theorem ismark_c (w : World) (q : Int) (h : 0 ≤ q ∧ q ≤ 200) :
    Calls Tryz.prog 121 #[.agg #[.int .u8 255, .int .u8 q, .int .u8 0, .int .u8 0], .int .i64 q] w fun e w' => e = .returned (.bool true) ∧ Below w.heap.size w w' := by
  obtain ⟨h0, h1⟩ := h
  have H0 := Lib.hid (blk_new (Hp.start w) (.cells #[.int .u8 255, .int .u8 q, .int .u8 0, .int .u8 0] 26))
  have hw : IntKind.u8.wrap q = q := by rw [IntKind.wrap_u8]; omega
  have hs : q / 256 = 0 := by omega
  go_enter Tryz.func121, Tryz.ntmps121
  go_wp2
  go_ret
  exact ⟨by simp, H0.out.below⟩

abbrev Bkt (vo : Value) (kb : Nat) (n : Int) (vb : Value) : Thing := Blk kb (.cells (bk vo n vb) 69 (0, 0))
abbrev Rows_ (vb : Value) (xs : List Hr) : Thing := Own 136 3 vb xs.length (hc xs)
theorem bk_cells {w0 w : World} {r : List Thing} {vo : Value} {kb : Nat} {n : Int} {vb : Value} (h : Hp w0 w (Bkt vo kb n vb :: r)) : (∀ o, w.cell? ⟨kb, o, none⟩ = (bk vo n vb)[o]?) ∧ ∀ o, w.frozen? ⟨kb, o, none⟩ = false :=
  ⟨fun o => cell_blk (blk_get h) o, fun o => free_blk (blk_get h) o⟩
theorem rows_snoc {w0 w : World} {r : List Thing} {t : Thing} {v : Value} {xs : List Hr} {x : Hr} (h : Hp w0 w (t :: Own 136 3 v (xs.length + 1) (hc xs ++ [x.l.v, x.long, .int .i64 x.l.q]) :: r)) : Hp w0 w (t :: Rows_ v (xs ++ [x]) :: r) := by
  have e1 : (xs ++ [x]).length = xs.length + 1 := by simp
  have e2 : hc (xs ++ [x]) = hc xs ++ [x.l.v, x.long, .int .i64 x.l.q] := hc_app _ _
  unfold Rows_
  rw [e1, e2]
  exact h
set_option maxHeartbeats 4000000 in
set_option maxRecDepth 20000 in
theorem keepint_c {w0 w : World} {r : List Thing} {vo : Value} {kb : Nat} {n : Int} {vb : Value} {xs : List Hr} (av : Option Addr) (m cv : Nat) (H : Hp w0 w (Bkt vo kb n vb :: Rows_ vb xs :: r)) (hn : 0 ≤ n ∧ n < 100000) (hl : xs.length < 100000) :
    Calls Tryz.prog 108 #[.pointer (some ⟨kb, 0, none⟩), .slice av m cv] w fun e w' => e = .returned (.tuple #[]) ∧ ∃ vb', Hp w0 w' (Bkt vo kb (n + 1) vb' :: Rows_ vb' (xs ++ [⟨⟨.slice av m cv, m, n + 1⟩, .slice none 0 0⟩]) :: r) := by
  obtain ⟨i0, hi, hz0, hz1, hz2⟩ := info_parts info_held
  have hw : IntKind.i64.wrap (n + 1) = n + 1 := by rw [IntKind.wrap_i64]; omega
  obtain ⟨hk, hf⟩ := bk_cells H
  have h0 : w.cell? ⟨kb, 0, none⟩ = some (.int .i64 n) := hk 0
  have f0 := hf 0
  clear hk hf
  have HH := Lib.hid H
  clear H
  go_enter Tryz.func108, Tryz.ntmps108
  go_upto_region 1 with fail
  have H1 : Hp w0 (w.setCell ⟨kb, 0, none⟩ (.int .i64 (n + 1))) (Bkt vo kb (n + 1) vb :: Rows_ vb xs :: r) := blk_set HH.out 0 _
  clear h0 f0 HH
  generalize (w.setCell ⟨kb, 0, none⟩ (.int .i64 (n + 1))) = w1 at *
  obtain ⟨hk, hf⟩ := bk_cells H1
  have h0 : w1.cell? ⟨kb, 0, none⟩ = some (.int .i64 (n + 1)) := hk 0
  have h3 : w1.cell? ⟨kb, 5, none⟩ = some vb := hk 5
  have f3 := hf 5
  clear hk hf
  obtain ⟨a, c, rfl⟩ := own_slice H1.tail
  have hown := own_get H1.tail
  have h3a : (w1.alloc (.cells #[.slice av m cv, .slice none 0 0, .int .i64 (n + 1)] 136)).cell? ⟨kb, 5, none⟩ = some (.slice a xs.length c) := (bk_cells (H1.alloc _)).1 5
  have HH := Lib.hid H1
  clear H1
  go_wp2
  go_region_law ((refine step_append_lies _ (by rfl) _ _ _ (by rfl) 0 136 i0 _ 3 56 Tryz.underlying64 hi hz0 hz1 hz2 rfl (by omega) (.slice a xs.length c) xs.length (hc xs) (by rfl) (by first | exact hown.alloc _ | exact (hown.alloc _).drew | exact hown.drew.alloc _ | exact (hown.drew.alloc _).drew) ⟨w1.heap.size, 0, none⟩ 1 1 [.slice av m cv, .slice none 0 0, .int .i64 (n + 1)] (by rfl) (by rfl) (World.news_of_block (cs := #[.slice av m cv, .slice none 0 0, .int .i64 (n + 1)]) (t := 136) (fr := (0, 0)) (blk_alloc_new _ _)) (by simp [Value.oneCell']) (by omega) (by unfold maxLen; omega) (by omega) (by omega) _ rfl ?_; intro g cap w2 hown2 hgrow hat hlt; have HB := own_turn (by first | exact HH.out.up1.alloc _ | exact (HH.out.up1.alloc _).drew | exact HH.out.up1.drew.alloc _ | exact (HH.out.up1.drew.alloc _).drew) hgrow hown2 (hat.elim (fun h => Or.inl h.symm) (fun h => Or.inr (by rw [h]; rfl))); replace HB := HB.up1; have k3 : w2.cell? ⟨kb, 5, none⟩ = some (.slice a xs.length c) := (bk_cells HB).1 5; have f3' := (bk_cells HB).2 5; replace HB := Lib.hid HB; clear hown2 hgrow hat hlt))
  all_goals go_wp2
  all_goals refine bodyPost_end (results_none rfl _ _ _) rfl ⟨rfl, .slice (some ⟨g, 0, none⟩) (xs.length + 1) cap, ?_⟩
  all_goals exact rows_snoc (blk_set HB.out 5 _)

theorem ints_c {w0 w : World} {r : List Thing} {vo : Value} {kb : Nat} {n : Int} {vb : Value} {xs : List Hr} (av : Option Addr) (m cv : Nat) (H : Hp w0 w (Bkt vo kb n vb :: Rows_ vb xs :: r)) (hn : 0 ≤ n ∧ n < 100000) (hl : xs.length < 100000) :
    Calls Tryz.prog 48 #[.pointer (some ⟨kb, 0, none⟩), .slice av m cv] w fun e w' => e = .returned (.tuple #[]) ∧ ∃ vb', Hp w0 w' (Bkt vo kb (n + 1) vb' :: Rows_ vb' (xs ++ [⟨⟨.slice av m cv, m, n + 1⟩, .slice none 0 0⟩]) :: r) := by
  have HK := keepint_c av m cv H hn hl
  clear H
  go_enter Tryz.func48, Tryz.ntmps48
  go_wp2_with fail
  refine HK.mono ?_; rintro e w2 ⟨rfl, vb', H2⟩
  go_wp2
  exact bodyPost_end (results_none rfl _ _ _) rfl ⟨rfl, vb', H2⟩

theorem fillstep (m : I4) (zs : List I4) (k : Nat) (h : k < zs.length) : (List.replicate k m ++ zs.drop k).set k m = List.replicate (k + 1) m ++ zs.drop (k + 1) := by
  rw [List.set_append_right _ _ (by simp), List.length_replicate, Nat.sub_self, List.drop_eq_getElem_cons h]
  rw [List.set_cons_zero, List.replicate_succ']
  simp
theorem own_cellg {w0 w : World} {r : List Thing} {e : TypeId} {size g n c : Nat} {cs : List Value} (H : Hp w0 w (Own e size (.slice (some ⟨g, 0, none⟩) n c) n cs :: r)) (j : Nat) (u : Value) (hj : cs[j]? = some u) : w.cell? ⟨g, j, none⟩ = some u := by
  obtain ⟨g', c', e', h⟩ := own_cell H j u hj
  cases e'; exact h
/-- Its four cells. -/
theorem ins_at {w0 w : World} {r : List Thing} {g c : Nat} {l : List I4} {n : Nat} (H : Hp w0 w (Own 26 4 (.slice (some ⟨g, 0, none⟩) n c) n (ics l) :: r)) (k : Nat) (hk : k < l.length) :
    (w.cell? ⟨g, k * 4, none⟩ = some (bv l[k].1) ∧ w.cell? ⟨g, k * 4 + 1, none⟩ = some (bv l[k].2.1) ∧ w.cell? ⟨g, k * 4 + 2, none⟩ = some (bv l[k].2.2.1) ∧ w.cell? ⟨g, k * 4 + 3, none⟩ = some (bv l[k].2.2.2)) ∧
    (w.frozen? ⟨g, k * 4, none⟩ = false ∧ w.frozen? ⟨g, k * 4 + 1, none⟩ = false ∧ w.frozen? ⟨g, k * 4 + 2, none⟩ = false ∧ w.frozen? ⟨g, k * 4 + 3, none⟩ = false) := by
  have hx := fun o (ho : o < 4) => ics_get l k o hk ho
  refine ⟨⟨own_cellg H _ _ (hx 0 (by omega)), own_cellg H _ _ (hx 1 (by omega)), own_cellg H _ _ (hx 2 (by omega)), own_cellg H _ _ (hx 3 (by omega))⟩, ?_⟩
  exact ⟨(own_get H).frozenAt _, (own_get H).frozenAt _, (own_get H).frozenAt _, (own_get H).frozenAt _⟩
theorem own_set4 {w0 w : World} {r : List Thing} {g c n : Nat} {l : List I4} (H : Hp w0 w (Own 26 4 (.slice (some ⟨g, 0, none⟩) n c) n (ics l) :: r)) (k : Nat) (hk : k < l.length) (hn : l.length = n) (x : I4) :
    Hp w0 ((((w.setCell ⟨g, k * 4, none⟩ (bv x.1)).setCell ⟨g, k * 4 + 1, none⟩ (bv x.2.1)).setCell ⟨g, k * 4 + 2, none⟩ (bv x.2.2.1)).setCell ⟨g, k * 4 + 3, none⟩ (bv x.2.2.2)) (Own 26 4 (.slice (some ⟨g, 0, none⟩) n c) n (ics (l.set k x)) :: r) := by
  have := own_set (own_set (own_set (own_set H (k * 4) (bv x.1) (by omega)) (k * 4 + 1) (bv x.2.1) (by omega)) (k * 4 + 2) (bv x.2.2.1) (by omega)) (k * 4 + 3) (bv x.2.2.2) (by omega)
  rw [ics_set l k x hk] at this
  exact this
theorem tch_below {w w' : World} (h : Below w.heap.size w w') : Tch Nil w w' := ⟨h.os, h.tape, h.output, h.size, fun k hk _ => h.block k hk⟩
set_option maxHeartbeats 4000000 in
set_option maxRecDepth 20000 in
theorem fill_c {w0 w : World} {r : List Thing} {vo : Value} {kb : Nat} {n : Int} {vb : Value} {xs : List Hl} (H : Hp w0 w (Bkt vo kb n vb :: Rows_ vb (xs.map (⟨·, .slice none 0 0⟩)) :: (xs.map Kp ++ r))) (hq : ∀ h ∈ xs, (0 ≤ h.q ∧ h.q ≤ 200) ∧ h.n < 100000) (hl : xs.length < 100000) :
    Calls Tryz.prog 54 #[.pointer (some ⟨kb, 0, none⟩)] w fun e w' => e = .returned (.tuple #[]) ∧ Hp w0 w' (Bkt vo kb n vb :: Rows_ vb (xs.map (⟨·, .slice none 0 0⟩)) :: (xs.map Mk ++ r)) := by
  have HQ := Lib.hid hq
  clear hq
  obtain ⟨a, c, rfl⟩ := own_slice H.tail
  rw [List.length_map] at H ⊢
  have HH := Lib.hid H
  clear H
  go_enter Tryz.func54, Tryz.ntmps54
  go_upto_region 1 with fail
  go_loopw [2] (fun i wr => ∃ A B : List Hl, Hid (xs = A ++ B) ∧ i = .int .i64 A.length ∧ Hid (Hp w0 wr (Bkt vo kb n (.slice a xs.length c) :: Rows_ (.slice a xs.length c) (xs.map (⟨·, .slice none 0 0⟩)) :: (A.map Mk ++ B.map Kp ++ r)))) (fun i _ => xs.length - (intOf i).toNat)
  case atStart => exact ⟨[], xs, Lib.hid rfl, rfl, HH⟩
  case round =>
    obtain ⟨A, B, hx, rfl, hH⟩ := hrel
    obtain ⟨hk, hf⟩ := bk_cells hH.out
    have h3 : wr.cell? ⟨kb, 5, none⟩ = some (.slice a xs.length c) := hk 5
    clear hk hf
    cases B with
    | nil =>
      have e : xs = A := by have := hx.out; simpa using this
      subst e
      go_wp2
      exact bodyPost_end (results_none rfl _ _ _) rfl ⟨rfl, by have := hH.out; simpa using this⟩
    | cons h B =>
      have hlen : xs.length = A.length + (B.length + 1) := by rw [hx.out]; simp
      have c1 : (A.length : Int) < (xs.length : Int) := by omega
      have H1 := Hp.perm hH.out perm_in
      obtain ⟨zs, hz, H2⟩ := ownx_get H1
      obtain ⟨ah, ch, hv⟩ := own_slice H2
      have hcs : ∀ o, o < 3 → (hc (xs.map (⟨·, .slice none 0 0⟩)))[A.length * 3 + o]? = (hrc ⟨h, .slice none 0 0⟩)[o]? := fun o ho => by
        rw [hx.out, List.map_append]
        exact hc_at _ _ _ _ (by simp) o ho
      obtain ⟨g, cap, e1, k0⟩ := own_cell H2.tail.tail _ _ (hcs 0 (by omega))
      obtain ⟨g', cap', e2, k1⟩ := own_cell H2.tail.tail _ _ (hcs 1 (by omega))
      obtain ⟨rfl, -, rfl⟩ := Value.slice.inj e1
      obtain ⟨e2, -, -⟩ := Value.slice.inj e2
      cases e2
      obtain ⟨g', cap', e2, k2⟩ := own_cell H2.tail.tail _ _ (hcs 2 (by omega))
      obtain ⟨e2, -, -⟩ := Value.slice.inj e2
      cases e2
      clear hcs
      rw [hv] at k0
      have HH2 := Lib.hid H2
      have HZ := Lib.hid hz
      have HX := Lib.hid hx.out
      have HV := Lib.hid hv
      have hqn := HQ.out h (by rw [hx.out]; simp)
      have HQN := Lib.hid hqn
      simp only [Nat.add_zero] at k0
      have hlt0 : (0 : Int) ≤ (A.length : Int) := Int.natCast_nonneg _
      clear H1 H2 hx hH hlen hz hqn
      go_upto_region 5 with fail
      have H3 := blk_new HH2.out (.cells #[.slice ah zs.length ch, .slice none 0 0, .int .i64 h.q] 136)
      rw [hv] at H3
      clear k0 k1 k2 h3 HH2 hv c1 hlt0
      generalize (wr.alloc (.cells #[.slice ah zs.length ch, .slice none 0 0, .int .i64 h.q] 136)) = w2 at *
      generalize wr.heap.size = hb at *
      have H3' : Hid (Hp w0 w2 (Blk hb (.cells #[.slice ah zs.length ch, .slice none 0 0, .int .i64 h.q] 136 (0, 0)) :: Own 26 4 (.slice ah zs.length ch) zs.length (ics (List.replicate 0 (mk h.q) ++ zs.drop 0)) :: Bkt vo kb n (.slice (some ⟨g, 0, none⟩) xs.length c) :: Rows_ (.slice (some ⟨g, 0, none⟩) xs.length c) (xs.map (⟨·, .slice none 0 0⟩)) :: (A.map Mk ++ B.map Kp ++ r))) := Lib.hid (by simpa using H3)
      clear H3
      go_loopw [4] (fun j wx => ∃ k : Nat, k ≤ zs.length ∧ j = .int .i64 k ∧ Hid (Hp w0 wx (Blk hb (.cells #[.slice ah zs.length ch, .slice none 0 0, .int .i64 h.q] 136 (0, 0)) :: Own 26 4 (.slice ah zs.length ch) zs.length (ics (List.replicate k (mk h.q) ++ zs.drop k)) :: Bkt vo kb n (.slice (some ⟨g, 0, none⟩) xs.length c) :: Rows_ (.slice (some ⟨g, 0, none⟩) xs.length c) (xs.map (⟨·, .slice none 0 0⟩)) :: (A.map Mk ++ B.map Kp ++ r)))) (fun j _ => zs.length - (intOf j).toNat)
      case atStart => exact ⟨0, Nat.zero_le _, rfl, H3'⟩
      case round =>
        obtain ⟨k, hk, rfl, hH⟩ := hrel
        have b0 : wr.cell? ⟨hb, 0, none⟩ = some (.slice ah zs.length ch) := cell_blk (blk_get hH.out) 0
        have b2 : wr.cell? ⟨hb, 2, none⟩ = some (.int .i64 h.q) := cell_blk (blk_get hH.out) 2
        by_cases hlt : k < zs.length
        · have c1 : (k : Int) < (zs.length : Int) := by omega
          have hkl : k < (List.replicate k (mk h.q) ++ zs.drop k).length := by simp; omega
          obtain ⟨g2, cap, e1, kx⟩ := own_cell hH.out.tail (k * 4) (bv (List.replicate k (mk h.q) ++ zs.drop k)[k].1) (by have := ics_get _ k 0 hkl (by omega); exact this)
          obtain ⟨rfl, -, rfl⟩ := Value.slice.inj e1
          have HM := Lib.hid (fillstep (mk h.q) zs k hlt)
          have hmc := mk_c h.q HQN.out.1
          unfold i4c at hmc
          simp only [List.cons.injEq, and_true] at hmc
          obtain ⟨m0, m1, m2, m3⟩ := hmc
          have MC := Lib.hid (fun w => mark_c w h.q HQN.out.1)
          have hk0 : (0 : Int) ≤ (k : Int) := Int.natCast_nonneg _
          have hwz : IntKind.i64.wrap ((k : Int) + 1) = (k : Int) + 1 := by rw [IntKind.wrap_i64]; have := HQN.out.2; have := HZ.out; omega
          have HR : Hid (∀ (wz : World), Tch Nil wr wz → Hp w0 ((((wz.setCell ⟨g2, k * 4, none⟩ (.int .u8 255)).setCell ⟨g2, k * 4 + 1, none⟩ (.int .u8 h.q)).setCell ⟨g2, k * 4 + 2, none⟩ (.int .u8 0)).setCell ⟨g2, k * 4 + 3, none⟩ (.int .u8 0)) (Blk hb (.cells #[.slice (some ⟨g2, 0, none⟩) zs.length ch, .slice none 0 0, .int .i64 h.q] 136 (0, 0)) :: Own 26 4 (.slice (some ⟨g2, 0, none⟩) zs.length ch) zs.length (ics (List.replicate (k + 1) (mk h.q) ++ zs.drop (k + 1))) :: Bkt vo kb n (.slice (some ⟨g, 0, none⟩) xs.length c) :: Rows_ (.slice (some ⟨g, 0, none⟩) xs.length c) (xs.map (⟨·, .slice none 0 0⟩)) :: (A.map Mk ++ B.map Kp ++ r))) := Lib.hid fun wz ht => by
            have := own_set4 (hH.out.read ht).up1 k hkl (by simp; omega) (mk h.q)
            rw [HM.out, m0, m1, m2, m3] at this
            exact this.up1
          have HRB : Hid (∀ wz, Tch Nil wr wz → ((((wz.setCell ⟨g2, k * 4, none⟩ (.int .u8 255)).setCell ⟨g2, k * 4 + 1, none⟩ (.int .u8 h.q)).setCell ⟨g2, k * 4 + 2, none⟩ (.int .u8 0)).setCell ⟨g2, k * 4 + 3, none⟩ (.int .u8 0)).cell? ⟨hb, 0, none⟩ = some (.slice (some ⟨g2, 0, none⟩) zs.length ch) ∧ ((((wz.setCell ⟨g2, k * 4, none⟩ (.int .u8 255)).setCell ⟨g2, k * 4 + 1, none⟩ (.int .u8 h.q)).setCell ⟨g2, k * 4 + 2, none⟩ (.int .u8 0)).setCell ⟨g2, k * 4 + 3, none⟩ (.int .u8 0)).cell? ⟨hb, 2, none⟩ = some (.int .i64 h.q)) := Lib.hid (fun wz ht => ⟨cell_blk (blk_get (HR.out wz ht)) 0, cell_blk (blk_get (HR.out wz ht)) 2⟩)
          have HC := Lib.hid (fun (wz : World) (ht : Tch Nil wr wz) => ins_at (hH.out.read ht).tail k hkl)
          have HB := Lib.hid (fun (wz : World) (ht : Tch Nil wr wz) => blk_get (hH.out.read ht))
          have htz := Tch.refl Nil wr
          generalize (List.replicate k (mk h.q) ++ zs.drop k)[k] = old at *
          clear e1 m0 m1 m2 m3 kx hkl HM
          go_wp2
          go_region_held3 (fun x => x.cell? ⟨hb, 0, none⟩ = some (.slice (some ⟨g2, 0, none⟩) zs.length ch) ∧ x.cell? ⟨hb, 2, none⟩ = some (.int .i64 h.q)) (first | exact ⟨b0, b2⟩ | exact HRB.out _ htz) (first | (go_at_call 113; refine (MC.out _).mono ?_; rintro e wz ⟨rfl, hbz⟩; have htz : Tch Nil wr wz := ⟨hbz.os, hbz.tape, hbz.output, hbz.size, fun k hk _ => hbz.block k hk⟩; have b0 : wz.cell? ⟨hb, 0, none⟩ = some (.slice (some ⟨g2, 0, none⟩) zs.length ch) := cell_blk (HB.out wz htz) 0; have b2 : wz.cell? ⟨hb, 2, none⟩ = some (.int .i64 h.q) := cell_blk (HB.out wz htz) 2; obtain ⟨⟨y0, y1, y2, y3⟩, z0, z1, z2, z3⟩ := HC.out wz htz; clear hbz))
          all_goals
            (go_wp2
             go_roundw
             case rel => exact ⟨k + 1, by omega, by go_num, Lib.hid (by first | exact HR.out _ htz | exact (HR.out _ htz).drew)⟩
             case measure => simp [intOf]; omega)
        · have hke : k = zs.length := by omega
          have hlen : xs.length = A.length + (B.length + 1) := by rw [HX.out]; simp
          have hwz : IntKind.i64.wrap ((A.length : Int) + 1) = (A.length : Int) + 1 := by rw [IntKind.wrap_i64]; omega
          have HE : Hid (∀ wz, Tch Nil wr wz → Hp w0 wz (Bkt vo kb n (.slice (some ⟨g, 0, none⟩) xs.length c) :: Rows_ (.slice (some ⟨g, 0, none⟩) xs.length c) (xs.map (⟨·, .slice none 0 0⟩)) :: ((A ++ [h]).map Mk ++ B.map Kp ++ r))) := Lib.hid fun wz ht => by
            have h1 := (hH.out.read ht).tail
            rw [hke, List.drop_length, List.append_nil] at h1
            have h2 : Hp w0 wz (Mk h :: Bkt vo kb n (.slice (some ⟨g, 0, none⟩) xs.length c) :: Rows_ (.slice (some ⟨g, 0, none⟩) xs.length c) (xs.map (⟨·, .slice none 0 0⟩)) :: (A.map Mk ++ B.map Kp ++ r)) := by
              unfold Mk OwnN
              rw [HV.out, ← HZ.out, List.length_replicate]
              exact h1
            have h3 := h2.perm perm_in.symm
            simpa using h3
          clear hlen
          subst hke
          have c1 : ¬ (zs.length : Int) < (zs.length : Int) := by omega
          go_wp2
          go_roundw
          case rel => exact ⟨A ++ [h], B, Lib.hid (by rw [HX.out]; simp), by rw [List.length_append, List.length_singleton]; go_num, Lib.hid (by first | exact HE.out _ (Tch.refl _ _) | exact (HE.out _ (Tch.refl _ _)).drew)⟩
          case measure => have := HX.out; simp [intOf]; have h2 := congrArg List.length this; simp at h2; omega
/-- Grown by 40. -/
abbrev Gx (x : Hr) : Thing := Gp x.l x.long (x.l.n + 40)
theorem gp_slice {w0 w : World} {h : Hl} {long : Value} {m : Nat} {r : List Thing} (H : Hp w0 w (Gp h long m :: r)) : ∃ a c, long = .slice a m c := by
  rcases (gp_own H).2 with ⟨e, e2⟩ | ⟨g, cap, cur, e, _⟩
  · exact ⟨none, 0, by rw [e, e2]⟩
  · exact ⟨_, _, e⟩
theorem gp_hv {w0 w : World} {h : Hl} {long : Value} {m : Nat} {r : List Thing} (H : Hp w0 w (Gp h long m :: r)) : ∃ a c, h.v = .slice a h.n c := by
  rcases gp_cells H with ⟨e, e2⟩ | ⟨g, c, e, _⟩
  · exact ⟨none, 0, by rw [e, e2]⟩
  · exact ⟨_, _, e⟩
set_option maxHeartbeats 4000000 in
set_option maxRecDepth 20000 in
theorem grow_c {w0 w : World} {r : List Thing} {vo : Value} {kb : Nat} {n : Int} {vb : Value} {xs : List Hl} (H : Hp w0 w (Bkt vo kb n vb :: Rows_ vb (xs.map nil_) :: (xs.map Mk ++ r))) (hq : ∀ h ∈ xs, (0 ≤ h.q ∧ h.q ≤ 200) ∧ h.n < 100000) (hl : xs.length < 100000) :
    Calls Tryz.prog 62 #[.pointer (some ⟨kb, 0, none⟩)] w fun e w' => e = .returned (.tuple #[]) ∧ ∃ ys : List Hr, ys.map (·.l) = xs ∧ Hp w0 w' (Bkt vo kb n vb :: Rows_ vb ys :: (ys.map Gx ++ r)) := by
  obtain ⟨i0, hi, hz0, hz1, hz2⟩ := info_parts info_ins4
  have HQ := Lib.hid hq
  clear hq
  obtain ⟨a, c, rfl⟩ := own_slice H.tail
  rw [List.length_map] at H ⊢
  have HH := Lib.hid H
  clear H
  go_enter Tryz.func62, Tryz.ntmps62
  go_upto_region 1 with fail
  go_loopw [2] (fun i wr => ∃ (A : List Hr) (B : List Hl), Hid (xs = A.map (·.l) ++ B) ∧ i = .int .i64 A.length ∧ Hid (Hp w0 wr (Bkt vo kb n (.slice a xs.length c) :: Rows_ (.slice a xs.length c) (A ++ B.map nil_) :: (A.map Gx ++ B.map Mk ++ r)))) (fun i _ => xs.length - (intOf i).toNat)
  case atStart => exact ⟨[], xs, Lib.hid rfl, rfl, HH⟩
  case round =>
    obtain ⟨A, B, hx, rfl, hH⟩ := hrel
    obtain ⟨hk, hf⟩ := bk_cells hH.out
    have h3 : wr.cell? ⟨kb, 5, none⟩ = some (.slice a xs.length c) := hk 5
    clear hk hf
    cases B with
    | nil =>
      have e : A.map (·.l) = xs := by have := hx.out; simpa using this.symm
      have e2 : A.length = xs.length := by rw [← e, List.length_map]
      have E := Lib.hid e
      have E2 := Lib.hid e2
      have c1 : ¬ (A.length : Int) < (xs.length : Int) := by omega
      clear e e2
      go_wp2
      exact bodyPost_end (results_none rfl _ _ _) rfl ⟨rfl, A, E.out, by have := hH.out; simpa using this⟩
    | cons h B =>
      have hlen : xs.length = A.length + (B.length + 1) := by rw [hx.out]; simp
      have c1 : (A.length : Int) < (xs.length : Int) := by omega
      have H1 := Hp.perm hH.out perm_in
      have H2 := gp_of H1
      obtain ⟨ah, ch, hv⟩ := gp_slice H2
      have hcs : ∀ o, o < 3 → (hc (A ++ (h :: B).map nil_))[A.length * 3 + o]? = (hrc (nil_ h))[o]? := fun o ho => hc_at _ _ _ _ rfl o ho
      obtain ⟨g, cap, e1, k0⟩ := own_cell H2.tail.tail _ _ (hcs 0 (by omega))
      obtain ⟨g', cap', e2, k1⟩ := own_cell H2.tail.tail _ _ (hcs 1 (by omega))
      obtain ⟨rfl, -, rfl⟩ := Value.slice.inj e1
      obtain ⟨e2, -, -⟩ := Value.slice.inj e2
      cases e2
      obtain ⟨g', cap', e2, k2⟩ := own_cell H2.tail.tail _ _ (hcs 2 (by omega))
      obtain ⟨e2, -, -⟩ := Value.slice.inj e2
      cases e2
      clear hcs e1
      rw [hv] at k0 H2
      have HH2 := Lib.hid H2
      have HX := Lib.hid hx.out
      have HV := Lib.hid hv
      have hqn := HQ.out h (by rw [hx.out]; simp)
      have HQN := Lib.hid hqn
      simp only [Nat.add_zero] at k0
      have hlt0 : (0 : Int) ≤ (A.length : Int) := Int.natCast_nonneg _
      clear H1 H2 hx hH hlen hqn
      go_upto_region 6 with fail
      have H3 := (blk_new HH2.out (.cells #[.slice ah h.n ch, .slice none 0 0, .int .i64 h.q] 136)).up1
      clear k0 k1 k2 h3 HH2 hv c1 hlt0
      generalize (wr.alloc (.cells #[.slice ah h.n ch, .slice none 0 0, .int .i64 h.q] 136)) = w2 at *
      generalize wr.heap.size = hb at *
      have H3' := Lib.hid H3
      clear H3
      go_loopw [4, 5] (fun lv j wx => ∃ (k : Nat) (al : Option Addr) (cl : Nat), k ≤ 40 ∧ lv = .slice al (h.n + k) cl ∧ j = .int .i64 k ∧ Hid (Hp w0 wx (Gp h (.slice al (h.n + k) cl) (h.n + k) :: Blk hb (.cells #[.slice ah h.n ch, .slice none 0 0, .int .i64 h.q] 136 (0, 0)) :: Bkt vo kb n (.slice (some ⟨g, 0, none⟩) xs.length c) :: Rows_ (.slice (some ⟨g, 0, none⟩) xs.length c) (A ++ (h :: B).map nil_) :: (A.map Gx ++ B.map Mk ++ r)))) (fun _ j _ => 40 - (intOf j).toNat)
      case atStart => exact ⟨0, ah, ch, by omega, rfl, rfl, H3'⟩
      case round =>
        obtain ⟨k, al, cl, hk, rfl, rfl, hH⟩ := hrel
        have b2 : wr.cell? ⟨hb, 2, none⟩ = some (.int .i64 h.q) := cell_blk (blk_get hH.out.up1) 2
        by_cases hlt : k < 40
        · have c1 : (k : Int) < 40 := by omega
          have hwz : IntKind.i64.wrap ((k : Int) + 1) = (k : Int) + 1 := by rw [IntKind.wrap_i64]; omega
          have MC := Lib.hid (fun w => mark_c w h.q HQN.out.1)
          have hn1 := HQN.out.2
          have HT := Lib.hid (fun (wa w' : World) (long' : Value) (ha : Hp w0 wa (Gp h (.slice al (h.n + k) cl) (h.n + k) :: Blk hb (.cells #[.slice ah h.n ch, .slice none 0 0, .int .i64 h.q] 136 (0, 0)) :: Bkt vo kb n (.slice (some ⟨g, 0, none⟩) xs.length c) :: Rows_ (.slice (some ⟨g, 0, none⟩) xs.length c) (A ++ (h :: B).map nil_) :: (A.map Gx ++ B.map Mk ++ r))) => gp_turn (w' := w') (long' := long') ha (Nat.le_add_right _ _))
          have hmc := mk_c h.q HQN.out.1
          rw [hmc] at HT
          have HO := Lib.hid (fun (wa : World) (ht : Tch Nil wr wa) => gp_own (hH.out.read ht))
          generalize ics (List.replicate (h.n + k) (mk h.q)) = cs at *
          clear hmc
          go_wp2_with fail
          refine (MC.out _).mono ?_; rintro e wz ⟨rfl, hbz⟩
          have htz : Tch Nil wr wz := ⟨hbz.os, hbz.tape, hbz.output, hbz.size, fun k hk _ => hbz.block k hk⟩
          have hown := HO.out wz htz
          have hHz := Lib.hid (hH.out.read htz)
          clear HO htz hbz b2
          go_wp2_with (at_builtin; refine wpList_append_keep _ rfl _ _ 27 rfl 0 26 i0 (.agg #[.int .u8 0, .int .u8 0, .int .u8 0, .int .u8 0]) 4 4 Tryz.underlying27 hi hz0 hz1 hz2 rfl (by decide) (.slice al (h.n + k) cl) (h.n + k) cs rfl (hown.alloc _) ⟨wz.heap.size, 0, none⟩ 1 1 [.int .u8 255, .int .u8 h.q, .int .u8 0, .int .u8 0] rfl rfl (blk_newsU (l := [.int .u8 255, .int .u8 h.q, .int .u8 0, .int .u8 0]) (blk_alloc_new wz _)) (by simp [Value.oneCell']) (by unfold maxLen; omega) (by omega) (Nat.zero_le _) ?_; intro v' w' hown' hgrow hkeep; have HN := HT.out _ w' v' (hHz.out.alloc _) hgrow hown' hkeep; obtain ⟨a', c', rfl⟩ := own_shape hown'; replace HN := Lib.hid HN; clear hown' hgrow hkeep)
          go_roundw
          case rel => exact ⟨k + 1, a', c', by omega, by rw [Nat.add_assoc], by go_num, HN⟩
          case measure => simp [intOf]; omega
        · have hke : k = 40 := by omega
          subst hke
          have hlen : xs.length = A.length + (B.length + 1) := by have := congrArg List.length HX.out; simpa using this
          have hwz : IntKind.i64.wrap ((A.length : Int) + 1) = (A.length : Int) + 1 := by rw [IntKind.wrap_i64]; omega
          obtain ⟨hk3, hf3⟩ := bk_cells hH.out.tail.tail
          have h3 : wr.cell? ⟨kb, 5, none⟩ = some (.slice (some ⟨g, 0, none⟩) xs.length c) := hk3 5
          have eR : ∀ x : Hr, Rows_ (.slice (some ⟨g, 0, none⟩) xs.length c) (A ++ x :: B.map nil_) = Own 136 3 (.slice (some ⟨g, 0, none⟩) xs.length c) xs.length (hc (A ++ x :: B.map nil_)) := fun x => by
            unfold Rows_; rw [show (A ++ x :: B.map nil_).length = xs.length by simp; omega]
          have hR : Hp w0 wr (Own 136 3 (.slice (some ⟨g, 0, none⟩) xs.length c) xs.length (hc (A ++ nil_ h :: B.map nil_)) :: Gp h (.slice al (h.n + 40) cl) (h.n + 40) :: Blk hb (.cells #[.slice ah h.n ch, .slice none 0 0, .int .i64 h.q] 136 (0, 0)) :: Bkt vo kb n (.slice (some ⟨g, 0, none⟩) xs.length c) :: (A.map Gx ++ B.map Mk ++ r)) := by
            rw [← eR]; exact hH.out.pull 3 rfl
          obtain ⟨g', cap', e2, k1⟩ := own_cell hR (A.length * 3 + 1) (.slice none 0 0) (hc_at A (B.map nil_) (nil_ h) A.length rfl 1 (by omega))
          obtain ⟨e2, -, -⟩ := Value.slice.inj e2
          cases e2
          have kf := (own_get hR).frozenAt (A.length * 3 + 1)
          have HE : Hid (Hp w0 (wr.setCell ⟨g, A.length * 3 + 1, none⟩ (.slice al (h.n + 40) cl)) (Bkt vo kb n (.slice (some ⟨g, 0, none⟩) xs.length c) :: Rows_ (.slice (some ⟨g, 0, none⟩) xs.length c) ((A ++ [⟨h, .slice al (h.n + 40) cl⟩]) ++ B.map nil_) :: ((A ++ [(⟨h, .slice al (h.n + 40) cl⟩ : Hr)]).map Gx ++ B.map Mk ++ r))) := Lib.hid (by
            have h1 := own_set hR (A.length * 3 + 1) (.slice al (h.n + 40) cl) (by omega)
            rw [hc_set _ _ _ _ rfl, ← eR] at h1
            have h2 := ((h1.pull 2 rfl).tail.pull 2 rfl).pull 2 rfl
            have h4 := Hp.perm h2 perm_in.symm
            simpa using h4)
          have c1 : (A.length : Int) < (xs.length : Int) := by omega
          have hlt0 : (0 : Int) ≤ (A.length : Int) := Int.natCast_nonneg _
          clear hlen hk3 hf3 hR eR hH b2
          go_wp2
          go_roundw
          case rel => exact ⟨A ++ [⟨h, .slice al (h.n + 40) cl⟩], B, Lib.hid (by rw [HX.out]; simp), by rw [List.length_append, List.length_singleton]; go_num, Lib.hid (by first | exact HE.out | exact HE.out.drew)⟩
          case measure => have := HX.out; simp [intOf]; have h2 := congrArg List.length this; simp at h2; omega
theorem four_of {w : World} {g m k : Nat} {q : Int} (hq : 0 ≤ q ∧ q ≤ 200) (hc : ∀ j u, (ics (List.replicate m (mk q)))[j]? = some u → w.cell? ⟨g, j, none⟩ = some u) (hk : k < m) :
    w.cell? ⟨g, k * 4, none⟩ = some (.int .u8 255) ∧ w.cell? ⟨g, k * 4 + 1, none⟩ = some (.int .u8 q) ∧ w.cell? ⟨g, k * 4 + 2, none⟩ = some (.int .u8 0) ∧ w.cell? ⟨g, k * 4 + 3, none⟩ = some (.int .u8 0) := by
  have e := mk_c q hq
  have key := fun o (ho : o < 4) => ics_rep (m := m) (x := mk q) hk ho
  rw [e] at key
  exact ⟨hc _ _ (key 0 (by omega)), hc _ _ (key 1 (by omega)), hc _ _ (key 2 (by omega)), hc _ _ (key 3 (by omega))⟩
theorem gp_long {w0 w : World} {h : Hl} {al : Option Addr} {m c : Nat} {r : List Thing} (hq : 0 ≤ h.q ∧ h.q ≤ 200) (H : Hp w0 w (Gp h (.slice al m c) m :: r)) (k : Nat) (hk : k < m) : ∃ g, al = some ⟨g, 0, none⟩ ∧ w.cell? ⟨g, k * 4, none⟩ = some (.int .u8 255) ∧ w.cell? ⟨g, k * 4 + 1, none⟩ = some (.int .u8 h.q) ∧ w.cell? ⟨g, k * 4 + 2, none⟩ = some (.int .u8 0) ∧ w.cell? ⟨g, k * 4 + 3, none⟩ = some (.int .u8 0) := by
  have ho := gp_own H
  rcases ho.2 with ⟨e, e2⟩ | ⟨g, cap, cur, e, _⟩
  · omega
  · obtain ⟨e1, -, -⟩ := Value.slice.inj e
    subst e1
    refine ⟨g, rfl, four_of hq (fun j u hj => ?_) hk⟩
    have := ho.cells (g := g) rfl j u hj
    rwa [show (⟨g, 0, none⟩ : Addr).add j = ⟨g, 0 + j, none⟩ from Addr.add_lit g 0 j, Nat.zero_add] at this
theorem gp_short {w0 w : World} {h : Hl} {long : Value} {ah : Option Addr} {m c : Nat} {r : List Thing} (hq : 0 ≤ h.q ∧ h.q ≤ 200) (H : Hp w0 w (Gp h long m :: r)) (hv : h.v = .slice ah h.n c) (k : Nat) (hk : k < h.n) : ∃ g, ah = some ⟨g, 0, none⟩ ∧ w.cell? ⟨g, k * 4, none⟩ = some (.int .u8 255) ∧ w.cell? ⟨g, k * 4 + 1, none⟩ = some (.int .u8 h.q) ∧ w.cell? ⟨g, k * 4 + 2, none⟩ = some (.int .u8 0) ∧ w.cell? ⟨g, k * 4 + 3, none⟩ = some (.int .u8 0) := by
  rcases gp_cells H with ⟨_, e⟩ | ⟨g, c', e, h2⟩
  · omega
  · rw [hv] at e
    obtain ⟨e1, -, -⟩ := Value.slice.inj e
    exact ⟨g, e1, four_of hq h2 hk⟩

set_option maxHeartbeats 4000000 in
set_option maxRecDepth 20000 in
theorem look_c {w0 w : World} {r : List Thing} {vo : Value} {kb : Nat} {n : Int} {vb : Value} {ys : List Hr} (H : Hp w0 w (Bkt vo kb n vb :: Rows_ vb ys :: (ys.map Gx ++ r))) (hq : ∀ x ∈ ys, (0 ≤ x.l.q ∧ x.l.q ≤ 200) ∧ x.l.n < 100000) (hl : ys.length < 100000) :
    Calls Tryz.prog 70 #[.pointer (some ⟨kb, 0, none⟩)] w fun e w' => e = .returned (.bool true) ∧ Hp w0 w' (Bkt vo kb n vb :: Rows_ vb ys :: (ys.map Gx ++ r)) := by
  have HQ := Lib.hid hq
  clear hq
  obtain ⟨a, c, rfl⟩ := own_slice H.tail
  have HH := Lib.hid H
  clear H
  go_enter Tryz.func70, Tryz.ntmps70
  go_upto_region 2 with fail
  go_loopw [3] (fun i wr => ∃ A B : List Hr, Hid (ys = A ++ B) ∧ i = .int .i64 A.length ∧ Hid (Hp w0 wr (Bkt vo kb n (.slice a ys.length c) :: Rows_ (.slice a ys.length c) ys :: (ys.map Gx ++ r)))) (fun i _ => ys.length - (intOf i).toNat)
  case atStart => exact ⟨[], ys, Lib.hid rfl, rfl, HH⟩
  case round =>
    obtain ⟨A, B, hx, rfl, hH⟩ := hrel
    obtain ⟨hk, hf⟩ := bk_cells hH.out
    have h3 : wr.cell? ⟨kb, 5, none⟩ = some (.slice a ys.length c) := hk 5
    clear hk hf
    cases B with
    | nil =>
      have e2 : A.length = ys.length := by have := congrArg List.length hx.out; simpa using this.symm
      have c1 : ¬ (A.length : Int) < (ys.length : Int) := by omega
      clear e2
      go_wp2
      go_ret
      exact ⟨rfl, hH.out⟩
    | cons x B =>
      have hlen : ys.length = A.length + (B.length + 1) := by rw [hx.out]; simp
      have c1 : (A.length : Int) < (ys.length : Int) := by omega
      have H2 : Hp w0 wr (Gx x :: Bkt vo kb n (.slice a ys.length c) :: Rows_ (.slice a ys.length c) ys :: (A.map Gx ++ B.map Gx ++ r)) := by
        have h1 := hH.out
        have e : ys.map Gx = A.map Gx ++ Gx x :: B.map Gx := by rw [hx.out]; simp
        rw [e] at h1
        exact h1.perm perm_in
      obtain ⟨al, cl, hlv⟩ := gp_slice H2
      obtain ⟨ah, ch, hv⟩ := gp_hv H2
      have hcs : ∀ o, o < 3 → (hc ys)[A.length * 3 + o]? = (hrc x)[o]? := fun o ho => by
        rw [hx.out]; exact hc_at _ _ _ _ rfl o ho
      obtain ⟨g, cap, e1, k0⟩ := own_cell H2.tail.tail _ _ (hcs 0 (by omega))
      obtain ⟨g', cap', e2, k1⟩ := own_cell H2.tail.tail _ _ (hcs 1 (by omega))
      obtain ⟨rfl, -, rfl⟩ := Value.slice.inj e1
      obtain ⟨e2, -, -⟩ := Value.slice.inj e2
      cases e2
      obtain ⟨g', cap', e2, k2⟩ := own_cell H2.tail.tail _ _ (hcs 2 (by omega))
      obtain ⟨e2, -, -⟩ := Value.slice.inj e2
      cases e2
      clear hcs e1
      rw [hv] at k0
      rw [hlv] at k1
      have hqn := HQ.out x (by rw [hx.out]; simp)
      have HQN := Lib.hid hqn
      have HX := Lib.hid hx.out
      have hn1 := hqn.2
      simp only [Nat.add_zero] at k0
      have hlt0 : (0 : Int) ≤ (A.length : Int) := Int.natCast_nonneg _
      have HH2 : Hid (Hp w0 wr (Gp x.l (.slice al (x.l.n + 40) cl) (x.l.n + 40) :: Bkt vo kb n (.slice (some ⟨g, 0, none⟩) ys.length c) :: Rows_ (.slice (some ⟨g, 0, none⟩) ys.length c) ys :: (A.map Gx ++ B.map Gx ++ r))) := Lib.hid (by have h1 := H2; unfold Gx at h1; rw [hlv] at h1; exact h1)
      have HV := Lib.hid hv
      have HLV := Lib.hid hlv
      have hw4 : IntKind.i64.wrap ((x.l.n : Int) + 40) = ((x.l.n + 40 : Nat) : Int) := by rw [IntKind.wrap_i64]; omega
      clear H2 hx hH hlen hqn hv hlv
      obtain ⟨m, hm⟩ : ∃ m, m = x.l.n + 40 := ⟨_, rfl⟩
      rw [← hm] at hw4 k1 HH2
      have HM := Lib.hid hm
      clear hm
      go_upto_region 8 with fail
      have H3 := Lib.hid (blk_new HH2.out (.cells #[.slice ah x.l.n ch, .slice al m cl, .int .i64 x.l.q] 136))
      clear k0 k1 k2 h3 HH2 c1 hlt0 hw4
      generalize (wr.alloc (.cells #[.slice ah x.l.n ch, .slice al m cl, .int .i64 x.l.q] 136)) = w2 at *
      generalize wr.heap.size = hb at *
      go_loopw [5] (fun j wx => ∃ k : Nat, k ≤ m ∧ j = .int .i64 k ∧ Hid (Hp w0 wx (Blk hb (.cells #[.slice ah x.l.n ch, .slice al m cl, .int .i64 x.l.q] 136 (0, 0)) :: Gp x.l (.slice al m cl) m :: Bkt vo kb n (.slice (some ⟨g, 0, none⟩) ys.length c) :: Rows_ (.slice (some ⟨g, 0, none⟩) ys.length c) ys :: (A.map Gx ++ B.map Gx ++ r)))) (fun j _ => m - (intOf j).toNat)
      case atStart => exact ⟨0, Nat.zero_le _, rfl, H3⟩
      case round =>
        obtain ⟨k, hk, rfl, hH⟩ := hrel
        have b0 : wr.cell? ⟨hb, 0, none⟩ = some (.slice ah x.l.n ch) := cell_blk (blk_get hH.out) 0
        have b1 : wr.cell? ⟨hb, 1, none⟩ = some (.slice al m cl) := cell_blk (blk_get hH.out) 1
        have b2 : wr.cell? ⟨hb, 2, none⟩ = some (.int .i64 x.l.q) := cell_blk (blk_get hH.out) 2
        by_cases hlt : k < m
        · have c1 : (k : Int) < (m : Int) := by omega
          have hk0 : (0 : Int) ≤ (k : Int) := Int.natCast_nonneg _
          have hwz : IntKind.i64.wrap ((k : Int) + 1) = (k : Int) + 1 := by rw [IntKind.wrap_i64]; have := HM.out; omega
          have MC := Lib.hid (fun w => ismark_c w x.l.q HQN.out.1)
          obtain ⟨gl, rfl, l0, l1, l2, l3⟩ := gp_long HQN.out.1 hH.out.up1 k hlt
          have HW := Lib.hid (fun (wz : World) (ht : Tch Nil wr wz) => hH.out.read ht)
          have htz := Tch.refl Nil wr
          have HG := Lib.hid (fun (wz : World) (ht : Tch Nil wr wz) => gp_long HQN.out.1 (hH.out.read ht).up1 k hlt)
          have HB := Lib.hid (fun (wz : World) (ht : Tch Nil wr wz) => blk_get (hH.out.read ht))
          have hk1 : k < m := hlt
          by_cases hs : k < x.l.n
          · obtain ⟨gs, rfl, s0, s1, s2, s3⟩ := gp_short HQN.out.1 hH.out.up1 HV.out k hs
            have HS := Lib.hid (fun (wz : World) (ht : Tch Nil wr wz) => gp_short HQN.out.1 (hH.out.read ht).up1 HV.out k hs)
            have c2 : decide ((k : Int) < (x.l.n : Int)) = true := by simpa using hs
            have c3 : (k : Int) < (x.l.n : Int) := by omega
            go_wp2
            go_region_held3 (fun y => y.cell? ⟨hb, 0, none⟩ = some (.slice (some ⟨gs, 0, none⟩) x.l.n ch) ∧ y.cell? ⟨hb, 1, none⟩ = some (.slice (some ⟨gl, 0, none⟩) m cl) ∧ y.cell? ⟨hb, 2, none⟩ = some (.int .i64 x.l.q) ∧ y.cell? ⟨gl, k * 4, none⟩ = some (.int .u8 255) ∧ y.cell? ⟨gl, k * 4 + 1, none⟩ = some (.int .u8 x.l.q) ∧ y.cell? ⟨gl, k * 4 + 2, none⟩ = some (.int .u8 0) ∧ y.cell? ⟨gl, k * 4 + 3, none⟩ = some (.int .u8 0) ∧ y.cell? ⟨gs, k * 4, none⟩ = some (.int .u8 255) ∧ y.cell? ⟨gs, k * 4 + 1, none⟩ = some (.int .u8 x.l.q) ∧ y.cell? ⟨gs, k * 4 + 2, none⟩ = some (.int .u8 0) ∧ y.cell? ⟨gs, k * 4 + 3, none⟩ = some (.int .u8 0)) (exact ⟨b0, b1, b2, l0, l1, l2, l3, s0, s1, s2, s3⟩) (first | (go_at_call 121; refine (MC.out _).mono ?_; rintro e wz ⟨rfl, hbz⟩; have htz : Tch Nil wr wz := Tch.trans (T := Nil) (by first | exact htz | exact htz.drew) ⟨hbz.os, hbz.tape, hbz.output, hbz.size, fun k hk _ => hbz.block k hk⟩ (fun _ _ f => f); clear hbz; have b0 : wz.cell? ⟨hb, 0, none⟩ = some (.slice (some ⟨gs, 0, none⟩) x.l.n ch) := cell_blk (HB.out wz htz) 0; have b1 : wz.cell? ⟨hb, 1, none⟩ = some (.slice (some ⟨gl, 0, none⟩) m cl) := cell_blk (HB.out wz htz) 1; have b2 : wz.cell? ⟨hb, 2, none⟩ = some (.int .i64 x.l.q) := cell_blk (HB.out wz htz) 2; obtain ⟨gl2, e2, l0, l1, l2, l3⟩ := HG.out wz htz; cases e2; obtain ⟨gs2, e2, s0, s1, s2, s3⟩ := HS.out wz htz; cases e2))
            all_goals
              (go_wp2
               go_roundw
               case rel => exact ⟨k + 1, by omega, by go_num, Lib.hid (by first | exact HW.out _ htz | exact (HW.out _ htz).drew)⟩
               case measure => simp [intOf]; omega)
          · have c2 : decide ((k : Int) < (x.l.n : Int)) = false := by simpa using hs
            go_wp2
            refine wp_region_S 26 (fun (y : World) => y.cell? ⟨hb, 0, none⟩ = some (.slice ah x.l.n ch) ∧ y.cell? ⟨hb, 1, none⟩ = some (.slice (some ⟨gl, 0, none⟩) m cl) ∧ y.cell? ⟨hb, 2, none⟩ = some (.int .i64 x.l.q) ∧ y.cell? ⟨gl, k * 4, none⟩ = some (.int .u8 255) ∧ y.cell? ⟨gl, k * 4 + 1, none⟩ = some (.int .u8 x.l.q) ∧ y.cell? ⟨gl, k * 4 + 2, none⟩ = some (.int .u8 0) ∧ y.cell? ⟨gl, k * 4 + 3, none⟩ = some (.int .u8 0)) (by as_aux_lemma => kernel_rfl) ?_
            have hSS : (fun (y : World) => y.cell? ⟨hb, 0, none⟩ = some (.slice ah x.l.n ch) ∧ y.cell? ⟨hb, 1, none⟩ = some (.slice (some ⟨gl, 0, none⟩) m cl) ∧ y.cell? ⟨hb, 2, none⟩ = some (.int .i64 x.l.q) ∧ y.cell? ⟨gl, k * 4, none⟩ = some (.int .u8 255) ∧ y.cell? ⟨gl, k * 4 + 1, none⟩ = some (.int .u8 x.l.q) ∧ y.cell? ⟨gl, k * 4 + 2, none⟩ = some (.int .u8 0) ∧ y.cell? ⟨gl, k * 4 + 3, none⟩ = some (.int .u8 0)) wr.drew := ⟨b0, b1, b2, l0, l1, l2, l3⟩
            refine wpAnyS_take (i := 0) (by as_aux_lemma => kernel_rfl) (by as_aux_lemma => kernel_rfl) (by as_aux_lemma => kernel_rfl) (by as_aux_lemma => kernel_rfl) (by as_aux_lemma => kernel_rfl) (by as_aux_lemma => kernel_rfl) (by as_aux_lemma => kernel_rfl) (by as_aux_lemma => kernel_rfl) (by intro c a d v w h; cases d <;> exact h) hSS (fun oi hoi => ?_)
            simp only [List.getElem?_toArray, List.getElem?_cons_zero, List.getElem?_cons_succ, Option.some.injEq] at hoi; subst hoi
            refine ⟨?_, by rfl, fun wx hSx => ?_, ?_⟩
            rotate_left
            · obtain ⟨s1, s2, s3, s4, s5, s6, s7⟩ := hSx
              go_simp
              try with_reducible rfl
            try simp only [Act.put, List.setIfInBounds_toArray, List.set_cons_zero, List.set_cons_succ]
            refine wpAnyS_take (i := 1) (by as_aux_lemma => kernel_rfl) (by as_aux_lemma => kernel_rfl) (by as_aux_lemma => kernel_rfl) (by as_aux_lemma => kernel_rfl) (by as_aux_lemma => kernel_rfl) (by as_aux_lemma => kernel_rfl) (by as_aux_lemma => kernel_rfl) (by as_aux_lemma => kernel_rfl) (by intro c a d v w h; cases d <;> exact h) hSS (fun oi hoi => ?_)
            simp only [List.getElem?_toArray, List.getElem?_cons_zero, List.getElem?_cons_succ, Option.some.injEq] at hoi; subst hoi
            refine ⟨?_, by rfl, fun wx hSx => ?_, ?_⟩
            rotate_left
            · obtain ⟨s1, s2, s3, s4, s5, s6, s7⟩ := hSx
              go_simp
              try with_reducible rfl
            try simp only [Act.put, List.setIfInBounds_toArray, List.set_cons_zero, List.set_cons_succ]
            refine wpAnyS_take (i := 2) (by as_aux_lemma => kernel_rfl) (by as_aux_lemma => kernel_rfl) (by as_aux_lemma => kernel_rfl) (by as_aux_lemma => kernel_rfl) (by as_aux_lemma => kernel_rfl) (by as_aux_lemma => kernel_rfl) (by as_aux_lemma => kernel_rfl) (by as_aux_lemma => kernel_rfl) (by intro c a d v w h; cases d <;> exact h) hSS (fun oi hoi => ?_)
            simp only [List.getElem?_toArray, List.getElem?_cons_zero, List.getElem?_cons_succ, Option.some.injEq] at hoi; subst hoi
            refine ⟨?_, by rfl, fun wx hSx => ?_, ?_⟩
            rotate_left
            · obtain ⟨s1, s2, s3, s4, s5, s6, s7⟩ := hSx
              go_simp
              try with_reducible rfl
            try simp only [Act.put, List.setIfInBounds_toArray, List.set_cons_zero, List.set_cons_succ]
            refine wpAnyS_take (i := 3) (by as_aux_lemma => kernel_rfl) (by as_aux_lemma => kernel_rfl) (by as_aux_lemma => kernel_rfl) (by as_aux_lemma => kernel_rfl) (by as_aux_lemma => kernel_rfl) (by as_aux_lemma => kernel_rfl) (by as_aux_lemma => kernel_rfl) (by as_aux_lemma => kernel_rfl) (by intro c a d v w h; cases d <;> exact h) hSS (fun oi hoi => ?_)
            simp only [List.getElem?_toArray, List.getElem?_cons_zero, List.getElem?_cons_succ, Option.some.injEq] at hoi; subst hoi
            refine ⟨?_, by rfl, fun wx hSx => ?_, ?_⟩
            rotate_left
            · obtain ⟨s1, s2, s3, s4, s5, s6, s7⟩ := hSx
              go_simp
              try with_reducible rfl
            try simp only [Act.put, List.setIfInBounds_toArray, List.set_cons_zero, List.set_cons_succ]
            refine wpAnyS_take (i := 4) (by as_aux_lemma => kernel_rfl) (by as_aux_lemma => kernel_rfl) (by as_aux_lemma => kernel_rfl) (by as_aux_lemma => kernel_rfl) (by as_aux_lemma => kernel_rfl) (by as_aux_lemma => kernel_rfl) (by as_aux_lemma => kernel_rfl) (by as_aux_lemma => kernel_rfl) (by intro c a d v w h; cases d <;> exact h) hSS (fun oi hoi => ?_)
            simp only [List.getElem?_toArray, List.getElem?_cons_zero, List.getElem?_cons_succ, Option.some.injEq] at hoi; subst hoi
            refine ⟨?_, by rfl, fun wx hSx => ?_, ?_⟩
            rotate_left
            · obtain ⟨s1, s2, s3, s4, s5, s6, s7⟩ := hSx
              go_simp
              try with_reducible rfl
            try simp only [Act.put, List.setIfInBounds_toArray, List.set_cons_zero, List.set_cons_succ]
            refine wpAnyS_take (i := 5) (by as_aux_lemma => kernel_rfl) (by as_aux_lemma => kernel_rfl) (by as_aux_lemma => kernel_rfl) (by as_aux_lemma => kernel_rfl) (by as_aux_lemma => kernel_rfl) (by as_aux_lemma => kernel_rfl) (by as_aux_lemma => kernel_rfl) (by as_aux_lemma => kernel_rfl) (by intro c a d v w h; cases d <;> exact h) hSS (fun oi hoi => ?_)
            simp only [List.getElem?_toArray, List.getElem?_cons_zero, List.getElem?_cons_succ, Option.some.injEq] at hoi; subst hoi
            refine ⟨?_, by rfl, fun wx hSx => ?_, ?_⟩
            rotate_left
            · obtain ⟨s1, s2, s3, s4, s5, s6, s7⟩ := hSx
              go_simp
              try with_reducible rfl
            try simp only [Act.put, List.setIfInBounds_toArray, List.set_cons_zero, List.set_cons_succ]
            refine wpAnyS_take (i := 6) (by as_aux_lemma => kernel_rfl) (by as_aux_lemma => kernel_rfl) (by as_aux_lemma => kernel_rfl) (by as_aux_lemma => kernel_rfl) (by as_aux_lemma => kernel_rfl) (by as_aux_lemma => kernel_rfl) (by as_aux_lemma => kernel_rfl) (by as_aux_lemma => kernel_rfl) (by intro c a d v w h; cases d <;> exact h) hSS (fun oi hoi => ?_)
            simp only [List.getElem?_toArray, List.getElem?_cons_zero, List.getElem?_cons_succ, Option.some.injEq] at hoi; subst hoi
            refine ⟨?_, by rfl, fun wx hSx => ?_, ?_⟩
            rotate_left
            · obtain ⟨s1, s2, s3, s4, s5, s6, s7⟩ := hSx
              go_simp
              try with_reducible rfl
            try simp only [Act.put, List.setIfInBounds_toArray, List.set_cons_zero, List.set_cons_succ]
            refine wpAnyS_one (i := 7) (by as_aux_lemma => kernel_rfl) ?_
            intro oi hoi K hK
            simp only [List.getElem?_toArray, List.getElem?_cons_zero, List.getElem?_cons_succ, Option.some.injEq] at hoi; subst hoi
            go_simp
            go_at_call 121
            refine (MC.out _).mono ?_
            rintro e wz ⟨rfl, hbz⟩
            have htz : Tch Nil wr wz := Tch.trans (T := Nil) (by first | exact htz.drew | exact htz) ⟨hbz.os, hbz.tape, hbz.output, hbz.size, fun k hk _ => hbz.block k hk⟩ (fun _ _ f => f)
            clear hbz
            have b0 : wz.cell? ⟨hb, 0, none⟩ = some (.slice ah x.l.n ch) := cell_blk (HB.out wz htz) 0
            have b1 : wz.cell? ⟨hb, 1, none⟩ = some (.slice (some ⟨gl, 0, none⟩) m cl) := cell_blk (HB.out wz htz) 1
            have b2 : wz.cell? ⟨hb, 2, none⟩ = some (.int .i64 x.l.q) := cell_blk (HB.out wz htz) 2
            obtain ⟨gl2, e2, l0, l1, l2, l3⟩ := HG.out wz htz
            cases e2
            have hSS : (fun (y : World) => y.cell? ⟨hb, 0, none⟩ = some (.slice ah x.l.n ch) ∧ y.cell? ⟨hb, 1, none⟩ = some (.slice (some ⟨gl, 0, none⟩) m cl) ∧ y.cell? ⟨hb, 2, none⟩ = some (.int .i64 x.l.q) ∧ y.cell? ⟨gl, k * 4, none⟩ = some (.int .u8 255) ∧ y.cell? ⟨gl, k * 4 + 1, none⟩ = some (.int .u8 x.l.q) ∧ y.cell? ⟨gl, k * 4 + 2, none⟩ = some (.int .u8 0) ∧ y.cell? ⟨gl, k * 4 + 3, none⟩ = some (.int .u8 0)) wz := ⟨b0, b1, b2, l0, l1, l2, l3⟩
            refine hK.out _ _ (fun _ => hSS) ?_
            clear hK K
            try simp only [Act.put, List.setIfInBounds_toArray, List.set_cons_zero, List.set_cons_succ]
            refine wpAnyS_take (i := 8) (by as_aux_lemma => kernel_rfl) (by as_aux_lemma => kernel_rfl) (by as_aux_lemma => kernel_rfl) (by as_aux_lemma => kernel_rfl) (by as_aux_lemma => kernel_rfl) (by as_aux_lemma => kernel_rfl) (by as_aux_lemma => kernel_rfl) (by as_aux_lemma => kernel_rfl) (by intro c a d v w h; cases d <;> exact h) hSS (fun oi hoi => ?_)
            simp only [List.getElem?_toArray, List.getElem?_cons_zero, List.getElem?_cons_succ, Option.some.injEq] at hoi; subst hoi
            refine ⟨?_, by rfl, fun wx hSx => ?_, ?_⟩
            rotate_left
            · obtain ⟨s1, s2, s3, s4, s5, s6, s7⟩ := hSx
              go_simp
              try with_reducible rfl
            try simp only [Act.put, List.setIfInBounds_toArray, List.set_cons_zero, List.set_cons_succ]
            refine wpAnyS_take (i := 9) (by as_aux_lemma => kernel_rfl) (by as_aux_lemma => kernel_rfl) (by as_aux_lemma => kernel_rfl) (by as_aux_lemma => kernel_rfl) (by as_aux_lemma => kernel_rfl) (by as_aux_lemma => kernel_rfl) (by as_aux_lemma => kernel_rfl) (by as_aux_lemma => kernel_rfl) (by intro c a d v w h; cases d <;> exact h) hSS (fun oi hoi => ?_)
            simp only [List.getElem?_toArray, List.getElem?_cons_zero, List.getElem?_cons_succ, Option.some.injEq] at hoi; subst hoi
            refine ⟨?_, by rfl, fun wx hSx => ?_, ?_⟩
            rotate_left
            · obtain ⟨s1, s2, s3, s4, s5, s6, s7⟩ := hSx
              go_simp
              try with_reducible rfl
            try simp only [Act.put, List.setIfInBounds_toArray, List.set_cons_zero, List.set_cons_succ]
            refine wpAnyS_take (i := 10) (by as_aux_lemma => kernel_rfl) (by as_aux_lemma => kernel_rfl) (by as_aux_lemma => kernel_rfl) (by as_aux_lemma => kernel_rfl) (by as_aux_lemma => kernel_rfl) (by as_aux_lemma => kernel_rfl) (by as_aux_lemma => kernel_rfl) (by as_aux_lemma => kernel_rfl) (by intro c a d v w h; cases d <;> exact h) hSS (fun oi hoi => ?_)
            simp only [List.getElem?_toArray, List.getElem?_cons_zero, List.getElem?_cons_succ, Option.some.injEq] at hoi; subst hoi
            refine ⟨?_, by rfl, fun wx hSx => ?_, ?_⟩
            rotate_left
            · obtain ⟨s1, s2, s3, s4, s5, s6, s7⟩ := hSx
              go_simp
              try with_reducible rfl
            try simp only [Act.put, List.setIfInBounds_toArray, List.set_cons_zero, List.set_cons_succ]
            refine wpAnyS_take (i := 11) (by as_aux_lemma => kernel_rfl) (by as_aux_lemma => kernel_rfl) (by as_aux_lemma => kernel_rfl) (by as_aux_lemma => kernel_rfl) (by as_aux_lemma => kernel_rfl) (by as_aux_lemma => kernel_rfl) (by as_aux_lemma => kernel_rfl) (by as_aux_lemma => kernel_rfl) (by intro c a d v w h; cases d <;> exact h) hSS (fun oi hoi => ?_)
            simp only [List.getElem?_toArray, List.getElem?_cons_zero, List.getElem?_cons_succ, Option.some.injEq] at hoi; subst hoi
            refine ⟨?_, by rfl, fun wx hSx => ?_, ?_⟩
            rotate_left
            · obtain ⟨s1, s2, s3, s4, s5, s6, s7⟩ := hSx
              go_simp
              try with_reducible rfl
            try simp only [Act.put, List.setIfInBounds_toArray, List.set_cons_zero, List.set_cons_succ]
            refine wpAnyS_take (i := 12) (by as_aux_lemma => kernel_rfl) (by as_aux_lemma => kernel_rfl) (by as_aux_lemma => kernel_rfl) (by as_aux_lemma => kernel_rfl) (by as_aux_lemma => kernel_rfl) (by as_aux_lemma => kernel_rfl) (by as_aux_lemma => kernel_rfl) (by as_aux_lemma => kernel_rfl) (by intro c a d v w h; cases d <;> exact h) hSS (fun oi hoi => ?_)
            simp only [List.getElem?_toArray, List.getElem?_cons_zero, List.getElem?_cons_succ, Option.some.injEq] at hoi; subst hoi
            refine ⟨?_, by rfl, fun wx hSx => ?_, ?_⟩
            rotate_left
            · obtain ⟨s1, s2, s3, s4, s5, s6, s7⟩ := hSx
              go_simp
              try with_reducible rfl
            try simp only [Act.put, List.setIfInBounds_toArray, List.set_cons_zero, List.set_cons_succ]
            refine wpAnyS_take (i := 13) (by as_aux_lemma => kernel_rfl) (by as_aux_lemma => kernel_rfl) (by as_aux_lemma => kernel_rfl) (by as_aux_lemma => kernel_rfl) (by as_aux_lemma => kernel_rfl) (by as_aux_lemma => kernel_rfl) (by as_aux_lemma => kernel_rfl) (by as_aux_lemma => kernel_rfl) (by intro c a d v w h; cases d <;> exact h) hSS (fun oi hoi => ?_)
            simp only [List.getElem?_toArray, List.getElem?_cons_zero, List.getElem?_cons_succ, Option.some.injEq] at hoi; subst hoi
            refine ⟨?_, by rfl, fun wx hSx => ?_, ?_⟩
            rotate_left
            · obtain ⟨s1, s2, s3, s4, s5, s6, s7⟩ := hSx
              go_simp
              try with_reducible rfl
            try simp only [Act.put, List.setIfInBounds_toArray, List.set_cons_zero, List.set_cons_succ]
            refine wpAnyS_take (i := 14) (by as_aux_lemma => kernel_rfl) (by as_aux_lemma => kernel_rfl) (by as_aux_lemma => kernel_rfl) (by as_aux_lemma => kernel_rfl) (by as_aux_lemma => kernel_rfl) (by as_aux_lemma => kernel_rfl) (by as_aux_lemma => kernel_rfl) (by as_aux_lemma => kernel_rfl) (by intro c a d v w h; cases d <;> exact h) hSS (fun oi hoi => ?_)
            simp only [List.getElem?_toArray, List.getElem?_cons_zero, List.getElem?_cons_succ, Option.some.injEq] at hoi; subst hoi
            refine ⟨?_, by rfl, fun wx hSx => ?_, ?_⟩
            rotate_left
            · obtain ⟨s1, s2, s3, s4, s5, s6, s7⟩ := hSx
              go_simp
              try with_reducible rfl
            try simp only [Act.put, List.setIfInBounds_toArray, List.set_cons_zero, List.set_cons_succ]
            refine wpAnyS_take (i := 15) (by as_aux_lemma => kernel_rfl) (by as_aux_lemma => kernel_rfl) (by as_aux_lemma => kernel_rfl) (by as_aux_lemma => kernel_rfl) (by as_aux_lemma => kernel_rfl) (by as_aux_lemma => kernel_rfl) (by as_aux_lemma => kernel_rfl) (by as_aux_lemma => kernel_rfl) (by intro c a d v w h; cases d <;> exact h) hSS (fun oi hoi => ?_)
            simp only [List.getElem?_toArray, List.getElem?_cons_zero, List.getElem?_cons_succ, Option.some.injEq] at hoi; subst hoi
            refine ⟨?_, by rfl, fun wx hSx => ?_, ?_⟩
            rotate_left
            · obtain ⟨s1, s2, s3, s4, s5, s6, s7⟩ := hSx
              go_simp
              try with_reducible rfl
            try simp only [Act.put, List.setIfInBounds_toArray, List.set_cons_zero, List.set_cons_succ]
            refine wpAnyS_skip (i := 16) (by as_aux_lemma => kernel_rfl) (by as_aux_lemma => kernel_rfl) (by as_aux_lemma => kernel_rfl) (by as_aux_lemma => kernel_rfl) (by as_aux_lemma => kernel_rfl) (by as_aux_lemma => kernel_rfl) (by as_aux_lemma => kernel_rfl) (by as_aux_lemma => kernel_rfl) (by intro c a d v w h; cases d <;> exact h) hSS (fun oi hoi => ?_)
            simp only [List.getElem?_toArray, List.getElem?_cons_zero, List.getElem?_cons_succ, Option.some.injEq] at hoi; subst hoi
            refine ⟨by rfl, ?_⟩
            try simp only [Act.put, List.setIfInBounds_toArray, List.set_cons_zero, List.set_cons_succ]
            refine wpAnyS_skip (i := 17) (by as_aux_lemma => kernel_rfl) (by as_aux_lemma => kernel_rfl) (by as_aux_lemma => kernel_rfl) (by as_aux_lemma => kernel_rfl) (by as_aux_lemma => kernel_rfl) (by as_aux_lemma => kernel_rfl) (by as_aux_lemma => kernel_rfl) (by as_aux_lemma => kernel_rfl) (by intro c a d v w h; cases d <;> exact h) hSS (fun oi hoi => ?_)
            simp only [List.getElem?_toArray, List.getElem?_cons_zero, List.getElem?_cons_succ, Option.some.injEq] at hoi; subst hoi
            refine ⟨by rfl, ?_⟩
            try simp only [Act.put, List.setIfInBounds_toArray, List.set_cons_zero, List.set_cons_succ]
            refine wpAnyS_skip (i := 18) (by as_aux_lemma => kernel_rfl) (by as_aux_lemma => kernel_rfl) (by as_aux_lemma => kernel_rfl) (by as_aux_lemma => kernel_rfl) (by as_aux_lemma => kernel_rfl) (by as_aux_lemma => kernel_rfl) (by as_aux_lemma => kernel_rfl) (by as_aux_lemma => kernel_rfl) (by intro c a d v w h; cases d <;> exact h) hSS (fun oi hoi => ?_)
            simp only [List.getElem?_toArray, List.getElem?_cons_zero, List.getElem?_cons_succ, Option.some.injEq] at hoi; subst hoi
            refine ⟨by rfl, ?_⟩
            try simp only [Act.put, List.setIfInBounds_toArray, List.set_cons_zero, List.set_cons_succ]
            refine wpAnyS_skip (i := 19) (by as_aux_lemma => kernel_rfl) (by as_aux_lemma => kernel_rfl) (by as_aux_lemma => kernel_rfl) (by as_aux_lemma => kernel_rfl) (by as_aux_lemma => kernel_rfl) (by as_aux_lemma => kernel_rfl) (by as_aux_lemma => kernel_rfl) (by as_aux_lemma => kernel_rfl) (by intro c a d v w h; cases d <;> exact h) hSS (fun oi hoi => ?_)
            simp only [List.getElem?_toArray, List.getElem?_cons_zero, List.getElem?_cons_succ, Option.some.injEq] at hoi; subst hoi
            refine ⟨by rfl, ?_⟩
            try simp only [Act.put, List.setIfInBounds_toArray, List.set_cons_zero, List.set_cons_succ]
            refine wpAnyS_skip (i := 20) (by as_aux_lemma => kernel_rfl) (by as_aux_lemma => kernel_rfl) (by as_aux_lemma => kernel_rfl) (by as_aux_lemma => kernel_rfl) (by as_aux_lemma => kernel_rfl) (by as_aux_lemma => kernel_rfl) (by as_aux_lemma => kernel_rfl) (by as_aux_lemma => kernel_rfl) (by intro c a d v w h; cases d <;> exact h) hSS (fun oi hoi => ?_)
            simp only [List.getElem?_toArray, List.getElem?_cons_zero, List.getElem?_cons_succ, Option.some.injEq] at hoi; subst hoi
            refine ⟨by rfl, ?_⟩
            try simp only [Act.put, List.setIfInBounds_toArray, List.set_cons_zero, List.set_cons_succ]
            refine wpAnyS_skip (i := 21) (by as_aux_lemma => kernel_rfl) (by as_aux_lemma => kernel_rfl) (by as_aux_lemma => kernel_rfl) (by as_aux_lemma => kernel_rfl) (by as_aux_lemma => kernel_rfl) (by as_aux_lemma => kernel_rfl) (by as_aux_lemma => kernel_rfl) (by as_aux_lemma => kernel_rfl) (by intro c a d v w h; cases d <;> exact h) hSS (fun oi hoi => ?_)
            simp only [List.getElem?_toArray, List.getElem?_cons_zero, List.getElem?_cons_succ, Option.some.injEq] at hoi; subst hoi
            refine ⟨by rfl, ?_⟩
            try simp only [Act.put, List.setIfInBounds_toArray, List.set_cons_zero, List.set_cons_succ]
            refine wpAnyS_skip (i := 22) (by as_aux_lemma => kernel_rfl) (by as_aux_lemma => kernel_rfl) (by as_aux_lemma => kernel_rfl) (by as_aux_lemma => kernel_rfl) (by as_aux_lemma => kernel_rfl) (by as_aux_lemma => kernel_rfl) (by as_aux_lemma => kernel_rfl) (by as_aux_lemma => kernel_rfl) (by intro c a d v w h; cases d <;> exact h) hSS (fun oi hoi => ?_)
            simp only [List.getElem?_toArray, List.getElem?_cons_zero, List.getElem?_cons_succ, Option.some.injEq] at hoi; subst hoi
            refine ⟨by rfl, ?_⟩
            try simp only [Act.put, List.setIfInBounds_toArray, List.set_cons_zero, List.set_cons_succ]
            refine wpAnyS_skip (i := 23) (by as_aux_lemma => kernel_rfl) (by as_aux_lemma => kernel_rfl) (by as_aux_lemma => kernel_rfl) (by as_aux_lemma => kernel_rfl) (by as_aux_lemma => kernel_rfl) (by as_aux_lemma => kernel_rfl) (by as_aux_lemma => kernel_rfl) (by as_aux_lemma => kernel_rfl) (by intro c a d v w h; cases d <;> exact h) hSS (fun oi hoi => ?_)
            simp only [List.getElem?_toArray, List.getElem?_cons_zero, List.getElem?_cons_succ, Option.some.injEq] at hoi; subst hoi
            refine ⟨by rfl, ?_⟩
            try simp only [Act.put, List.setIfInBounds_toArray, List.set_cons_zero, List.set_cons_succ]
            refine wpAnyS_skip (i := 24) (by as_aux_lemma => kernel_rfl) (by as_aux_lemma => kernel_rfl) (by as_aux_lemma => kernel_rfl) (by as_aux_lemma => kernel_rfl) (by as_aux_lemma => kernel_rfl) (by as_aux_lemma => kernel_rfl) (by as_aux_lemma => kernel_rfl) (by as_aux_lemma => kernel_rfl) (by intro c a d v w h; cases d <;> exact h) hSS (fun oi hoi => ?_)
            simp only [List.getElem?_toArray, List.getElem?_cons_zero, List.getElem?_cons_succ, Option.some.injEq] at hoi; subst hoi
            refine ⟨by rfl, ?_⟩
            try simp only [Act.put, List.setIfInBounds_toArray, List.set_cons_zero, List.set_cons_succ]
            refine wpAnyS_take (i := 25) (by as_aux_lemma => kernel_rfl) (by as_aux_lemma => kernel_rfl) (by as_aux_lemma => kernel_rfl) (by as_aux_lemma => kernel_rfl) (by as_aux_lemma => kernel_rfl) (by as_aux_lemma => kernel_rfl) (by as_aux_lemma => kernel_rfl) (by as_aux_lemma => kernel_rfl) (by intro c a d v w h; cases d <;> exact h) hSS (fun oi hoi => ?_)
            simp only [List.getElem?_toArray, List.getElem?_cons_zero, List.getElem?_cons_succ, Option.some.injEq] at hoi; subst hoi
            refine ⟨?_, by rfl, fun wx hSx => ?_, ?_⟩
            rotate_left
            · obtain ⟨s1, s2, s3, s4, s5, s6, s7⟩ := hSx
              go_simp
              try with_reducible rfl
            try simp only [Act.put, List.setIfInBounds_toArray, List.set_cons_zero, List.set_cons_succ]
            refine wpAnyS_one (i := 26) (by as_aux_lemma => kernel_rfl) ?_
            intro oi hoi K hK
            simp only [List.getElem?_toArray, List.getElem?_cons_zero, List.getElem?_cons_succ, Option.some.injEq] at hoi; subst hoi
            go_simp
            refine hK.out _ _ (fun h => absurd h (by decide)) ?_
            clear hK K
            try simp only [Act.put, List.setIfInBounds_toArray, List.set_cons_zero, List.set_cons_succ]
            refine wpAnyS_done (by as_aux_lemma => kernel_rfl) ?_ _
            all_goals
              (go_wp2
               go_roundw
               case rel => exact ⟨k + 1, by omega, by go_num, Lib.hid (by first | exact HW.out _ htz | exact (HW.out _ htz).drew)⟩
               case measure => simp [intOf]; omega)
        · have hke : k = m := by omega
          subst hke
          have hlen : ys.length = A.length + (B.length + 1) := by rw [HX.out]; simp
          have hwz : IntKind.i64.wrap ((A.length : Int) + 1) = (A.length : Int) + 1 := by rw [IntKind.wrap_i64]; omega
          have HE : Hid (Hp w0 wr (Bkt vo kb n (.slice (some ⟨g, 0, none⟩) ys.length c) :: Rows_ (.slice (some ⟨g, 0, none⟩) ys.length c) ys :: (ys.map Gx ++ r))) := Lib.hid (by
            have h1 : Hp w0 wr (Gx x :: Bkt vo kb n (.slice (some ⟨g, 0, none⟩) ys.length c) :: Rows_ (.slice (some ⟨g, 0, none⟩) ys.length c) ys :: (A.map Gx ++ B.map Gx ++ r)) := by
              unfold Gx; rw [HLV.out, ← HM.out]; exact hH.out.tail
            have e : ys.map Gx = A.map Gx ++ Gx x :: B.map Gx := by rw [HX.out]; simp
            rw [e]
            exact h1.perm perm_in.symm)
          have c1 : ¬ (k : Int) < (k : Int) := by omega
          clear hlen hH b0 b2
          go_wp2
          go_roundw
          case rel => exact ⟨A ++ [x], B, Lib.hid (by rw [HX.out]; simp), by rw [List.length_append, List.length_singleton]; go_num, Lib.hid (by first | exact HE.out | exact HE.out.drew)⟩
          case measure => have := HX.out; simp [intOf]; have h2 := congrArg List.length this; simp at h2; omega
end BkI
end Go.Proofs.YtijkkompnfpdeaaGreatDoor
