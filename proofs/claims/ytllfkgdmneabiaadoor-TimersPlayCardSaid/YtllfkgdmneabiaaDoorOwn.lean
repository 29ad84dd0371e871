/- A row of one's own, and a block as it is, among other things in memory; things in whatever order. -/
import Derived.Test.YtllfkgdmneabiaaDoorHp
import Derived.Maps.AppendAt
import Derived.Laws.OwnMore
import Derived.Deep.Onto
set_option linter.unusedVariables false
set_option linter.unusedSimpArgs false
namespace Go.Proofs.YtllfkgdmneabiaaDoor
open Go.RowKit Go.Shelf

theorem Hp.alloc {w0 w : World} {r : List Thing} (h : Hp w0 w r) (o : Obj) : Hp w0 (w.alloc o) r := h.read ((Tch.refl _ _).alloc _)
theorem Hp.drewN {w0 w : World} {r : List Thing} (h : Hp w0 w r) (n : Nat) : Hp w0 (w.drewN n) r := h.read ((Tch.refl _ _).drewN n)
theorem Hp.below_read {w0 w w' : World} {r : List Thing} (h : Hp w0 w r) (hb : Below w.heap.size w w') : Hp w0 w' r :=
  h.read ⟨hb.os, hb.tape, hb.output, hb.size, fun k hk _ => hb.block k hk⟩
theorem Lay.swap {n : Nat} {w : World} {X : Nat → Prop} {a b : Thing} {l : List Thing} (h : Lay n w X (a :: b :: l)) : Lay n w X (b :: a :: l) := by
  obtain ⟨S, h1, h2, S', h1', h2', h3⟩ := h
  exact ⟨S', h1', fun k hk => ⟨(h2' k hk).1, fun h => (h2' k hk).2 (Or.inl h)⟩, S, h1, fun k hk => ⟨(h2 k hk).1, fun h => h.elim (h2 k hk).2 (fun h => (h2' k h).2 (Or.inr hk))⟩, Lay.mono h3 (fun k _ h => by rcases h with (h | h) | h <;> simp_all)⟩
theorem Lay.pull {n : Nat} {w : World} {t : Thing} : ∀ {l : List Thing} {k : Nat} {X : Nat → Prop}, Lay n w X l → l[k]? = some t → Lay n w X (t :: l.eraseIdx k)
  | [], k, X, _, h => by simp at h
  | a :: l, 0, X, h, e => by simp at e; subst e; exact h
  | a :: l, k + 1, X, ⟨S, h1, h2, h3⟩, e => Lay.swap ⟨S, h1, h2, Lay.pull h3 (by simpa using e)⟩
/-- A thing is brought to the front. -/
theorem Hp.pull {w0 w : World} {l : List Thing} {t : Thing} (h : Hp w0 w l) (k : Nat) (e : l[k]? = some t) : Hp w0 w (t :: l.eraseIdx k) := ⟨h.below, h.lay.pull e⟩
theorem Lay.perm {n : Nat} {w : World} {l l' : List Thing} (p : l.Perm l') : ∀ {X : Nat → Prop}, Lay n w X l → Lay n w X l' := by
  induction p with
  | nil => intro X h; exact h
  | cons a _ ih => rintro X ⟨S, h1, h2, h3⟩; exact ⟨S, h1, h2, ih h3⟩
  | swap a b l => intro X h; exact h.swap
  | trans _ _ i1 i2 => intro X h; exact i2 (i1 h)
/-- In whatever order. -/
theorem Hp.perm {w0 w : World} {l l' : List Thing} (h : Hp w0 w l) (p : l.Perm l') : Hp w0 w l' := ⟨h.below, h.lay.perm p⟩

/-- A block as it is. -/
def Blk (b : Nat) (o : Obj) : Thing where
  at_ w S := w.heap[b]? = some o ∧ S = fun k => k = b
  lt := by rintro w S ⟨h, rfl⟩ k rfl; exact blk_lt h
  keeps := by
    rintro w w' S T ⟨h, rfl⟩ ht hn
    exact ⟨(ht.block b (blk_lt h) (hn b rfl)).trans h, rfl⟩
theorem blk_new {w0 w : World} {r : List Thing} (h : Hp w0 w r) (o : Obj) : Hp w0 (w.alloc o) (Blk w.heap.size o :: r) :=
  h.add ((Tch.refl _ w).alloc _) (U := fun k => k = w.heap.size) ⟨blk_alloc_new w _, rfl⟩ (fun k hk => by subst hk; exact Nat.le_refl _)
theorem blk_get {w0 w : World} {r : List Thing} {b : Nat} {o : Obj} (h : Hp w0 w (Blk b o :: r)) : w.heap[b]? = some o := by
  obtain ⟨S, ⟨h1, _⟩, _⟩ := h.lay
  exact h1
theorem tch_set {w : World} {b : Nat} (o : Nat) (u : Value) : Tch (fun k => k = b) w (w.setCell ⟨b, o, none⟩ u) :=
  ⟨rfl, rfl, rfl, by simp [World.setCell], fun k hk hn => blk_setCell_other _ _ hn⟩
/-- One of its cells is written. -/
theorem blk_set {w0 w : World} {r : List Thing} {b : Nat} {cur : Array Value} {e : TypeId} {f : Nat × Nat} (h : Hp w0 w (Blk b (.cells cur e f) :: r)) (o : Nat) (u : Value) : Hp w0 (w.setCell ⟨b, o, none⟩ u) (Blk b (.cells (cur.setIfInBounds o u) e f) :: r) := by
  obtain ⟨S, ⟨h1, rfl⟩, h2, h3⟩ := h.lay
  exact Hp.step (t' := Blk b (.cells (cur.setIfInBounds o u) e f)) (S := fun k => k = b) (S' := fun k => k = b) h.below (fun k hk => (h2 k hk).1) h3 (tch_set o u) ⟨blk_setCell h1 o u, rfl⟩ (fun k hk => Or.inl hk)

/-- A row of one's own. -/
def Own (e : TypeId) (size : Nat) (v : Value) (n : Nat) (cs : List Value) : Thing where
  at_ w S := w.ownsRow 0 e size v n cs ∧ S = fun k => v.ownBlock = some k
  lt := by rintro w S ⟨h, rfl⟩ k hk; exact (h.lt k hk).2
  keeps := by
    rintro w w' S T ⟨h, rfl⟩ ht hn
    refine ⟨?_, rfl⟩
    rcases h with ⟨h0, h1 | ⟨g, cap, cur, rfl, h2, h3, h4⟩⟩
    · exact ⟨h0, Or.inl h1⟩
    · exact ⟨h0, Or.inr ⟨g, cap, cur, rfl, h2, (ht.block g (blk_lt h3) (hn g rfl)).trans h3, h4⟩⟩
theorem own_get {w0 w : World} {r : List Thing} {e : TypeId} {size : Nat} {v : Value} {n : Nat} {cs : List Value} (h : Hp w0 w (Own e size v n cs :: r)) : w.ownsRow 0 e size v n cs := by
  obtain ⟨S, ⟨h1, _⟩, _⟩ := h.lay
  exact h1
theorem own_nil {w0 w : World} {r : List Thing} (h : Hp w0 w r) (e : TypeId) (size : Nat) : Hp w0 w (Own e size (.slice none 0 0) 0 [] :: r) :=
  h.add (Tch.refl _ w) (U := fun k => (Value.slice none 0 0).ownBlock = some k) ⟨World.ownsRow_nil _ _ _ _, rfl⟩ (fun k hk => by cases hk)
theorem own_new {w0 w w' : World} {r : List Thing} {e : TypeId} {size : Nat} {v : Value} {n : Nat} {cs : List Value} (h : Hp w0 w r) (ht : Tch Nil w w') (ho : w'.ownsRow w.heap.size e size v n cs) : Hp w0 w' (Own e size v n cs :: r) :=
  h.add ht (U := fun k => v.ownBlock = some k) ⟨ho.mono (Nat.zero_le _), rfl⟩ (fun k hk => (ho.lt k hk).1)
/-- It has grown, in its own block or into a new one. -/
theorem own_turn {w0 w w' : World} {r : List Thing} {e : TypeId} {size : Nat} {v v' : Value} {n n' : Nat} {cs cs' : List Value} (h : Hp w0 w (Own e size v n cs :: r)) (hg : w.grownBy w' v.ownBlock) (ho : w'.ownsRow 0 e size v' n' cs') (hl : v'.ownBlock = v.ownBlock ∨ v'.ownBlock = some w.heap.size) : Hp w0 w' (Own e size v' n' cs' :: r) := by
  obtain ⟨S, ⟨h1, rfl⟩, h2, h3⟩ := h.lay
  refine Hp.step (t' := Own e size v' n' cs') (S := fun k => v.ownBlock = some k) (S' := fun k => v'.ownBlock = some k) h.below (fun k hk => (h2 k hk).1) h3 ⟨hg.os, hg.tape, hg.output, hg.size, fun k hk hn => hg.block k hk (fun e => hn e.symm)⟩ ⟨ho, rfl⟩ (fun k hk => ?_)
  rcases hl with hl | hl
  · exact Or.inl (by rw [← hl]; exact hk)
  · rw [hl] at hk; injection hk with hk; exact Or.inr (by omega)
/-- One of its cells is written. -/
theorem own_set {w0 w : World} {r : List Thing} {e : TypeId} {size g n cap : Nat} {cs : List Value} (h : Hp w0 w (Own e size (.slice (some ⟨g, 0, none⟩) n cap) n cs :: r)) (j : Nat) (u : Value) (hj : j < n * size) : Hp w0 (w.setCell ⟨g, j, none⟩ u) (Own e size (.slice (some ⟨g, 0, none⟩) n cap) n (cs.set j u) :: r) := by
  obtain ⟨S, ⟨h1, rfl⟩, h2, h3⟩ := h.lay
  refine Hp.step (t' := Own e size (.slice (some ⟨g, 0, none⟩) n cap) n (cs.set j u)) (S := fun k => (Value.slice (some ⟨g, 0, none⟩) n cap).ownBlock = some k) (S' := fun k => (Value.slice (some ⟨g, 0, none⟩) n cap).ownBlock = some k) h.below (fun k hk => (h2 k hk).1) h3 ((tch_set j u).mono (fun k _ hk => by subst hk; rfl)) ⟨?_, rfl⟩ (fun k hk => Or.inl hk)
  exact (h1.stored j u).1
theorem own_cell {w0 w : World} {r : List Thing} {e : TypeId} {size : Nat} {v : Value} {n : Nat} {cs : List Value} (h : Hp w0 w (Own e size v n cs :: r)) (j : Nat) (u : Value) (hj : cs[j]? = some u) : ∃ g cap, v = .slice (some ⟨g, 0, none⟩) n cap ∧ w.cell? ⟨g, j, none⟩ = some u := by
  have ho := own_get h
  obtain ⟨hlt, _⟩ := List.getElem?_eq_some_iff.1 hj
  rcases ho with ⟨h0, ⟨rfl, rfl⟩ | ⟨g, cap, cur, rfl, h2, h3, h4⟩⟩
  · rw [h0] at hlt; omega
  · refine ⟨g, cap, rfl, ?_⟩
    have := (own_get h).cells (g := g) rfl j u hj
    rwa [show (⟨g, 0, none⟩ : Addr).add j = ⟨g, 0 + j, none⟩ from Addr.add_lit g 0 j, Nat.zero_add] at this
theorem own_slice {w0 w : World} {r : List Thing} {e : TypeId} {size : Nat} {v : Value} {n : Nat} {cs : List Value} (h : Hp w0 w (Own e size v n cs :: r)) : ∃ a c, v = .slice a n c := by
  rcases own_get h with ⟨h0, ⟨rfl, rfl⟩ | ⟨g, cap, cur, rfl, _⟩⟩ <;> exact ⟨_, _, rfl⟩

/-- A row of ints. -/
abbrev OwnI (v : Value) (zs : List Int) : Thing := Own 3 1 v zs.length (zs.map (Value.int .i64))
theorem ints_of_own {w : World} {v : Value} {zs : List Int} {S : Nat → Prop} (h : (OwnI v zs).at_ w S) : (Ints v zs).at_ w S := by
  obtain ⟨h1, rfl⟩ := h
  have hc := h1
  rcases h1 with ⟨h0, ⟨rfl, h2⟩ | ⟨g, cap, cur, rfl, h2, h3, h4⟩⟩
  · exact Or.inl ⟨rfl, List.length_eq_zero_iff.1 h2, by funext k; simp [Value.ownBlock]⟩
  · refine Or.inr ⟨g, 0, cap, _, rfl, h3, fun j hj => ?_, by funext k; simp [Value.ownBlock, eq_comm]⟩
    have := hc.cells (g := g) rfl j (.int .i64 zs[j]) (by simp [hj])
    rwa [Addr.add_lit] at this
theorem same_o {w0 w : World} {r : List Thing} {u v : Value} {us vs : List Int} (h : Hp w0 w (OwnI u us :: OwnI v vs :: r)) (hu : us.length < 100000) (hv : vs.length < 100000) :
    Calls Tryd.prog 12 #[u, v] w fun e w' => e = .returned (.bool (decide (us = vs))) ∧ Hp w0 w' (OwnI u us :: OwnI v vs :: r) := by
  obtain ⟨S, h1, _, T, h2, _⟩ := h.lay
  refine (same_c w u v us vs S T (ints_of_own h1) (ints_of_own h2) hu hv).mono ?_
  rintro e w' ⟨rfl, ht⟩
  exact ⟨rfl, h.read ht⟩

theorem tick_o {w0 w : World} {r : List Thing} {b : Nat} {l : List (Int × Int)} (h : Hp w0 w (Slp b l :: r)) (ho : Ok l) (hl : l.length < 99999) :
    Calls Tryd.prog 23 #[.pointer (some ⟨b, 0, none⟩)] w fun e w' => ∃ v, e = .returned v ∧ Hp w0 w' (OwnI v (wake l) :: Slp b (less l) :: r) := by
  obtain ⟨S, ⟨xs, e, go, hD, rfl⟩, h2, h3⟩ := h.lay
  have hg := good_of e ho
  have hn := len_of e
  obtain ⟨t1, t2⟩ := ab_tick e ho
  have fin : ∀ e w', TickPost w b go (((dec xs 1).take (wk (dec xs 1))).map Prod.fst) ((dec xs 1).drop (wk (dec xs 1))) e w' → ∃ v, e = .returned v ∧ Hp w0 w' (OwnI v (wake l) :: Slp b (less l) :: r) := by
    rintro e' w' ⟨v, rfl, ho, hd, ht, hv⟩
    rw [t1] at ho hv
    exact ⟨v, rfl, Hp.step_add (t' := Slp b (less l)) (u := OwnI v (wake l)) h.below (fun k hk => (h2 k hk).1) (fun k hk => by rcases hk with rfl | rfl; exact hD.lt; exact hD.glt) h3 ht ⟨_, t2, go, hd, rfl⟩ ⟨ho.mono (Nat.zero_le _), rfl⟩ (fun k hk => (ho.lt k hk).1)⟩
  cases xs with
  | nil => exact (tick_none w b go hD).mono fin
  | cons x xs =>
    cases go with
    | none => obtain ⟨v, _, h2⟩ := hD.ex; cases h2.2
    | some g => exact (tick_some w b g x xs hD hg (by omega)).mono fin

end Go.Proofs.YtllfkgdmneabiaaDoor
