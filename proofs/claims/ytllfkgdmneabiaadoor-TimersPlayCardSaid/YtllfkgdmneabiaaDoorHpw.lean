/- Laws for the walk, over things in memory: an append to a row of one's own. No program in sight. -/
import Derived.Test.YtllfkgdmneabiaaDoorOwn
set_option linter.unusedVariables false
set_option linter.unusedSimpArgs false
namespace Go.Proofs.YtllfkgdmneabiaaDoor
open Go.RowKit Go.Shelf

theorem Hp.drew {w0 w : World} {r : List Thing} (h : Hp w0 w r) : Hp w0 w.drew r := h.read (Tch.refl _ _).drew
theorem wpList_append_hp {P : Program} {w0 w : World} {ops : Array Oper} {rest : List Oper} {o : Oper} {a : Act} {Q : Exit → Act → World → Prop} (hgd : o.guard = none) (s x : Operand) (t : TypeId)
    (ho : o.op = .call { callee := .builtin .append, args := #[s, x], argTypes := #[t, t] })
    (e : TypeId) (i : TypeInfo) (z : Value) (size bytes : Nat) (ht : P.underlying t = some (.slice e)) (hi : P.info? e = some i) (hz : i.zero = some z)
    (hsize : i.size = size) (hby : i.bytes = bytes) (hzs : z.cells.size = size) (hsz : 0 < size)
    {v : Value} {n : Nat} {xs : List Value} {r : List Thing} (H : Hp w0 w (Own e size v n xs :: r)) (hs : a.eval s = v)
    (ad : Addr) (m c : Nat) (news : List Value) (hx : a.eval x = .slice (some ad) m c) (hl : news.length = m * size) (hnews : ∀ j u, news[j]? = some u → w.cell? (ad.add j) = some u) (h1 : ∀ u ∈ news, u.oneCell' = true)
    (h63 : n + m ≤ 1000000) (hb : bytes ≤ 1000000)
    (h : ∀ v' w', Hp w0 w' (Own e size v' (n + m) (xs ++ news) :: r) → wpList P ops Q rest (a.put o.dst v') w') :
    wpList P ops Q (o :: rest) a w := by
  refine wpList_append_own_at w hgd s x t ho 0 e i z size bytes ht hi hz hsize hby hzs hsz v n xs hs (own_get H) ad m c news hx hl hnews h1 (by unfold maxLen; omega) ?_ (Nat.zero_le _) ?_
  · have : (n + m) * bytes ≤ 1000000 * 1000000 := Nat.mul_le_mul h63 hb
    omega
  · intro v' w' h2 h3 _ h5
    exact h v' w' (own_turn H h3 h2 h5)
/-- The source is nil. -/
theorem own_as {w0 w : World} {e : TypeId} {size : Nat} {v : Value} {n n' : Nat} {xs xs' : List Value} {r : List Thing} (H : Hp w0 w (Own e size v n xs :: r)) (h1 : n = n') (h2 : xs = xs') : Hp w0 w (Own e size v n' xs' :: r) := by
  subst h1; subst h2; exact H
theorem size_alloc1 (w : World) (o : Obj) : w.heap.size + 1 = (w.alloc o).heap.size := by simp
theorem size_alloc2 (w : World) (o o' : Obj) : w.heap.size + 1 + 1 = ((w.alloc o).alloc o').heap.size := by simp
theorem cell_one_at (w : World) (x : Value) (t : TypeId) (n : Nat) (h : n = w.heap.size) : ∀ j u, [x][j]? = some u → (w.alloc (.cells #[x] t)).cell? ((⟨n, 0, none⟩ : Addr).add j) = some u := by
  subst h; exact cell_one_new w x t

/-! ### Things of things. -/
/-- Some thing of several, of which something holds. -/
def Ex {α : Type} (p : α → Prop) (T : α → Thing) : Thing where
  at_ w S := ∃ x, p x ∧ (T x).at_ w S
  lt := by rintro w S ⟨x, _, h⟩; exact (T x).lt h
  keeps := by rintro w w' S U ⟨x, hp, h⟩ ht hn; exact ⟨x, hp, (T x).keeps h ht hn⟩
theorem Hp.ex {w0 w : World} {α : Type} {p : α → Prop} {T : α → Thing} {r : List Thing} (h : Hp w0 w (Ex p T :: r)) : ∃ x, p x ∧ Hp w0 w (T x :: r) := by
  obtain ⟨S, ⟨x, hp, h1⟩, h2, h3⟩ := h.lay
  exact ⟨x, hp, h.below, S, h1, h2, h3⟩
theorem Hp.mkEx {w0 w : World} {α : Type} {p : α → Prop} {T : α → Thing} {r : List Thing} (x : α) (hp : p x) (h : Hp w0 w (T x :: r)) : Hp w0 w (Ex p T :: r) := by
  obtain ⟨S, h1, h2, h3⟩ := h.lay
  exact ⟨h.below, S, ⟨x, hp, h1⟩, h2, h3⟩
/-- Several things as one. -/
def Alls (l : List Thing) : Thing where
  at_ w S := Lay 0 w (fun k => w.heap.size ≤ k ∨ ¬ S k) l ∧ ∀ k, S k → k < w.heap.size
  lt := by rintro w S ⟨_, h⟩; exact h
  keeps := by
    rintro w w' S U ⟨h, hs⟩ ht hn
    refine ⟨?_, fun k hk => Nat.lt_of_lt_of_le (hs k hk) ht.size⟩
    refine Lay.mono (Lay.keeps (T := fun k => U k ∨ w.heap.size ≤ k) (w := w) ⟨ht.os, ht.tape, ht.output, ht.size, fun k hk hn => ht.block k hk (fun h => hn (Or.inl h))⟩ h (fun k hk => ?_)) (fun k hk h' => ?_)
    · rcases hk with hk | hk
      · exact Or.inr (fun h' => hn k h' hk)
      · exact Or.inl hk
    · rcases h' with h' | h'
      · exact absurd hk (by omega)
      · exact Or.inr h'
theorem Lay.weak {n m : Nat} {w : World} : ∀ {l : List Thing} {X Y : Nat → Prop}, Lay n w X l → (∀ k, k < w.heap.size → (Y k → X k) ∧ (n ≤ k → ¬ X k → m ≤ k)) → Lay m w Y l
  | [], _, _, _, _ => trivial
  | t :: r, X, Y, ⟨S, h1, h2, h3⟩, hx => ⟨S, h1, fun k hk => ⟨(hx k (t.lt h1 k hk)).2 (h2 k hk).1 (h2 k hk).2, fun h => (h2 k hk).2 ((hx k (t.lt h1 k hk)).1 h)⟩,
      Lay.weak h3 (fun k hk => ⟨fun h => h.elim (fun h => Or.inl ((hx k hk).1 h)) Or.inr, fun h4 h5 => (hx k hk).2 h4 (fun h => h5 (Or.inl h))⟩)⟩
/-- The blocks of what lies first, and the rest. -/
theorem Lay.split {n : Nat} {w : World} : ∀ {l r : List Thing} {X : Nat → Prop}, Lay n w X (l ++ r) → ∃ S : Nat → Prop, (∀ k, S k → n ≤ k ∧ ¬ X k ∧ k < w.heap.size) ∧ Lay n w (fun k => X k ∨ ¬ S k) l ∧ Lay n w (fun k => X k ∨ S k) r
  | [], r, X, h => ⟨fun _ => False, fun _ f => f.elim, trivial, Lay.mono h (fun k _ h => h.elim id False.elim)⟩
  | t :: l, r, X, ⟨S, h1, h2, h3⟩ => by
    obtain ⟨U, u1, u2, u3⟩ := Lay.split h3
    refine ⟨fun k => S k ∨ U k, fun k hk => ?_, ⟨S, h1, fun k hk => ⟨(h2 k hk).1, fun h => h.elim (h2 k hk).2 (fun h => h (Or.inl hk))⟩, ?_⟩, Lay.mono u3 (fun k _ h => ?_)⟩
    · rcases hk with hk | hk
      · exact ⟨(h2 k hk).1, (h2 k hk).2, t.lt h1 k hk⟩
      · exact ⟨(u1 k hk).1, fun h => (u1 k hk).2.1 (Or.inl h), (u1 k hk).2.2⟩
    · refine Lay.mono u2 (fun k _ h => ?_)
      rcases h with (h | h) | h
      · exact Or.inl (Or.inl h)
      · exact Or.inr (fun h' => h (Or.inr h'))
      · exact Or.inl (Or.inr h)
    · rcases h with h | h | h
      · exact Or.inl (Or.inl h)
      · exact Or.inl (Or.inr h)
      · exact Or.inr h
theorem Lay.join {n : Nat} {w : World} : ∀ {l r : List Thing} {X S : Nat → Prop}, Lay n w (fun k => X k ∨ ¬ S k) l → Lay n w (fun k => X k ∨ S k) r → Lay n w X (l ++ r)
  | [], r, X, S, _, h => Lay.mono h (fun k _ h => Or.inl h)
  | t :: l, r, X, S, ⟨U, h1, h2, h3⟩, h => by
    refine ⟨U, h1, fun k hk => ⟨(h2 k hk).1, fun h => (h2 k hk).2 (Or.inl h)⟩, Lay.join (S := S) (Lay.mono h3 (fun k _ h => ?_)) (Lay.mono h (fun k hk h' => ?_))⟩
    · rcases h with (h | h) | h
      · exact Or.inl (Or.inl h)
      · exact Or.inr h
      · exact Or.inl (Or.inr h)
    · rcases h' with (h' | h') | h'
      · exact Or.inl h'
      · by_cases hs : S k
        · exact Or.inr hs
        · exact absurd (Or.inr hs) (h2 k h').2
      · exact Or.inr h'
theorem Hp.unAlls {w0 w : World} {l r : List Thing} (h : Hp w0 w (Alls l :: r)) : Hp w0 w (l ++ r) := by
  obtain ⟨S, ⟨h1, h1'⟩, h2, h3⟩ := h.lay
  refine ⟨h.below, Lay.join (S := S) (Lay.weak h1 (fun k hk => ⟨fun h => h.elim False.elim Or.inr, fun _ hn => ?_⟩)) h3⟩
  by_cases hs : S k
  · exact (h2 k hs).1
  · exact absurd (Or.inr hs) hn
theorem Hp.alls {w0 w : World} {l r : List Thing} (h : Hp w0 w (l ++ r)) : Hp w0 w (Alls l :: r) := by
  obtain ⟨S, h1, h2, h3⟩ := h.lay.split
  exact ⟨h.below, S, ⟨Lay.weak h2 (fun k hk => ⟨fun h => h.elim (fun h => by omega) Or.inr, fun _ _ => Nat.zero_le _⟩), fun k hk => (h1 k hk).2.2⟩, fun k hk => ⟨(h1 k hk).1, id⟩, h3⟩
end Go.Proofs.YtllfkgdmneabiaaDoor
