/- The book of lists that were answered: what is common. -/
import Derived.Test.YtcfoljdpffonhaaGreatDoorLf
import Derived.Test.YtcfoljdpffonhaaGreatDoorJb
import Derived.Deep.AppendLies
import Derived.Deep.DeepAppendRoom
import Derived.Deep.RegionLaw
import Derived.Deep.RegionHeld3
import Derived.Deep.CutRange
import Derived.Deep.Light
import Derived.BigQuiet
import Derived.StillTailTactics
import Derived.Laws.AppendOwn
import Derived.Deep.QuietTactic
set_option linter.unusedVariables false
set_option linter.unusedSimpArgs false
namespace Go.Proofs.YtcfoljdpffonhaaGreatDoor
open Go.RowKit Go.Shelf
attribute [local go_sem] Oper.semAt_some
/-- An append to a row that grows leaves the old row as it was. -/
theorem run_append_keep {P : Program} (w : World) (base : Nat) (t ty e : TypeId) (i : TypeInfo) (z : Value) (size bytes : Nat) (ht : P.underlying t = some (.slice e)) (hi : P.info? e = some i) (hz : i.zero = some z)
    (hsize : i.size = size) (hby : i.bytes = bytes) (hzs : z.cells.size = size) (hsz : 0 < size)
    (v : Value) (n : Nat) (xs : List Value) (hown : w.ownsRow base e size v n xs)
    (a : Addr) (m c : Nat) (news : List Value) (hl : news.length = m * size) (hnews : ∀ j u, news[j]? = some u → w.cell? (a.add j) = some u) (h1 : ∀ u ∈ news, u.oneCell' = true)
    (h63 : n + m ≤ maxLen) (hbytes : (n + m) * bytes ≤ 140737488355328) (hbase : base ≤ w.heap.size) :
    ∃ v' w', (Builtin.append_ #[t, t] ty #[v, .slice (some a) m c]).run P w = .ok v' w' ∧ w'.ownsRow base e size v' (n + m) (xs ++ news) ∧ w.grownBy w' v.ownBlock ∧
      (v'.ownBlock = v.ownBlock ∨ (v'.ownBlock = some w.heap.size ∧ w.grownBy w' none)) := by
  obtain ⟨v', w', hr, h2, h3, h4, h5⟩ := run_append_own_at (P := P) w base t ty e i z size bytes ht hi hz hsize hby hzs hsz v n xs hown a m c news hl hnews h1 h63 hbytes hbase
  refine ⟨v', w', hr, h2, h3, ?_⟩
  rcases h5 with h5 | h5
  · exact Or.inl h5
  · rcases hown.2 with ⟨rfl, rfl⟩ | ⟨g, cap, cur, rfl, hbg, hg, hnc, hcm, hcs, htake⟩
    · exact Or.inr ⟨h5, h3⟩
    · by_cases hroom : n + m ≤ cap
      · obtain ⟨w2, hr2, h22, h23⟩ := run_append_own_spare (P := P) w base t ty e i size ht hi hsize g n cap xs hown a m c news hl hnews h1 hroom
        rw [hr] at hr2
        injection hr2 with e1 e2
        subst e1
        exact Or.inl rfl
      · subst hsize
        subst hby
        have hsmall : n + m ≤ 9223372036854775807 := by simp only [maxLen] at h63; omega
        have holds : ∀ j u, xs[j]? = some u → w.cell? ((⟨g, 0, none⟩ : Addr).add j) = some u := hown.cells (g := g) rfl
        have hr2 := run_append_grow (P := P) w t ty e i z ht hi hz ⟨g, 0, none⟩ n cap xs hown.1 holds a m c news hl hnews (by omega) (by omega) (growslice_fits (by omega) hbytes)
        rw [hr] at hr2
        injection hr2 with e1 e2
        subst e2
        exact Or.inr ⟨h5, rfl, rfl, rfl, by simp, fun k hk _ => Below.heap_alloc w.drew _ k hk⟩

theorem wpList_append_keep {P : Program} (w : World) {ops : Array Oper} {rest : List Oper} {o : Oper} {a : Act} {Q : Exit → Act → World → Prop} (hgd : o.guard = none) (s x : Operand) (t : TypeId)
    (ho : o.op = .call { callee := .builtin .append, args := #[s, x], argTypes := #[t, t] })
    (base : Nat) (e : TypeId) (i : TypeInfo) (z : Value) (size bytes : Nat) (ht : P.underlying t = some (.slice e)) (hi : P.info? e = some i) (hz : i.zero = some z)
    (hsize : i.size = size) (hby : i.bytes = bytes) (hzs : z.cells.size = size) (hsz : 0 < size)
    (v : Value) (n : Nat) (xs : List Value) (hs : a.eval s = v) (hown : w.ownsRow base e size v n xs)
    (ad : Addr) (m c : Nat) (news : List Value) (hx : a.eval x = .slice (some ad) m c) (hl : news.length = m * size) (hnews : ∀ j u, news[j]? = some u → w.cell? (ad.add j) = some u) (h1 : ∀ u ∈ news, u.oneCell' = true)
    (h63 : n + m ≤ maxLen) (hbytes : (n + m) * bytes ≤ 140737488355328) (hbase : base ≤ w.heap.size)
    (h : ∀ v' w', w'.ownsRow base e size v' (n + m) (xs ++ news) → w.grownBy w' v.ownBlock → (v'.ownBlock = v.ownBlock ∨ (v'.ownBlock = some w.heap.size ∧ w.grownBy w' none)) → wpList P ops Q rest (a.put o.dst v') w') :
    wpList P ops Q (o :: rest) a w := by
  refine wpList_plain hgd fun K hK => ?_
  obtain ⟨v', w', hr, h2, h3, h4⟩ := run_append_keep (P := P) w base t o.type e i z size bytes ht hi hz hsize hby hzs hsz v n xs hown ad m c news hl hnews h1 h63 hbytes hbase
  unfold Oper.wp execOp
  simp only [ho, resolve, invoke, builtin, Sem.run_bind, Sem.run_pure, Result.andThen_ok, List.map_toArray, List.map_cons, List.map_nil, hs, hx, hr]
  exact hK _ _ (h v' w' h2 h3 h4)

/-- The first thing, told otherwise. -/
theorem Hp.as {w0 w : World} {t t' : Thing} {r : List Thing} (h : Hp w0 w (t :: r)) (e : ∀ S, t.at_ w S → t'.at_ w S) : Hp w0 w (t' :: r) := by
  obtain ⟨S, h1, h2, h3⟩ := h.lay
  exact ⟨h.below, S, e S h1, h2, h3⟩

/-- A list of the book: the slice, how long it is, its number. -/
structure Hl where
  v : Value
  n : Nat
  q : Int
/-- A row of the book: the list, the long one, the number. -/
structure Hr where
  l : Hl
  long : Value
def hrc (x : Hr) : List Value := [x.l.v, x.long, .int .i64 x.l.q]
def hc (xs : List Hr) : List Value := xs.flatMap hrc
theorem hc_len (xs : List Hr) : (hc xs).length = xs.length * 3 := by
  induction xs with
  | nil => rfl
  | cons x r ih => simp only [hc, List.flatMap_cons, List.length_append, List.length_cons] at ih ⊢; rw [ih]; simp [hrc]; omega
theorem hc_app (xs ys : List Hr) : hc (xs ++ ys) = hc xs ++ hc ys := by simp [hc]
theorem hc_at (A B : List Hr) (x : Hr) (i : Nat) (h : A.length = i) (o : Nat) (ho : o < 3) : (hc (A ++ x :: B))[i * 3 + o]? = (hrc x)[o]? := by
  rw [hc_app, List.getElem?_append_right (by rw [hc_len, h]; omega), hc_len, h]
  rw [show i * 3 + o - i * 3 = o by omega]
  show (hc (x :: B))[o]? = _
  have : hc (x :: B) = hrc x ++ hc B := rfl
  rw [this, List.getElem?_append_left (by simp [hrc]; omega)]
theorem hc_set (A B : List Hr) (x : Hr) (i : Nat) (h : A.length = i) (v : Value) : (hc (A ++ x :: B)).set (i * 3 + 1) v = hc (A ++ ⟨x.l, v⟩ :: B) := by
  rw [hc_app, hc_app, List.set_append_right _ _ (by rw [hc_len, h]; omega), hc_len, h, show i * 3 + 1 - i * 3 = 1 by omega]
  rfl
theorem perm_in {a b t : Thing} {X Y r : List Thing} : (a :: b :: (X ++ (t :: Y) ++ r)).Perm (t :: a :: b :: (X ++ Y ++ r)) := by
  have := List.perm_middle (a := t) (l₁ := a :: b :: X) (l₂ := Y ++ r)
  simpa using this

theorem own_shape {w : World} {B : Nat} {e : TypeId} {size : Nat} {v : Value} {n : Nat} {xs : List Value} (h : w.ownsRow B e size v n xs) : ∃ a c, v = .slice a n c := by
  rcases h.2 with ⟨e, e2⟩ | ⟨g, cap, cur, e, _⟩
  · exact ⟨none, 0, by rw [e, e2]⟩
  · exact ⟨_, _, e⟩
abbrev nil_ (h : Hl) : Hr := ⟨h, .slice none 0 0⟩
end Go.Proofs.YtcfoljdpffonhaaGreatDoor
