/- Things that lie in memory, each in blocks of its own; what a call on one of them does to the others: nothing. -/
import Derived.Test.YtllfkgdmneabiaaDoorAll
set_option linter.unusedVariables false
set_option linter.unusedSimpArgs false
namespace Go.Proofs.YtllfkgdmneabiaaDoor
open Go.RowKit Go.Shelf
attribute [local go_sem] Oper.semAt_some

/-- What lies in some blocks, and is us it was while these are. -/
structure Thing where
  at_ : World → (Nat → Prop) → Prop
  lt : ∀ {w : World} {S : Nat → Prop}, at_ w S → ∀ k, S k → k < w.heap.size
  keeps : ∀ {w w' : World} {S T : Nat → Prop}, at_ w S → Tch T w w' → (∀ k, S k → ¬ T k) → at_ w' S

/-- Things, each apart from the others and from X, all from block n on. -/
def Lay (n : Nat) (w : World) : (Nat → Prop) → List Thing → Prop
  | _, [] => True
  | X, t :: r => ∃ S : Nat → Prop, t.at_ w S ∧ (∀ k, S k → n ≤ k ∧ ¬ X k) ∧ Lay n w (fun k => X k ∨ S k) r

theorem Lay.mono {n : Nat} {w : World} : ∀ {l : List Thing} {X X' : Nat → Prop}, Lay n w X l → (∀ k, k < w.heap.size → X' k → X k) → Lay n w X' l
  | [], _, _, _, _ => trivial
  | t :: r, X, X', ⟨S, h1, h2, h3⟩, hx => ⟨S, h1, fun k hk => ⟨(h2 k hk).1, fun h => (h2 k hk).2 (hx k (t.lt h1 k hk) h)⟩, Lay.mono h3 (fun k hk h => h.elim (fun h => Or.inl (hx k hk h)) Or.inr)⟩
theorem Lay.keeps {n : Nat} {w w' : World} {T : Nat → Prop} (ht : Tch T w w') : ∀ {l : List Thing} {X : Nat → Prop}, Lay n w X l → (∀ k, T k → X k) → Lay n w' X l
  | [], _, _, _ => trivial
  | t :: r, X, ⟨S, h1, h2, h3⟩, hx => ⟨S, t.keeps h1 ht (fun k hk h => (h2 k hk).2 (hx k h)), h2, Lay.keeps ht h3 (fun k h => Or.inl (hx k h))⟩

structure Hp (w0 w : World) (l : List Thing) : Prop where
  below : Below w0.heap.size w0 w
  lay : Lay w0.heap.size w (fun _ => False) l

theorem Hp.start (w : World) : Hp w w [] := ⟨Below.refl _ _, trivial⟩
theorem Hp.read {w0 w w' : World} {l : List Thing} (h : Hp w0 w l) (ht : Tch Nil w w') : Hp w0 w' l :=
  ⟨h.below.trans (ht.below h.below.size (fun _ _ f => f)), Lay.keeps ht h.lay (fun _ f => f.elim)⟩
theorem Hp.tail {w0 w : World} {t : Thing} {l : List Thing} (h : Hp w0 w (t :: l)) : Hp w0 w l := by
  obtain ⟨S, h1, h2, h3⟩ := h.lay
  exact ⟨h.below, Lay.mono h3 (fun _ _ f => f.elim)⟩
theorem Hp.up1 {w0 w : World} {a b : Thing} {l : List Thing} (h : Hp w0 w (a :: b :: l)) : Hp w0 w (b :: a :: l) := by
  obtain ⟨S, h1, h2, S', h1', h2', h3⟩ := h.lay
  exact ⟨h.below, S', h1', fun k hk => ⟨(h2' k hk).1, id⟩, S, h1, fun k hk => ⟨(h2 k hk).1, fun h => h.elim id (fun h => (h2' k h).2 (Or.inr hk))⟩, Lay.mono h3 (fun k _ h => by rcases h with (h | h) | h <;> simp_all)⟩
/-- A call on the first thing. -/
theorem Hp.step {w0 w w' : World} {t' : Thing} {l : List Thing} {S S' : Nat → Prop} (h : Below w0.heap.size w0 w) (h2 : ∀ k, S k → w0.heap.size ≤ k) (h3 : Lay w0.heap.size w (fun k => False ∨ S k) l) (ht : Tch S w w') (h' : t'.at_ w' S') (hs : ∀ k, S' k → S k ∨ w.heap.size ≤ k) : Hp w0 w' (t' :: l) := by
  have hsz := h.size
  refine ⟨h.trans (ht.below h.size (fun k hk hS => by have := h2 k hS; omega)), S', h', fun k hk => ⟨?_, id⟩, ?_⟩
  · rcases hs k hk with h | h
    · exact h2 k h
    · omega
  · refine Lay.keeps (T := S) ht (Lay.mono h3 (X' := fun k => S' k ∨ S k) ?_) (fun k h => Or.inr h) |>.mono ?_
    · intro k hk h
      rcases h with h | h
      · rcases hs k h with h | h
        · exact Or.inr h
        · omega
      · exact Or.inr h
    · intro k _ h
      rcases h with h | h
      · exact h.elim
      · exact Or.inl h
/-- A new thing. -/
theorem Hp.add {w0 w w' : World} {u : Thing} {l : List Thing} {U : Nat → Prop} (h : Hp w0 w l) (ht : Tch Nil w w') (h' : u.at_ w' U) (hu : ∀ k, U k → w.heap.size ≤ k) : Hp w0 w' (u :: l) := by
  have hsz := h.below.size
  refine ⟨(h.read ht).below, U, h', fun k hk => ⟨by have := hu k hk; omega, id⟩, ?_⟩
  exact (Lay.keeps ht (Lay.mono h.lay (X' := fun k => False ∨ U k) (fun k hk h => by rcases h with h | h; exact h; have := hu k h; omega)) (fun _ f => f.elim))
/-- A call on the first thing, and a new one that it makes. -/
theorem Hp.step_add {w0 w w' : World} {t' u : Thing} {l : List Thing} {S U : Nat → Prop} (h : Below w0.heap.size w0 w) (h2 : ∀ k, S k → w0.heap.size ≤ k) (hlt : ∀ k, S k → k < w.heap.size) (h3 : Lay w0.heap.size w (fun k => False ∨ S k) l) (ht : Tch S w w') (h' : t'.at_ w' S)
    (hu' : u.at_ w' U) (hu : ∀ k, U k → w.heap.size ≤ k) : Hp w0 w' (u :: t' :: l) := by
  have hsz := h.size
  refine ⟨h.trans (ht.below h.size (fun k hk hS => by have := h2 k hS; omega)), U, hu', fun k hk => ⟨by have := hu k hk; omega, id⟩, S, h', fun k hk => ⟨h2 k hk, fun h => h.elim id (fun h => by have := hu k h; have := hlt k hk; omega)⟩, ?_⟩
  refine Lay.keeps (T := S) ht (Lay.mono h3 (X' := fun k => (False ∨ U k) ∨ S k) ?_) (fun k h => Or.inr h)
  intro k hk h
  rcases h with (h | h) | h
  · exact h.elim
  · have := hu k h; omega
  · exact Or.inr h

/-- A list of sleepers. -/
def Lst (b : Nat) (xs : List (Int × Int)) : Thing where
  at_ w S := ∃ go, DL w b go xs ∧ S = fun k => k = b ∨ go = some k
  lt := by
    rintro w S ⟨go, h, rfl⟩ k (rfl | rfl)
    · exact h.lt
    · exact h.glt
  keeps := by
    rintro w w' S T ⟨go, h, rfl⟩ ht hn
    exact ⟨go, h.keeps ht (hn b (Or.inl rfl)) (fun g e => hn g (Or.inr e)), rfl⟩

/-- A slice of ints. -/
def Ints (v : Value) (zs : List Int) : Thing where
  at_ w S := (v = .slice none 0 0 ∧ zs = [] ∧ S = fun _ => False) ∨
    ∃ g off c o, v = .slice (some ⟨g, off, none⟩) zs.length c ∧ w.heap[g]? = some o ∧ (∀ j (h : j < zs.length), w.cell? ⟨g, off + j, none⟩ = some (.int .i64 zs[j])) ∧ S = fun k => k = g
  lt := by
    rintro w S (⟨_, _, rfl⟩ | ⟨g, off, c, o, _, h, _, rfl⟩) k hk
    · exact hk.elim
    · subst hk; exact blk_lt h
  keeps := by
    rintro w w' S T (⟨h1, h2, rfl⟩ | ⟨g, off, c, o, h1, h, h2, rfl⟩) ht hn
    · exact Or.inl ⟨h1, h2, rfl⟩
    · have hb := ht.block g (blk_lt h) (hn g rfl)
      exact Or.inr ⟨g, off, c, o, h1, hb.trans h, fun j hj => (World.cell?_of_block (a := ⟨g, off + j, none⟩) hb).trans (h2 j hj), rfl⟩

theorem ints_of_owns {w : World} {n t : Nat} {v : Value} {zs : List Int} (h : w.ownsRow n t 1 v zs.length (zs.map (Value.int .i64))) : ∃ U, (Ints v zs).at_ w U ∧ ∀ k, U k → n ≤ k := by
  rcases h.2 with ⟨h1, h2⟩ | ⟨g, cap, cur, h1, h2, h3, h4⟩
  · exact ⟨_, Or.inl ⟨h1, List.length_eq_zero_iff.1 h2, rfl⟩, fun _ f => f.elim⟩
  · refine ⟨_, Or.inr ⟨g, 0, cap, _, h1, h3, fun j hj => ?_, rfl⟩, fun k hk => by subst hk; exact h2⟩
    have := h.cells (g := g) (by rw [h1]; rfl) j (.int .i64 zs[j]) (by simp [hj])
    rwa [Addr.add_lit] at this

set_option maxHeartbeats 1000000 in
set_option maxRecDepth 20000 in
theorem same_c (w : World) (u v : Value) (us bs : List Int) (S T : Nat → Prop) (h : (Ints u us).at_ w S) (k : (Ints v bs).at_ w T) (hl : us.length < 100000) (kl : bs.length < 100000) :
    Calls Tryd.prog 12 #[u, v] w fun e w' => e = .returned (.bool (decide (us = bs))) ∧ Tch Nil w w' := by
  have hu : ∃ a c, u = .slice a us.length c := by rcases h with ⟨rfl, rfl, _⟩ | ⟨g, off, c, o, rfl, _⟩ <;> exact ⟨_, _, rfl⟩
  have hv : ∃ a c, v = .slice a bs.length c := by rcases k with ⟨rfl, rfl, _⟩ | ⟨g, off, c, o, rfl, _⟩ <;> exact ⟨_, _, rfl⟩
  have HU : ∀ j (hj : j < us.length), ∃ g off c, u = .slice (some ⟨g, off, none⟩) us.length c ∧ w.cell? ⟨g, off + j, none⟩ = some (.int .i64 us[j]) := by
    rcases h with ⟨rfl, rfl, _⟩ | ⟨g, off, c, o, h1, _, h2, _⟩
    · intro j hj; simp at hj
    · exact fun j hj => ⟨g, off, c, h1, h2 j hj⟩
  have HV : ∀ j (hj : j < bs.length), ∃ g off c, v = .slice (some ⟨g, off, none⟩) bs.length c ∧ w.cell? ⟨g, off + j, none⟩ = some (.int .i64 bs[j]) := by
    rcases k with ⟨rfl, rfl, _⟩ | ⟨g, off, c, o, h1, _, h2, _⟩
    · intro j hj; simp at hj
    · exact fun j hj => ⟨g, off, c, h1, h2 j hj⟩
  obtain ⟨a1, c1, rfl⟩ := hu
  obtain ⟨a2, c2, rfl⟩ := hv
  have HU := Lib.hid HU
  have HV := Lib.hid HV
  clear h k
  go_enter Tryd.func12, Tryd.ntmps12
  by_cases hn : us.length = bs.length
  · have e1 : ((us.length : Int) == (bs.length : Int)) = true := by simp [hn]
    go_wp2
    go_loopw [5] (fun i wr => ∃ k : Nat, k ≤ us.length ∧ i = .int .i64 k ∧ us.take k = bs.take k ∧ wr.heap = w.heap ∧ Tch Nil w wr) (fun i _ => us.length - (intOf i).toNat)
    case atStart => exact ⟨0, Nat.zero_le _, rfl, rfl, rfl, Tch.refl _ _⟩
    case round =>
      obtain ⟨k, hk, rfl, htk, hh, ht⟩ := hrel
      by_cases hlt : k < us.length
      · have hlt2 : k < bs.length := by omega
        obtain ⟨g, off, c, h1, h2⟩ := HU.out k hlt
        obtain ⟨g', off', c', h1', h2'⟩ := HV.out k hlt2
        cases h1
        cases h1'
        have h3 := (World.cell?_of_block (a := ⟨g, off + k, none⟩) (w := w) (w' := wr) (by rw [hh])).trans h2
        have h3' := (World.cell?_of_block (a := ⟨g', off' + k, none⟩) (w := w) (w' := wr) (by rw [hh])).trans h2'
        clear h2 h2'
        have c1 : (k : Int) < (us.length : Int) := by omega
        by_cases he : us[k] = bs[k]
        · have ht2 : us.take (k + 1) = bs.take (k + 1) := by rw [List.take_succ_eq_append_getElem hlt, List.take_succ_eq_append_getElem hlt2, htk, he]
          go_wp2
          go_quiet (fail)
          go_wp2
          go_roundw
          case rel => exact ⟨k + 1, by omega, by go_num, ht2, hh, ht.drewN _⟩
          case measure => simp [intOf]; omega
        · have hd : decide (us = bs) = false := by simp; intro h; subst h; exact he rfl
          have e2 : (us[k] != bs[k]) = true := by simpa using he
          go_wp2
          go_quiet (fail)
          go_wp2
          go_ret
          exact ⟨by first | (rw [hd]; rfl) | rfl, ht.drewN _⟩
      · have c1 : ¬ (k : Int) < (us.length : Int) := by omega
        have hd : decide (us = bs) = true := by simp; have := hk; rw [List.take_of_length_le (by omega), List.take_of_length_le (by omega)] at htk; exact htk
        go_wp2
        go_ret
        exact ⟨by first | (rw [hd]; rfl) | rfl, ht⟩
  · have e1 : ((us.length : Int) == (bs.length : Int)) = false := by simp; omega
    have hd : decide (us = bs) = false := by simp; intro h; subst h; exact hn rfl
    go_wp2
    go_ret
    exact ⟨by first | (rw [hd]; rfl) | rfl, Tch.refl _ _⟩
end Go.Proofs.YtllfkgdmneabiaaDoor
