/- Memory by blocks: what a call may have touched; a block that holds known cells; a slice that lies in one block. No program in sight. Things that lie in memory, each in blocks of its own (a small logic of what a call leaves alone); rows of one's own; things of things. No program in sight. What a call makes beside what was there; what lies in memory as it came. No program in sight. -/
import Derived.WalkKit
import Derived.WalkSpells
import Derived.Lib.Hide
import Derived.Lib.SliceRun
import Derived.Lib.Overlaps
import Derived.Lib.AppendZerosOnto
import Derived.Laws.IdiomCopy
import Derived.Deep.Upon
import Derived.Deep.Draws
import Derived.Maps.AppendAt
import Derived.Laws.OwnMore
import Derived.Deep.Onto
namespace Go.Proofs.YtijkkompnfpdeaaGreatDoor
open Go.RowKit

/-- Of what lay in memory only blocks of S may have turned. -/
structure Tch (S : Nat → Prop) (w w' : World) : Prop where
  os : w'.os = w.os
  tape : w'.tape = w.tape
  output : w'.output = w.output
  size : w.heap.size ≤ w'.heap.size
  block : ∀ k, k < w.heap.size → ¬ S k → w'.heap[k]? = w.heap[k]?

theorem Tch.refl (S : Nat → Prop) (w : World) : Tch S w w := ⟨rfl, rfl, rfl, Nat.le_refl _, fun _ _ _ => rfl⟩
theorem Tch.mono {S T : Nat → Prop} {w w' : World} (h : Tch S w w') (hs : ∀ k, k < w.heap.size → S k → T k) : Tch T w w' :=
  ⟨h.os, h.tape, h.output, h.size, fun k hk hn => h.block k hk fun hS => hn (hs k hk hS)⟩
/-- Two steps: what the second may turn is of S, or new since the first began. -/
theorem Tch.trans {S T : Nat → Prop} {a b c : World} (h : Tch S a b) (k : Tch T b c) (ht : ∀ i, i < a.heap.size → T i → S i) : Tch S a c :=
  ⟨k.os.trans h.os, k.tape.trans h.tape, k.output.trans h.output, Nat.le_trans h.size k.size, fun i hi hn => (k.block i (Nat.lt_of_lt_of_le hi h.size) fun hT => hn (ht i hi hT)).trans (h.block i hi hn)⟩
theorem Tch.alloc {S : Nat → Prop} {a w : World} (h : Tch S a w) (o : Obj) : Tch S a (w.alloc o) :=
  h.trans (T := fun _ => False) ⟨rfl, rfl, rfl, by simp, fun k hk _ => Below.heap_alloc _ _ _ hk⟩ (fun _ _ f => f.elim)
theorem Tch.drew {S : Nat → Prop} {a w : World} (h : Tch S a w) : Tch S a w.drew := ⟨h.os, h.tape, h.output, h.size, h.block⟩
theorem Tch.drewN {S : Nat → Prop} {a w : World} (h : Tch S a w) (n : Nat) : Tch S a (w.drewN n) := ⟨h.os, h.tape, h.output, h.size, h.block⟩
theorem Tch.setCell {S : Nat → Prop} {a w : World} (h : Tch S a w) {p : Addr} (hp : p.block < a.heap.size → S p.block) (u : Value) : Tch S a (w.setCell p u) :=
  h.trans (T := fun k => k = p.block) ⟨rfl, rfl, rfl, by simp [World.setCell], fun k _ hn => Below.heap_setCell _ _ _ _ hn⟩ (fun i hi e => by subst e; exact hp hi)
theorem Tch.setCells {S : Nat → Prop} {a w : World} (h : Tch S a w) {b o : Nat} (hp : b < a.heap.size → S b) (us : List Value) : Tch S a (w.setCells b o us) := by
  induction us generalizing o w with
  | nil => exact h
  | cons u r ih => exact ih (h.setCell (p := ⟨b, o, none⟩) hp u)
theorem Tch.grown {S : Nat → Prop} {a w w' : World} {row : Option Nat} (h : Tch S a w) (hg : w.grownBy w' row) (hr : ∀ k, row = some k → k < a.heap.size → S k) : Tch S a w' :=
  h.trans (T := fun k => row = some k) ⟨hg.os, hg.tape, hg.output, hg.size, fun k hk hn => hg.block k hk fun e => hn e.symm⟩ (fun i hi e => hr i e hi)
theorem Tch.of_below {B : Nat} {w w' : World} (h : Below B w w') : Tch (fun k => B ≤ k) w w' := ⟨h.os, h.tape, h.output, h.size, fun k _ hn => h.block k (by omega)⟩
theorem Tch.below {S : Nat → Prop} {w w' : World} (h : Tch S w w') {B : Nat} (hB : B ≤ w.heap.size) (hs : ∀ k, k < B → ¬ S k) : Below B w w' :=
  ⟨h.os, h.tape, h.output, h.size, fun k hk => h.block k (by omega) (hs k hk)⟩
theorem Tch.cell {S : Nat → Prop} {w w' : World} (h : Tch S w w') {p : Addr} (hp : p.block < w.heap.size) (hn : ¬ S p.block) : w'.cell? p = w.cell? p := World.cell?_of_block (w := w) (h.block p.block hp hn)

/-- No block that lay here has turned. -/
abbrev Nil : Nat → Prop := fun _ => False

theorem blk_lt {w : World} {b : Nat} {o : Obj} (h : w.heap[b]? = some o) : b < w.heap.size := (Array.getElem?_eq_some_iff.1 h).1
theorem Tch.keeps {S : Nat → Prop} {w w' : World} (h : Tch S w w') {b : Nat} {o : Obj} (hb : w.heap[b]? = some o) (hn : ¬ S b) : w'.heap[b]? = some o := (h.block b (blk_lt hb) hn).trans hb

theorem cell_blk {w : World} {b : Nat} {cur : Array Value} {e : TypeId} {f : Nat × Nat} (h : w.heap[b]? = some (.cells cur e f)) (o : Nat) : w.cell? ⟨b, o, none⟩ = cur[o]? := by simp [World.cell?, h]
theorem free_blk {w : World} {b : Nat} {cur : Array Value} {e : TypeId} (h : w.heap[b]? = some (.cells cur e (0, 0))) (o : Nat) : w.frozen? ⟨b, o, none⟩ = false := by simp [World.frozen?, h]
theorem shape_blk {w : World} {b : Nat} {cur : Array Value} {e : TypeId} {f : Nat × Nat} (h : w.heap[b]? = some (.cells cur e f)) : w.shape? b = some (e, cur.size) := by simp [World.shape?, h]
theorem blk_drewN {w : World} (n b : Nat) : (w.drewN n).heap[b]? = w.heap[b]? := rfl
theorem blk_drew {w : World} (b : Nat) : w.drew.heap[b]? = w.heap[b]? := rfl
theorem blk_alloc_new (w : World) (o : Obj) : (w.alloc o).heap[w.heap.size]? = some o := by
  show (w.heap.push o)[w.heap.size]? = _
  simp
theorem blk_alloc_old {w : World} {b : Nat} {o : Obj} (o' : Obj) (h : w.heap[b]? = some o) : (w.alloc o').heap[b]? = some o := (Below.heap_alloc w o' b (blk_lt h)).trans h
theorem blk_setCell {w : World} {b : Nat} {cur : Array Value} {e : TypeId} {f : Nat × Nat} (h : w.heap[b]? = some (.cells cur e f)) (o : Nat) (u : Value) :
    (w.setCell ⟨b, o, none⟩ u).heap[b]? = some (.cells (cur.setIfInBounds o u) e f) := by
  simp [World.setCell, Array.getElem?_modify, h]
theorem blk_setCell_other {w : World} {b : Nat} (p : Addr) (u : Value) (h : b ≠ p.block) : (w.setCell p u).heap[b]? = w.heap[b]? := Below.heap_setCell _ _ _ _ h

/-- Cells laid one behind the other. -/
def laid (cur : Array Value) (o : Nat) : List Value → Array Value
  | [] => cur
  | v :: r => laid (cur.setIfInBounds o v) (o + 1) r
theorem laid_size (vs : List Value) : ∀ (cur : Array Value) (o : Nat), (laid cur o vs).size = cur.size := by
  induction vs with
  | nil => intros; rfl
  | cons v r ih => intro cur o; rw [laid, ih, Array.size_setIfInBounds]
theorem laid_get (vs : List Value) : ∀ (cur : Array Value) (o k : Nat), o + vs.length ≤ cur.size → (laid cur o vs)[k]? = if o ≤ k ∧ k < o + vs.length then vs[k - o]? else cur[k]? := by
  induction vs with
  | nil => intro cur o k _; rw [laid, if_neg (by simp)]
  | cons v r ih =>
    intro cur o k hl
    simp only [List.length_cons] at hl
    rw [laid, ih _ _ _ (by rw [Array.size_setIfInBounds]; omega)]
    by_cases h1 : k = o
    · subst h1
      rw [if_neg (by omega), if_pos (by simp), Array.getElem?_setIfInBounds_self_of_lt (by omega)]
      simp
    · rw [Array.getElem?_setIfInBounds_ne (by omega)]
      by_cases h2 : o ≤ k ∧ k < o + (v :: r).length
      · simp only [List.length_cons] at h2
        rw [if_pos (by omega), if_pos (by simp; omega), show k - o = (k - (o + 1)) + 1 by omega, List.getElem?_cons_succ]
      · simp only [List.length_cons] at h2
        rw [if_neg (by omega), if_neg (by simp; omega)]
theorem blk_setCells (vs : List Value) : ∀ {w : World} {b : Nat} {cur : Array Value} {e : TypeId} {f : Nat × Nat} (_ : w.heap[b]? = some (.cells cur e f)) (o : Nat),
    (w.setCells b o vs).heap[b]? = some (.cells (laid cur o vs) e f) := by
  induction vs with
  | nil => intro w b cur e f h o; exact h
  | cons v r ih => intro w b cur e f h o; exact ih (blk_setCell h o v) (o + 1)
theorem blk_setCells_other (vs : List Value) {b g : Nat} (hne : b ≠ g) : ∀ (w : World) (o : Nat), (w.setCells g o vs).heap[b]? = w.heap[b]? := by
  induction vs with
  | nil => intros; rfl
  | cons v r ih => intro w o; exact (ih _ _).trans (blk_setCell_other _ _ hne)

/-- 'copy' between slices of elements of any size. -/
theorem run_copy_cells_n {P : Program} (w : World) (dT sT ty elem : TypeId) (sz : Nat) (b o dLen dCap : Nat) (a : Addr) (sLen sCap : Nat) (cs : List Value)
    (hu : P.underlying dT = some (.slice elem)) (hs : (P.info? elem).map (·.size) = some sz) (hn : cs.length = Nat.min sLen dLen * sz)
    (hsrc : ∀ j v, cs[j]? = some v → w.cell? (a.add j) = some v) (hc : ∀ j, j < cs.length → (w.cell? ⟨b, o + j, none⟩).isSome = true) (hf : ∀ j, j < cs.length → w.frozen? ⟨b, o + j, none⟩ = false) (h1 : ∀ v ∈ cs, v.oneCell' = true) :
    (Builtin.copy_ #[dT, sT] ty #[.slice (some ⟨b, o, none⟩) dLen dCap, .slice (some a) sLen sCap]).run P w = .ok (goInt (Nat.min sLen dLen)) (w.setCells b o cs) := by
  have hl := run_loadCells_list (P := P) w a cs hsrc
  have hst := run_storeCells_cells (P := P) b o cs 0 w (by simpa using hc) (by simpa using hf) h1
  cases hq : P.info? elem with
  | none => simp [hq] at hs
  | some i =>
    have hi : i.size = sz := by simpa [hq] using hs
    simp [Builtin.copy_, run_underlying hu, Builtin.lenOf, Builtin.firstCells, sizeOf, typeInfo, hq, hi, ← hn, hl, hst]

theorem wp_copy_runI {P : Program} (w : World) {o : Oper} {a : Act} {K : Act → World → Prop} {Q : Exit → Act → World → Prop} (d s : Operand) (t t' : TypeId)
    (ho : o.op = .call { callee := .builtin .copy, args := #[d, s], argTypes := #[t, t'] }) (v u : Value) (hd : a.eval d = v) (hs : a.eval s = u) {v' : Value} {w' : World}
    (hr : (Builtin.copy_ #[t, t'] o.type #[v, u]).run P w = .ok v' w') (h : K (a.put o.dst v') w') : o.wp P a w K Q := by
  unfold Oper.wp execOp
  simp only [ho, resolve, invoke, builtin, Sem.run_bind, Sem.run_pure, Result.andThen_ok, List.map_toArray, List.map_cons, List.map_nil, hd, hs, hr]
  exact h
theorem wpList_copy_runI {P : Program} (w : World) {ops : Array Oper} {rest : List Oper} {o : Oper} {a : Act} {Q : Exit → Act → World → Prop} (hgd : o.guard = none) (d s : Operand) (t t' : TypeId)
    (ho : o.op = .call { callee := .builtin .copy, args := #[d, s], argTypes := #[t, t'] }) (v u : Value) (hd : a.eval d = v) (hs : a.eval s = u) {v' : Value} {w' : World}
    (hr : (Builtin.copy_ #[t, t'] o.type #[v, u]).run P w = .ok v' w') (h : wpList P ops Q rest (a.put o.dst v') w') : wpList P ops Q (o :: rest) a w :=
  wpList_plain hgd fun _ hK => wp_copy_runI w d s t t' ho v u hd hs hr (hK _ _ h)
theorem step_copy_runI {P : Program} {ops : Array Oper} {o : Oper} {a : Act} {w : World} {K : Act → World → Prop} {Q : Exit → Act → World → Prop} {E : Prop}
    (hg : o.guard = none) (d x : Operand) (dT sT : TypeId) (hop : o.op = Op.call { callee := Callee.builtin Builtin.copy, args := #[d, x], argTypes := #[dT, sT] })
    (v u : Value) (hd : a.eval d = v) (hx : a.eval x = u) {v' : Value} {w' : World} (hr : (Builtin.copy_ #[dT, sT] o.type #[v, u]).run P w = .ok v' w') (hK : K (a.put o.dst v') w') :
    if Region.wanted o (yielded ops a.tmps) = true then Oper.wp P o a w K Q else E := by
  have hw : Region.wanted o (yielded ops a.tmps) = true := by simp [Region.wanted, hg]
  rw [if_pos hw]
  unfold Oper.wp
  simp [execOp, hop, resolve, invoke, builtin, hd, hx, hr, Result.andThen]
  exact hK

end Go.Proofs.YtijkkompnfpdeaaGreatDoor
set_option linter.unusedVariables false
set_option linter.unusedSimpArgs false
namespace Go.Proofs.YtijkkompnfpdeaaGreatDoor
open Go.RowKit
attribute [local go_sem] Oper.semAt_some

theorem blk_alloc_at (w : World) (o : Obj) (n : Nat) (h : n = w.heap.size) : (w.alloc o).heap[n]? = some o := by subst h; exact blk_alloc_new w o
/-- What lies in some blocks, and is us it was while these are. -/
structure Thing where
  at_ : World → (Nat → Prop) → Prop
  lt : ∀ {w : World} {S : Nat → Prop}, at_ w S → ∀ k, S k → k < w.heap.size
  keeps : ∀ {w w' : World} {S T : Nat → Prop}, at_ w S → Tch T w w' → (∀ k, S k → ¬ T k) → at_ w' S

/-- Things, each apart from the others and from X, all from block n on. -/
def Lay (n : Nat) (w : World) : (Nat → Prop) → List Thing → Prop
  | _, [] => True
  | X, t :: r => ∃ S : Nat → Prop, t.at_ w S ∧ (∀ k, S k → n ≤ k ∧ ¬ X k) ∧ Lay n w (fun k => X k ∨ S k) r

theorem Lay.mono {n : Nat} {w : World} : ∀ {l : List Thing} {X X' : Nat → Prop}, Lay n w X l → (∀ k, k < w.heap.size → X' k → X k) → Lay n w X' l
  | [], _, _, _, _ => trivial
  | t :: r, X, X', ⟨S, h1, h2, h3⟩, hx => ⟨S, h1, fun k hk => ⟨(h2 k hk).1, fun h => (h2 k hk).2 (hx k (t.lt h1 k hk) h)⟩, Lay.mono h3 (fun k hk h => h.elim (fun h => Or.inl (hx k hk h)) Or.inr)⟩
theorem Lay.keeps {n : Nat} {w w' : World} {T : Nat → Prop} (ht : Tch T w w') : ∀ {l : List Thing} {X : Nat → Prop}, Lay n w X l → (∀ k, T k → X k) → Lay n w' X l
  | [], _, _, _ => trivial
  | t :: r, X, ⟨S, h1, h2, h3⟩, hx => ⟨S, t.keeps h1 ht (fun k hk h => (h2 k hk).2 (hx k h)), h2, Lay.keeps ht h3 (fun k h => Or.inl (hx k h))⟩

structure Hp (w0 w : World) (l : List Thing) : Prop where
  below : Below w0.heap.size w0 w
  lay : Lay w0.heap.size w (fun _ => False) l

theorem Hp.start (w : World) : Hp w w [] := ⟨Below.refl _ _, trivial⟩
theorem Hp.read {w0 w w' : World} {l : List Thing} (h : Hp w0 w l) (ht : Tch Nil w w') : Hp w0 w' l :=
  ⟨h.below.trans (ht.below h.below.size (fun _ _ f => f)), Lay.keeps ht h.lay (fun _ f => f.elim)⟩
theorem Hp.tail {w0 w : World} {t : Thing} {l : List Thing} (h : Hp w0 w (t :: l)) : Hp w0 w l := by
  obtain ⟨S, h1, h2, h3⟩ := h.lay
  exact ⟨h.below, Lay.mono h3 (fun _ _ f => f.elim)⟩
theorem Hp.up1 {w0 w : World} {a b : Thing} {l : List Thing} (h : Hp w0 w (a :: b :: l)) : Hp w0 w (b :: a :: l) := by
  obtain ⟨S, h1, h2, S', h1', h2', h3⟩ := h.lay
  exact ⟨h.below, S', h1', fun k hk => ⟨(h2' k hk).1, id⟩, S, h1, fun k hk => ⟨(h2 k hk).1, fun h => h.elim id (fun h => (h2' k h).2 (Or.inr hk))⟩, Lay.mono h3 (fun k _ h => by rcases h with (h | h) | h <;> simp_all)⟩
/-- A call on the first thing. -/
theorem Hp.step {w0 w w' : World} {t' : Thing} {l : List Thing} {S S' : Nat → Prop} (h : Below w0.heap.size w0 w) (h2 : ∀ k, S k → w0.heap.size ≤ k) (h3 : Lay w0.heap.size w (fun k => False ∨ S k) l) (ht : Tch S w w') (h' : t'.at_ w' S') (hs : ∀ k, S' k → S k ∨ w.heap.size ≤ k) : Hp w0 w' (t' :: l) := by
  have hsz := h.size
  refine ⟨h.trans (ht.below h.size (fun k hk hS => by have := h2 k hS; omega)), S', h', fun k hk => ⟨?_, id⟩, ?_⟩
  · rcases hs k hk with h | h
    · exact h2 k h
    · omega
  · refine Lay.keeps (T := S) ht (Lay.mono h3 (X' := fun k => S' k ∨ S k) ?_) (fun k h => Or.inr h) |>.mono ?_
    · intro k hk h
      rcases h with h | h
      · rcases hs k h with h | h
        · exact Or.inr h
        · omega
      · exact Or.inr h
    · intro k _ h
      rcases h with h | h
      · exact h.elim
      · exact Or.inl h
/-- A new thing. -/
theorem Hp.add {w0 w w' : World} {u : Thing} {l : List Thing} {U : Nat → Prop} (h : Hp w0 w l) (ht : Tch Nil w w') (h' : u.at_ w' U) (hu : ∀ k, U k → w.heap.size ≤ k) : Hp w0 w' (u :: l) := by
  have hsz := h.below.size
  refine ⟨(h.read ht).below, U, h', fun k hk => ⟨by have := hu k hk; omega, id⟩, ?_⟩
  exact (Lay.keeps ht (Lay.mono h.lay (X' := fun k => False ∨ U k) (fun k hk h => by rcases h with h | h; exact h; have := hu k h; omega)) (fun _ f => f.elim))
/-- A call on the first thing, and a new one that it makes. -/
theorem Hp.step_add {w0 w w' : World} {t' u : Thing} {l : List Thing} {S U : Nat → Prop} (h : Below w0.heap.size w0 w) (h2 : ∀ k, S k → w0.heap.size ≤ k) (hlt : ∀ k, S k → k < w.heap.size) (h3 : Lay w0.heap.size w (fun k => False ∨ S k) l) (ht : Tch S w w') (h' : t'.at_ w' S)
    (hu' : u.at_ w' U) (hu : ∀ k, U k → w.heap.size ≤ k) : Hp w0 w' (u :: t' :: l) := by
  have hsz := h.size
  refine ⟨h.trans (ht.below h.size (fun k hk hS => by have := h2 k hS; omega)), U, hu', fun k hk => ⟨by have := hu k hk; omega, id⟩, S, h', fun k hk => ⟨h2 k hk, fun h => h.elim id (fun h => by have := hu k h; have := hlt k hk; omega)⟩, ?_⟩
  refine Lay.keeps (T := S) ht (Lay.mono h3 (X' := fun k => (False ∨ U k) ∨ S k) ?_) (fun k h => Or.inr h)
  intro k hk h
  rcases h with (h | h) | h
  · exact h.elim
  · have := hu k h; omega
  · exact Or.inr h

theorem Hp.alloc {w0 w : World} {r : List Thing} (h : Hp w0 w r) (o : Obj) : Hp w0 (w.alloc o) r := h.read ((Tch.refl _ _).alloc _)
theorem Hp.drewN {w0 w : World} {r : List Thing} (h : Hp w0 w r) (n : Nat) : Hp w0 (w.drewN n) r := h.read ((Tch.refl _ _).drewN n)
theorem Hp.below_read {w0 w w' : World} {r : List Thing} (h : Hp w0 w r) (hb : Below w.heap.size w w') : Hp w0 w' r :=
  h.read ⟨hb.os, hb.tape, hb.output, hb.size, fun k hk _ => hb.block k hk⟩
theorem Lay.swap {n : Nat} {w : World} {X : Nat → Prop} {a b : Thing} {l : List Thing} (h : Lay n w X (a :: b :: l)) : Lay n w X (b :: a :: l) := by
  obtain ⟨S, h1, h2, S', h1', h2', h3⟩ := h
  exact ⟨S', h1', fun k hk => ⟨(h2' k hk).1, fun h => (h2' k hk).2 (Or.inl h)⟩, S, h1, fun k hk => ⟨(h2 k hk).1, fun h => h.elim (h2 k hk).2 (fun h => (h2' k h).2 (Or.inr hk))⟩, Lay.mono h3 (fun k _ h => by rcases h with (h | h) | h <;> simp_all)⟩
theorem Lay.pull {n : Nat} {w : World} {t : Thing} : ∀ {l : List Thing} {k : Nat} {X : Nat → Prop}, Lay n w X l → l[k]? = some t → Lay n w X (t :: l.eraseIdx k)
  | [], k, X, _, h => by simp at h
  | a :: l, 0, X, h, e => by simp at e; subst e; exact h
  | a :: l, k + 1, X, ⟨S, h1, h2, h3⟩, e => Lay.swap ⟨S, h1, h2, Lay.pull h3 (by simpa using e)⟩
/-- A thing is brought to the front. -/
theorem Hp.pull {w0 w : World} {l : List Thing} {t : Thing} (h : Hp w0 w l) (k : Nat) (e : l[k]? = some t) : Hp w0 w (t :: l.eraseIdx k) := ⟨h.below, h.lay.pull e⟩
theorem Lay.perm {n : Nat} {w : World} {l l' : List Thing} (p : l.Perm l') : ∀ {X : Nat → Prop}, Lay n w X l → Lay n w X l' := by
  induction p with
  | nil => intro X h; exact h
  | cons a _ ih => rintro X ⟨S, h1, h2, h3⟩; exact ⟨S, h1, h2, ih h3⟩
  | swap a b l => intro X h; exact h.swap
  | trans _ _ i1 i2 => intro X h; exact i2 (i1 h)
/-- In whatever order. -/
theorem Hp.perm {w0 w : World} {l l' : List Thing} (h : Hp w0 w l) (p : l.Perm l') : Hp w0 w l' := ⟨h.below, h.lay.perm p⟩

/-- A block as it is. -/
def Blk (b : Nat) (o : Obj) : Thing where
  at_ w S := w.heap[b]? = some o ∧ S = fun k => k = b
  lt := by rintro w S ⟨h, rfl⟩ k rfl; exact blk_lt h
  keeps := by
    rintro w w' S T ⟨h, rfl⟩ ht hn
    exact ⟨(ht.block b (blk_lt h) (hn b rfl)).trans h, rfl⟩
theorem blk_new {w0 w : World} {r : List Thing} (h : Hp w0 w r) (o : Obj) : Hp w0 (w.alloc o) (Blk w.heap.size o :: r) :=
  h.add ((Tch.refl _ w).alloc _) (U := fun k => k = w.heap.size) ⟨blk_alloc_new w _, rfl⟩ (fun k hk => by subst hk; exact Nat.le_refl _)
theorem blk_get {w0 w : World} {r : List Thing} {b : Nat} {o : Obj} (h : Hp w0 w (Blk b o :: r)) : w.heap[b]? = some o := by
  obtain ⟨S, ⟨h1, _⟩, _⟩ := h.lay
  exact h1
theorem tch_set {w : World} {b : Nat} (o : Nat) (u : Value) : Tch (fun k => k = b) w (w.setCell ⟨b, o, none⟩ u) :=
  ⟨rfl, rfl, rfl, by simp [World.setCell], fun k hk hn => blk_setCell_other _ _ hn⟩
/-- One of its cells is written. -/
theorem blk_set {w0 w : World} {r : List Thing} {b : Nat} {cur : Array Value} {e : TypeId} {f : Nat × Nat} (h : Hp w0 w (Blk b (.cells cur e f) :: r)) (o : Nat) (u : Value) : Hp w0 (w.setCell ⟨b, o, none⟩ u) (Blk b (.cells (cur.setIfInBounds o u) e f) :: r) := by
  obtain ⟨S, ⟨h1, rfl⟩, h2, h3⟩ := h.lay
  exact Hp.step (t' := Blk b (.cells (cur.setIfInBounds o u) e f)) (S := fun k => k = b) (S' := fun k => k = b) h.below (fun k hk => (h2 k hk).1) h3 (tch_set o u) ⟨blk_setCell h1 o u, rfl⟩ (fun k hk => Or.inl hk)

/-- A row of one's own. -/
def Own (e : TypeId) (size : Nat) (v : Value) (n : Nat) (cs : List Value) : Thing where
  at_ w S := w.ownsRow 0 e size v n cs ∧ S = fun k => v.ownBlock = some k
  lt := by rintro w S ⟨h, rfl⟩ k hk; exact (h.lt k hk).2
  keeps := by
    rintro w w' S T ⟨h, rfl⟩ ht hn
    refine ⟨?_, rfl⟩
    rcases h with ⟨h0, h1 | ⟨g, cap, cur, rfl, h2, h3, h4⟩⟩
    · exact ⟨h0, Or.inl h1⟩
    · exact ⟨h0, Or.inr ⟨g, cap, cur, rfl, h2, (ht.block g (blk_lt h3) (hn g rfl)).trans h3, h4⟩⟩
theorem own_get {w0 w : World} {r : List Thing} {e : TypeId} {size : Nat} {v : Value} {n : Nat} {cs : List Value} (h : Hp w0 w (Own e size v n cs :: r)) : w.ownsRow 0 e size v n cs := by
  obtain ⟨S, ⟨h1, _⟩, _⟩ := h.lay
  exact h1
theorem own_nil {w0 w : World} {r : List Thing} (h : Hp w0 w r) (e : TypeId) (size : Nat) : Hp w0 w (Own e size (.slice none 0 0) 0 [] :: r) :=
  h.add (Tch.refl _ w) (U := fun k => (Value.slice none 0 0).ownBlock = some k) ⟨World.ownsRow_nil _ _ _ _, rfl⟩ (fun k hk => by cases hk)
theorem own_new {w0 w w' : World} {r : List Thing} {e : TypeId} {size : Nat} {v : Value} {n : Nat} {cs : List Value} (h : Hp w0 w r) (ht : Tch Nil w w') (ho : w'.ownsRow w.heap.size e size v n cs) : Hp w0 w' (Own e size v n cs :: r) :=
  h.add ht (U := fun k => v.ownBlock = some k) ⟨ho.mono (Nat.zero_le _), rfl⟩ (fun k hk => (ho.lt k hk).1)
/-- It has grown, in its own block or into a new one. -/
theorem own_turn {w0 w w' : World} {r : List Thing} {e : TypeId} {size : Nat} {v v' : Value} {n n' : Nat} {cs cs' : List Value} (h : Hp w0 w (Own e size v n cs :: r)) (hg : w.grownBy w' v.ownBlock) (ho : w'.ownsRow 0 e size v' n' cs') (hl : v'.ownBlock = v.ownBlock ∨ v'.ownBlock = some w.heap.size) : Hp w0 w' (Own e size v' n' cs' :: r) := by
  obtain ⟨S, ⟨h1, rfl⟩, h2, h3⟩ := h.lay
  refine Hp.step (t' := Own e size v' n' cs') (S := fun k => v.ownBlock = some k) (S' := fun k => v'.ownBlock = some k) h.below (fun k hk => (h2 k hk).1) h3 ⟨hg.os, hg.tape, hg.output, hg.size, fun k hk hn => hg.block k hk (fun e => hn e.symm)⟩ ⟨ho, rfl⟩ (fun k hk => ?_)
  rcases hl with hl | hl
  · exact Or.inl (by rw [← hl]; exact hk)
  · rw [hl] at hk; injection hk with hk; exact Or.inr (by omega)
/-- One of its cells is written. -/
theorem own_set {w0 w : World} {r : List Thing} {e : TypeId} {size g n cap : Nat} {cs : List Value} (h : Hp w0 w (Own e size (.slice (some ⟨g, 0, none⟩) n cap) n cs :: r)) (j : Nat) (u : Value) (hj : j < n * size) : Hp w0 (w.setCell ⟨g, j, none⟩ u) (Own e size (.slice (some ⟨g, 0, none⟩) n cap) n (cs.set j u) :: r) := by
  obtain ⟨S, ⟨h1, rfl⟩, h2, h3⟩ := h.lay
  refine Hp.step (t' := Own e size (.slice (some ⟨g, 0, none⟩) n cap) n (cs.set j u)) (S := fun k => (Value.slice (some ⟨g, 0, none⟩) n cap).ownBlock = some k) (S' := fun k => (Value.slice (some ⟨g, 0, none⟩) n cap).ownBlock = some k) h.below (fun k hk => (h2 k hk).1) h3 ((tch_set j u).mono (fun k _ hk => by subst hk; rfl)) ⟨?_, rfl⟩ (fun k hk => Or.inl hk)
  exact (h1.stored j u).1
theorem own_cell {w0 w : World} {r : List Thing} {e : TypeId} {size : Nat} {v : Value} {n : Nat} {cs : List Value} (h : Hp w0 w (Own e size v n cs :: r)) (j : Nat) (u : Value) (hj : cs[j]? = some u) : ∃ g cap, v = .slice (some ⟨g, 0, none⟩) n cap ∧ w.cell? ⟨g, j, none⟩ = some u := by
  have ho := own_get h
  obtain ⟨hlt, _⟩ := List.getElem?_eq_some_iff.1 hj
  rcases ho with ⟨h0, ⟨rfl, rfl⟩ | ⟨g, cap, cur, rfl, h2, h3, h4⟩⟩
  · rw [h0] at hlt; omega
  · refine ⟨g, cap, rfl, ?_⟩
    have := (own_get h).cells (g := g) rfl j u hj
    rwa [show (⟨g, 0, none⟩ : Addr).add j = ⟨g, 0 + j, none⟩ from Addr.add_lit g 0 j, Nat.zero_add] at this
theorem own_slice {w0 w : World} {r : List Thing} {e : TypeId} {size : Nat} {v : Value} {n : Nat} {cs : List Value} (h : Hp w0 w (Own e size v n cs :: r)) : ∃ a c, v = .slice a n c := by
  rcases own_get h with ⟨h0, ⟨rfl, rfl⟩ | ⟨g, cap, cur, rfl, _⟩⟩ <;> exact ⟨_, _, rfl⟩

theorem Hp.drew {w0 w : World} {r : List Thing} (h : Hp w0 w r) : Hp w0 w.drew r := h.read (Tch.refl _ _).drew
theorem wpList_append_hp {P : Program} {w0 w : World} {ops : Array Oper} {rest : List Oper} {o : Oper} {a : Act} {Q : Exit → Act → World → Prop} (hgd : o.guard = none) (s x : Operand) (t : TypeId)
    (ho : o.op = .call { callee := .builtin .append, args := #[s, x], argTypes := #[t, t] })
    (e : TypeId) (i : TypeInfo) (z : Value) (size bytes : Nat) (ht : P.underlying t = some (.slice e)) (hi : P.info? e = some i) (hz : i.zero = some z)
    (hsize : i.size = size) (hby : i.bytes = bytes) (hzs : z.cells.size = size) (hsz : 0 < size)
    {v : Value} {n : Nat} {xs : List Value} {r : List Thing} (H : Hp w0 w (Own e size v n xs :: r)) (hs : a.eval s = v)
    (ad : Addr) (m c : Nat) (news : List Value) (hx : a.eval x = .slice (some ad) m c) (hl : news.length = m * size) (hnews : ∀ j u, news[j]? = some u → w.cell? (ad.add j) = some u) (h1 : ∀ u ∈ news, u.oneCell' = true)
    (h63 : n + m ≤ 1000000) (hb : bytes ≤ 1000000)
    (h : ∀ v' w', Hp w0 w' (Own e size v' (n + m) (xs ++ news) :: r) → wpList P ops Q rest (a.put o.dst v') w') :
    wpList P ops Q (o :: rest) a w := by
  refine wpList_append_own_at w hgd s x t ho 0 e i z size bytes ht hi hz hsize hby hzs hsz v n xs hs (own_get H) ad m c news hx hl hnews h1 (by unfold maxLen; omega) ?_ (Nat.zero_le _) ?_
  · have : (n + m) * bytes ≤ 1000000 * 1000000 := Nat.mul_le_mul h63 hb
    omega
  · intro v' w' h2 h3 _ h5
    exact h v' w' (own_turn H h3 h2 h5)
/-- The source is nil. -/
theorem own_as {w0 w : World} {e : TypeId} {size : Nat} {v : Value} {n n' : Nat} {xs xs' : List Value} {r : List Thing} (H : Hp w0 w (Own e size v n xs :: r)) (h1 : n = n') (h2 : xs = xs') : Hp w0 w (Own e size v n' xs' :: r) := by
  subst h1; subst h2; exact H
theorem size_alloc1 (w : World) (o : Obj) : w.heap.size + 1 = (w.alloc o).heap.size := by simp
theorem size_alloc2 (w : World) (o o' : Obj) : w.heap.size + 1 + 1 = ((w.alloc o).alloc o').heap.size := by simp
theorem cell_one_at (w : World) (x : Value) (t : TypeId) (n : Nat) (h : n = w.heap.size) : ∀ j u, [x][j]? = some u → (w.alloc (.cells #[x] t)).cell? ((⟨n, 0, none⟩ : Addr).add j) = some u := by
  subst h; exact cell_one_new w x t
theorem Lay.take {n : Nat} {w : World} : ∀ {l : List Thing} {X : Nat → Prop} (k : Nat), Lay n w X l → Lay n w X (l.take k)
  | _, _, 0, _ => trivial
  | [], _, _ + 1, _ => trivial
  | _ :: _, _, k + 1, ⟨S, h1, h2, h3⟩ => ⟨S, h1, h2, Lay.take k h3⟩
theorem Hp.take {w0 w : World} {l : List Thing} (h : Hp w0 w l) (k : Nat) : Hp w0 w (l.take k) := ⟨h.below, h.lay.take k⟩

/-! ### Things of things. -/
/-- Some thing of several, of which something holds. -/
def Ex {α : Type} (p : α → Prop) (T : α → Thing) : Thing where
  at_ w S := ∃ x, p x ∧ (T x).at_ w S
  lt := by rintro w S ⟨x, _, h⟩; exact (T x).lt h
  keeps := by rintro w w' S U ⟨x, hp, h⟩ ht hn; exact ⟨x, hp, (T x).keeps h ht hn⟩
theorem Hp.ex {w0 w : World} {α : Type} {p : α → Prop} {T : α → Thing} {r : List Thing} (h : Hp w0 w (Ex p T :: r)) : ∃ x, p x ∧ Hp w0 w (T x :: r) := by
  obtain ⟨S, ⟨x, hp, h1⟩, h2, h3⟩ := h.lay
  exact ⟨x, hp, h.below, S, h1, h2, h3⟩
theorem Hp.mkEx {w0 w : World} {α : Type} {p : α → Prop} {T : α → Thing} {r : List Thing} (x : α) (hp : p x) (h : Hp w0 w (T x :: r)) : Hp w0 w (Ex p T :: r) := by
  obtain ⟨S, h1, h2, h3⟩ := h.lay
  exact ⟨h.below, S, ⟨x, hp, h1⟩, h2, h3⟩
/-- Several things as one. -/
def Alls (l : List Thing) : Thing where
  at_ w S := Lay 0 w (fun k => w.heap.size ≤ k ∨ ¬ S k) l ∧ ∀ k, S k → k < w.heap.size
  lt := by rintro w S ⟨_, h⟩; exact h
  keeps := by
    rintro w w' S U ⟨h, hs⟩ ht hn
    refine ⟨?_, fun k hk => Nat.lt_of_lt_of_le (hs k hk) ht.size⟩
    refine Lay.mono (Lay.keeps (T := fun k => U k ∨ w.heap.size ≤ k) (w := w) ⟨ht.os, ht.tape, ht.output, ht.size, fun k hk hn => ht.block k hk (fun h => hn (Or.inl h))⟩ h (fun k hk => ?_)) (fun k hk h' => ?_)
    · rcases hk with hk | hk
      · exact Or.inr (fun h' => hn k h' hk)
      · exact Or.inl hk
    · rcases h' with h' | h'
      · exact absurd hk (by omega)
      · exact Or.inr h'
theorem Lay.weak {n m : Nat} {w : World} : ∀ {l : List Thing} {X Y : Nat → Prop}, Lay n w X l → (∀ k, k < w.heap.size → (Y k → X k) ∧ (n ≤ k → ¬ X k → m ≤ k)) → Lay m w Y l
  | [], _, _, _, _ => trivial
  | t :: r, X, Y, ⟨S, h1, h2, h3⟩, hx => ⟨S, h1, fun k hk => ⟨(hx k (t.lt h1 k hk)).2 (h2 k hk).1 (h2 k hk).2, fun h => (h2 k hk).2 ((hx k (t.lt h1 k hk)).1 h)⟩,
      Lay.weak h3 (fun k hk => ⟨fun h => h.elim (fun h => Or.inl ((hx k hk).1 h)) Or.inr, fun h4 h5 => (hx k hk).2 h4 (fun h => h5 (Or.inl h))⟩)⟩
/-- The blocks of what lies first, and the rest. -/
theorem Lay.split {n : Nat} {w : World} : ∀ {l r : List Thing} {X : Nat → Prop}, Lay n w X (l ++ r) → ∃ S : Nat → Prop, (∀ k, S k → n ≤ k ∧ ¬ X k ∧ k < w.heap.size) ∧ Lay n w (fun k => X k ∨ ¬ S k) l ∧ Lay n w (fun k => X k ∨ S k) r
  | [], r, X, h => ⟨fun _ => False, fun _ f => f.elim, trivial, Lay.mono h (fun k _ h => h.elim id False.elim)⟩
  | t :: l, r, X, ⟨S, h1, h2, h3⟩ => by
    obtain ⟨U, u1, u2, u3⟩ := Lay.split h3
    refine ⟨fun k => S k ∨ U k, fun k hk => ?_, ⟨S, h1, fun k hk => ⟨(h2 k hk).1, fun h => h.elim (h2 k hk).2 (fun h => h (Or.inl hk))⟩, ?_⟩, Lay.mono u3 (fun k _ h => ?_)⟩
    · rcases hk with hk | hk
      · exact ⟨(h2 k hk).1, (h2 k hk).2, t.lt h1 k hk⟩
      · exact ⟨(u1 k hk).1, fun h => (u1 k hk).2.1 (Or.inl h), (u1 k hk).2.2⟩
    · refine Lay.mono u2 (fun k _ h => ?_)
      rcases h with (h | h) | h
      · exact Or.inl (Or.inl h)
      · exact Or.inr (fun h' => h (Or.inr h'))
      · exact Or.inl (Or.inr h)
    · rcases h with h | h | h
      · exact Or.inl (Or.inl h)
      · exact Or.inl (Or.inr h)
      · exact Or.inr h
theorem Lay.join {n : Nat} {w : World} : ∀ {l r : List Thing} {X S : Nat → Prop}, Lay n w (fun k => X k ∨ ¬ S k) l → Lay n w (fun k => X k ∨ S k) r → Lay n w X (l ++ r)
  | [], r, X, S, _, h => Lay.mono h (fun k _ h => Or.inl h)
  | t :: l, r, X, S, ⟨U, h1, h2, h3⟩, h => by
    refine ⟨U, h1, fun k hk => ⟨(h2 k hk).1, fun h => (h2 k hk).2 (Or.inl h)⟩, Lay.join (S := S) (Lay.mono h3 (fun k _ h => ?_)) (Lay.mono h (fun k hk h' => ?_))⟩
    · rcases h with (h | h) | h
      · exact Or.inl (Or.inl h)
      · exact Or.inr h
      · exact Or.inl (Or.inr h)
    · rcases h' with (h' | h') | h'
      · exact Or.inl h'
      · by_cases hs : S k
        · exact Or.inr hs
        · exact absurd (Or.inr hs) (h2 k h').2
      · exact Or.inr h'
theorem Hp.unAlls {w0 w : World} {l r : List Thing} (h : Hp w0 w (Alls l :: r)) : Hp w0 w (l ++ r) := by
  obtain ⟨S, ⟨h1, h1'⟩, h2, h3⟩ := h.lay
  refine ⟨h.below, Lay.join (S := S) (Lay.weak h1 (fun k hk => ⟨fun h => h.elim False.elim Or.inr, fun _ hn => ?_⟩)) h3⟩
  by_cases hs : S k
  · exact (h2 k hs).1
  · exact absurd (Or.inr hs) hn
theorem Hp.alls {w0 w : World} {l r : List Thing} (h : Hp w0 w (l ++ r)) : Hp w0 w (Alls l :: r) := by
  obtain ⟨S, h1, h2, h3⟩ := h.lay.split
  exact ⟨h.below, S, ⟨Lay.weak h2 (fun k hk => ⟨fun h => h.elim (fun h => by omega) Or.inr, fun _ _ => Nat.zero_le _⟩), fun k hk => (h1 k hk).2.2⟩, fun k hk => ⟨(h1 k hk).1, id⟩, h3⟩
end Go.Proofs.YtijkkompnfpdeaaGreatDoor
set_option linter.unusedVariables false
set_option linter.unusedSimpArgs false
namespace Go.Proofs.YtijkkompnfpdeaaGreatDoor
open Go.RowKit

theorem Lay.cat {n m : Nat} {w' : World} (hnm : n ≤ m) {r : List Thing} (hr : ∀ X : Nat → Prop, (∀ k, X k → m ≤ k) → Lay n w' X r) : ∀ {l : List Thing} {X : Nat → Prop}, (∀ k, X k → m ≤ k) → Lay m w' X l → Lay n w' X (l ++ r)
  | [], X, hX, _ => hr X hX
  | t :: l, X, hX, ⟨S, h1, h2, h3⟩ => ⟨S, h1, fun k hk => ⟨Nat.le_trans hnm (h2 k hk).1, (h2 k hk).2⟩, Lay.cat hnm hr (fun k hk => hk.elim (hX k) (fun h => (h2 k h).1)) h3⟩
/-- What a call from here on has made, beside what was there. -/
theorem Hp.lift {w0 w w' : World} {r l : List Thing} (H : Hp w0 w r) (K : Hp w w' l) : Hp w0 w' (l ++ r) := by
  refine ⟨(H.below_read K.below).below, Lay.cat H.below.size (fun X hX => ?_) (fun _ f => f.elim) K.lay⟩
  have h1 : Lay w0.heap.size w X r := Lay.mono H.lay (fun k hk hx => by have := hX k hx; omega)
  exact Lay.keeps (T := Nil) ⟨K.below.os, K.below.tape, K.below.output, K.below.size, fun k hk _ => K.below.block k hk⟩ h1 (fun _ f => f.elim)
/-- Cells that lie one behind the other. -/
def CellsIn (w : World) (a : Option Addr) (cs : List Value) : Prop := ∀ j (hj : j < cs.length), ∃ g o, a = some ⟨g, o, none⟩ ∧ w.cell? ⟨g, o + j, none⟩ = some cs[j]
theorem CellsIn.below {w w' : World} {a : Option Addr} {cs : List Value} (h : CellsIn w a cs) (hb : Below w.heap.size w w') : CellsIn w' a cs := fun j hj => by
  obtain ⟨g, o, e, hc⟩ := h j hj
  exact ⟨g, o, e, (hb.cell (p := ⟨g, o + j, none⟩) (World.block_lt_of_cell? _ _ hc)).trans hc⟩
theorem CellsIn.hp {w0 w : World} {r : List Thing} {a : Option Addr} {cs : List Value} (h : CellsIn w0 a cs) (H : Hp w0 w r) : CellsIn w a cs := h.below H.below
theorem CellsIn.own {w0 w : World} {r : List Thing} {e : TypeId} {size n : Nat} {a : Option Addr} {c : Nat} {cs : List Value} (H : Hp w0 w (Own e size (.slice a n c) n cs :: r)) : CellsIn w a cs := fun j hj => by
  obtain ⟨g, cap, hv, hc⟩ := own_cell H j cs[j] (by simp [hj])
  injection hv with h1 h2 h3
  exact ⟨g, 0, h1, by rw [Nat.zero_add]; exact hc⟩
theorem CellsIn.nil (w : World) (a : Option Addr) : CellsIn w a [] := fun j hj => by simp at hj
theorem CellsIn.read {w w' : World} {a : Option Addr} {cs : List Value} (h : CellsIn w a cs) (ht : Tch Nil w w') : CellsIn w' a cs := h.below (ht.below (Nat.le_refl _) (fun _ _ f => f))
end Go.Proofs.YtijkkompnfpdeaaGreatDoor
