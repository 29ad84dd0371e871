/- Plain laws of lists of deltas, and stores into them. -/
import Derived.Test.YtllfkgdmneabiaaDoorItr
import Derived.BigRegion
import Derived.Deep.RegionWith
import Derived.Deep.RegionHeld3
import Derived.ProofKit
set_option linter.unusedVariables false
set_option linter.unusedSimpArgs false
namespace Go.Proofs.YtllfkgdmneabiaaDoor
open Go.RowKit Go.Shelf
attribute [local go_sem] Oper.semAt_some

/-- A post for a body that does not panic: regions that draw their order want that of it. -/
def NP (Q : Exit → Act → World → Prop) : Exit → Act → World → Prop
  | .panic _, _, _ => False
  | e, a, w => Q e a w
theorem calls_of_wp_calm {P : Program} {f : FuncId} {fn : Func} {c : Code} {args : Array Value} {w : World} {R : Ending → World → Prop} (hf : P.funcs[f]? = some fn) (hb : fn.body = some c)
    (h : c.wp P (NP (bodyPostM Fence.wide 3 P fn R)) { tmps := args ++ Array.replicate (fn.ntmps - args.size) undef, defers := [] } w) : Calls P f args w R :=
  calls_of_wp_marks hf hb (wp_mono h fun e a w h => by cases e <;> first | exact h | exact h.elim)

/-- How many wake by a tick. -/
def plc : List (Int × Int) → Int → Nat
  | [], _ => 0
  | x :: r, t => if x.2 > t then 0 else plc r (t - x.2) + 1
/-- The first one has some ticks less. -/
def dec : List (Int × Int) → Int → List (Int × Int)
  | [], _ => []
  | x :: r, d => (x.1, x.2 - d) :: r
/-- Somebody is put for some ticks. -/
def put (xs : List (Int × Int)) (who t : Int) : List (Int × Int) :=
  xs.take (plc xs t) ++ (who, t - tot (xs.take (plc xs t))) :: dec (xs.drop (plc xs t)) (t - tot (xs.take (plc xs t)))

theorem plc_le : ∀ (xs : List (Int × Int)) (t : Int), plc xs t ≤ xs.length
  | [], _ => Nat.le_refl _
  | x :: r, t => by unfold plc; split <;> simp [plc_le r]
theorem plc_of : ∀ (xs : List (Int × Int)) (t : Int) (k : Nat), k ≤ xs.length → (∀ j, j < k → cum xs j ≤ t) → (k < xs.length → t < cum xs k) → plc xs t = k
  | [], t, k, hk, _, _ => by simp at hk; subst hk; rfl
  | x :: r, t, 0, _, _, h => by
    have := h (by simp)
    simp [cum, tot] at this
    unfold plc; rw [if_pos (by omega)]
  | x :: r, t, k + 1, hk, h1, h2 => by
    have h0 := h1 0 (by omega)
    simp [cum, tot] at h0
    unfold plc
    rw [if_neg (by omega), plc_of r (t - x.2) k (by simpa using hk) (fun j hj => by have := h1 (j + 1) (by omega); simp [cum, tot] at this ⊢; omega) (fun hk2 => by have := h2 (by simpa using hk2); simp [cum, tot] at this ⊢; omega)]
theorem get_bd (xs : List (Int × Int)) (hg : Good xs) (k : Nat) (hk : k < xs.length) : 0 ≤ xs[k].2 ∧ xs[k].2 ≤ 1073741824 := by
  have h1 := tot_take_bd xs hg k
  have h2 := tot_take_bd xs hg (k + 1)
  rw [tot_take_succ xs k hk] at h2
  exact ⟨hg.1 _ (List.getElem_mem hk), by omega⟩
theorem tot_cum (xs : List (Int × Int)) (k : Nat) : tot (xs.take (k + 1)) = cum xs k := rfl

theorem PS.of_heap {w w' : World} {v : Value} {g : Nat} {xs : List (Int × Int)} (h : PS w v (some g) xs) (e : w'.heap[g]? = w.heap[g]?) : PS w' v (some g) xs := by
  obtain ⟨off, cap, cur, a1, a2, a3, hh, a4⟩ := h
  exact ⟨off, cap, cur, a1, a2, a3, e.trans hh, a4⟩
theorem pc_set (xs : List (Int × Int)) (k : Nat) (d : Int) (hk : k < xs.length) (j : Nat) : (pc (xs.set k (xs[k].1, d)))[j]? = if j = k * 2 + 1 then some (.int .i64 d) else (pc xs)[j]? := by
  rw [List.set_eq_take_append_cons_drop, if_pos hk, pc_append, pc_cons]
  have hl : (pc (xs.take k)).length = k * 2 := by rw [pc_length, List.length_take]; omega
  have e : pc xs = pc (xs.take k) ++ .int .i64 xs[k].1 :: .int .i64 xs[k].2 :: pc (xs.drop (k + 1)) := by
    rw [← pc_cons, ← pc_append, ← List.drop_eq_getElem_cons hk, List.take_append_drop]
  rw [e]
  by_cases h1 : j < k * 2
  · rw [if_neg (by omega), List.getElem?_append_left (by omega), List.getElem?_append_left (by omega)]
  · rw [List.getElem?_append_right (by omega), List.getElem?_append_right (by omega), hl]
    by_cases h2 : j = k * 2 + 1
    · subst h2; rw [if_pos rfl, show k * 2 + 1 - k * 2 = 1 by omega]; rfl
    · rw [if_neg h2]
      rcases Nat.eq_or_lt_of_le (Nat.le_of_not_lt h1) with h3 | h3
      · rw [← h3, Nat.sub_self]; rfl
      · rw [show j - k * 2 = (j - k * 2 - 2) + 2 by omega]; rfl
theorem PS.store1 {w : World} {g off cap k : Nat} {xs : List (Int × Int)} (h : PS w (.slice (some ⟨g, off, none⟩) xs.length cap) (some g) xs) (hk : k < xs.length) (d : Int) :
    PS (w.setCell ⟨g, off + k * 2 + 1, none⟩ (.int .i64 d)) (.slice (some ⟨g, off, none⟩) xs.length cap) (some g) (xs.set k (xs[k].1, d)) := by
  obtain ⟨off', cap', cur, e, a2, a3, hh, a4, a5, a6⟩ := h
  obtain ⟨rfl, rfl⟩ : off = off' ∧ cap = cap' := by simpa using e
  refine ⟨off, cap, _, by rw [List.length_set], by rw [List.length_set]; exact a2, a3, blk_setCell hh _ _, by rw [Array.size_setIfInBounds]; exact a4, by rw [Array.size_setIfInBounds]; exact a5, fun j u hj => ?_⟩
  rw [pc_set xs k d hk] at hj
  by_cases h1 : j = k * 2 + 1
  · rw [if_pos h1] at hj
    cases hj
    rw [h1, ← Nat.add_assoc, Array.getElem?_setIfInBounds_self_of_lt (by omega)]
  · rw [if_neg h1] at hj
    rw [Array.getElem?_setIfInBounds_ne (by omega)]
    exact a6 j u hj
theorem dec_set (xs : List (Int × Int)) (k : Nat) (hk : k < xs.length) (d : Int) : (xs.set k (xs[k].1, xs[k].2 - d)).take k = xs.take k ∧ (xs.set k (xs[k].1, xs[k].2 - d)).drop k = dec (xs.drop k) d := by
  constructor
  · rw [List.take_set_of_le (Nat.le_refl _)]
  · rw [List.drop_set, if_neg (by omega), Nat.sub_self, List.drop_eq_getElem_cons hk]; rfl

theorem blk_alloc_at (w : World) (o : Obj) (n : Nat) (h : n = w.heap.size) : (w.alloc o).heap[n]? = some o := by subst h; exact blk_alloc_new w o

theorem PS.isSlice {w : World} {v : Value} {go : Option Nat} {xs : List (Int × Int)} (h : PS w v go xs) : ∃ a c, v = .slice a xs.length c := by
  cases go with
  | none => obtain ⟨rfl, rfl⟩ := h; exact ⟨_, _, rfl⟩
  | some g => obtain ⟨off, cap, _, rfl, _⟩ := h; exact ⟨_, _, rfl⟩

theorem Tch.putObj {S : Nat → Prop} {a w : World} (h : Tch S a w) {D : Nat} (o : Obj) (hD : a.heap.size ≤ D) : Tch S a (w.putObj D o) :=
  h.grown (grownBy_putObj' w D o) (fun k e hk => by cases e; omega)
theorem blk_putObj {w : World} {D b : Nat} (o : Obj) (h : b ≠ D) : (w.putObj D o).heap[b]? = w.heap[b]? := World.putObj_heap_other h
end Go.Proofs.YtllfkgdmneabiaaDoor
