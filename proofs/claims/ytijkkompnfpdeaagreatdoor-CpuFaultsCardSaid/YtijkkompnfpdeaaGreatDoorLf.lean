/- What a call makes beside what was there; what lies in memory as it came. No program in sight. -/
import Derived.Test.YtijkkompnfpdeaaGreatDoorGen
set_option linter.unusedVariables false
set_option linter.unusedSimpArgs false
namespace Go.Proofs.YtijkkompnfpdeaaGreatDoor
open Go.RowKit

theorem Lay.cat {n m : Nat} {w' : World} (hnm : n ≤ m) {r : List Thing} (hr : ∀ X : Nat → Prop, (∀ k, X k → m ≤ k) → Lay n w' X r) : ∀ {l : List Thing} {X : Nat → Prop}, (∀ k, X k → m ≤ k) → Lay m w' X l → Lay n w' X (l ++ r)
  | [], X, hX, _ => hr X hX
  | t :: l, X, hX, ⟨S, h1, h2, h3⟩ => ⟨S, h1, fun k hk => ⟨Nat.le_trans hnm (h2 k hk).1, (h2 k hk).2⟩, Lay.cat hnm hr (fun k hk => hk.elim (hX k) (fun h => (h2 k h).1)) h3⟩
/-- What a call from here on has made, beside what was there. -/
theorem Hp.lift {w0 w w' : World} {r l : List Thing} (H : Hp w0 w r) (K : Hp w w' l) : Hp w0 w' (l ++ r) := by
  refine ⟨(H.below_read K.below).below, Lay.cat H.below.size (fun X hX => ?_) (fun _ f => f.elim) K.lay⟩
  have h1 : Lay w0.heap.size w X r := Lay.mono H.lay (fun k hk hx => by have := hX k hx; omega)
  exact Lay.keeps (T := Nil) ⟨K.below.os, K.below.tape, K.below.output, K.below.size, fun k hk _ => K.below.block k hk⟩ h1 (fun _ f => f.elim)
/-- Cells that lie one behind the other. -/
def CellsIn (w : World) (a : Option Addr) (cs : List Value) : Prop := ∀ j (hj : j < cs.length), ∃ g o, a = some ⟨g, o, none⟩ ∧ w.cell? ⟨g, o + j, none⟩ = some cs[j]
theorem CellsIn.below {w w' : World} {a : Option Addr} {cs : List Value} (h : CellsIn w a cs) (hb : Below w.heap.size w w') : CellsIn w' a cs := fun j hj => by
  obtain ⟨g, o, e, hc⟩ := h j hj
  exact ⟨g, o, e, (hb.cell (p := ⟨g, o + j, none⟩) (World.block_lt_of_cell? _ _ hc)).trans hc⟩
theorem CellsIn.hp {w0 w : World} {r : List Thing} {a : Option Addr} {cs : List Value} (h : CellsIn w0 a cs) (H : Hp w0 w r) : CellsIn w a cs := h.below H.below
theorem CellsIn.own {w0 w : World} {r : List Thing} {e : TypeId} {size n : Nat} {a : Option Addr} {c : Nat} {cs : List Value} (H : Hp w0 w (Own e size (.slice a n c) n cs :: r)) : CellsIn w a cs := fun j hj => by
  obtain ⟨g, cap, hv, hc⟩ := own_cell H j cs[j] (by simp [hj])
  injection hv with h1 h2 h3
  exact ⟨g, 0, h1, by rw [Nat.zero_add]; exact hc⟩
theorem CellsIn.nil (w : World) (a : Option Addr) : CellsIn w a [] := fun j hj => by simp at hj
theorem CellsIn.read {w w' : World} {a : Option Addr} {cs : List Value} (h : CellsIn w a cs) (ht : Tch Nil w w') : CellsIn w' a cs := h.below (ht.below (Nat.le_refl _) (fun _ _ f => f))
end Go.Proofs.YtijkkompnfpdeaaGreatDoor
