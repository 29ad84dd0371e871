/- Instructions: more arguments of the chapter's laws, opened. -/
import Derived.Test.YtceienodijgllabDoorIo
import Derived.ChangeMaps5
set_option linter.unusedVariables false
set_option linter.unusedSimpArgs false
set_option maxRecDepth 20000
namespace Go.Proofs.YtceienodijgllabDoor
open Go.RowKit Go.ChangeShapes Go.WideShapes Go.ChangeAt Go.Joins
theorem len_ba {s : ByteArray} (h : s.size ≤ maxLen) : s.data.toList.length < 9223372036854775808 := by
  have h1 : s.size ≤ 9223372036854775807 := h
  have e : s.data.toList.length = s.size := by simp
  omega
section
variable {H : Type} {enc : TypeId × Value → H} {W : World} {r : Reach} {b0 base : Nat} {sp : Nat → Bool} {held : Bool}
theorem open_op {v : Value} {d : DataW H} {p : List MemPlace} (hv : Value.okWide Tryd.prog W r b0 22 v) (h : DataW.Trod enc Tryd.prog W base sp held 22 v d p) : ∃ op : Nat, v = .int .u8 op ∧ op < 256 := by
  obtain ⟨n, rfl, _, _, w0⟩ := open_int Tryd.underlying22 hv h
  obtain ⟨n0, rfl, l0⟩ := u8_nat w0
  exact ⟨n0, rfl, l0⟩
end
end Go.Proofs.YtceienodijgllabDoor
