/- Instructions: the arguments of the chapter's laws, opened. -/
import Derived.Test.YtijkkompnfpdeaaGreatDoorRows
import Derived.Test.YtijkkompnfpdeaaGreatDoorWf
import Derived.WideShapes
import Derived.ChangeSame
import Derived.OpenShut
import Derived.ProofKit
import Derived.Lib.SmallJoins
set_option linter.unusedVariables false
set_option linter.unusedSimpArgs false
set_option maxRecDepth 20000
namespace Go.Proofs.YtijkkompnfpdeaaGreatDoor
open Go.RowKit Go.ChangeShapes Go.WideShapes Go.ChangeAt Go.Joins
section
variable {H : Type} {enc : TypeId × Value → H} {W : World} {r : Reach} {b0 base : Nat} {sp : Nat → Bool} {held : Bool}
theorem u8_nat {x : Int} (h : (Lit.int .u8 x).wf = true) : ∃ n : Nat, x = (n : Int) ∧ n < 256 := ⟨x.toNat, by have := wf_u8 h; omega, by have := wf_u8 h; omega⟩
theorem open_ins {v : Value} {d : DataW H} {p : List MemPlace} (hv : Value.okWide Tryz.prog W r b0 26 v) (h : DataW.Trod enc Tryz.prog W base sp held 26 v d p) :
    ∃ op a b c : Nat, v = .agg #[.int .u8 op, .int .u8 a, .int .u8 b, .int .u8 c] ∧ op < 256 ∧ a < 256 ∧ b < 256 ∧ c < 256 := by
  obtain ⟨c0, c1, c2, c3, y0, y1, y2, y3, n, rfl, _, _, t0, t1, t2, t3⟩ := open_agg4 Tryz.underlying26 (by kernel_rfl) (by kernel_rfl) hv h
  obtain ⟨a0, e0, _, w0⟩ := DataW.trod_int Tryz.underlying24 t0
  obtain ⟨a1, e1, _, w1⟩ := DataW.trod_int Tryz.underlying5 t1
  obtain ⟨a2, e2, _, w2⟩ := DataW.trod_int Tryz.underlying5 t2
  obtain ⟨a3, e3, _, w3⟩ := DataW.trod_int Tryz.underlying5 t3
  cases e0; cases e1; cases e2; cases e3
  obtain ⟨n0, rfl, l0⟩ := u8_nat w0
  obtain ⟨n1, rfl, l1⟩ := u8_nat w1
  obtain ⟨n2, rfl, l2⟩ := u8_nat w2
  obtain ⟨n3, rfl, l3⟩ := u8_nat w3
  exact ⟨n0, n1, n2, n3, rfl, l0, l1, l2, l3⟩
theorem okWide_arr {n : Nat} {e t : TypeId} {v : Value} (ht : Tryz.prog.underlying t = some (.array n e)) (hv : Value.okWide Tryz.prog W r b0 t v) : ∃ cs, v = .agg cs ∧ cs.size = Tryz.prog.cellsOf t := by
  cases v <;> simp_all [Value.okWide, Cell.okWide, Cell.ok, Value.formed]
end
end Go.Proofs.YtijkkompnfpdeaaGreatDoor
