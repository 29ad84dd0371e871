/- Instructions: more arguments of the chapter's laws, opened. -/
import Derived.Test.YtceienodijgllaaDoorIo
import Derived.ChangeMaps5
set_option linter.unusedVariables false
set_option linter.unusedSimpArgs false
set_option maxRecDepth 20000
namespace Go.Proofs.YtceienodijgllaaDoor
open Go.RowKit Go.ChangeShapes Go.WideShapes Go.ChangeAt Go.Joins
theorem len_ba {s : ByteArray} (h : s.size ≤ maxLen) : s.data.toList.length < 9223372036854775808 := by
  have h1 : s.size ≤ 9223372036854775807 := h
  have e : s.data.toList.length = s.size := by simp
  omega
section
variable {H : Type} {enc : TypeId × Value → H} {W : World} {r : Reach} {b0 base : Nat} {sp : Nat → Bool} {held : Bool}
theorem open_op {v : Value} {d : DataW H} {p : List MemPlace} (hv : Value.okWide Tryd.prog W r b0 22 v) (h : DataW.Trod enc Tryd.prog W base sp held 22 v d p) : ∃ op : Nat, v = .int .u8 op ∧ op < 256 := by
  obtain ⟨n, rfl, _, _, w0⟩ := open_int Tryd.underlying22 hv h
  obtain ⟨n0, rfl, l0⟩ := u8_nat w0
  exact ⟨n0, rfl, l0⟩
theorem open_arr3 {v : Value} {d : DataW H} {p : List MemPlace} (hv : Value.okWide Tryd.prog W r b0 37 v) (h : DataW.Trod enc Tryd.prog W base sp held 37 v d p) :
    ∃ a b c : Nat, v = .agg #[.int .u8 a, .int .u8 b, .int .u8 c] ∧ a < 256 ∧ b < 256 ∧ c < 256 := by
  obtain ⟨cs, rfl, hsz⟩ := okWide_arr Tryd.underlying37 hv
  have hc : Tryd.prog.cellsOf 37 = 3 := by kernel_rfl
  have hu : Tryd.prog.cellsOf 5 = 1 := by kernel_rfl
  obtain ⟨l⟩ := cs
  match l, hsz.trans hc with
  | [c0, c1, c2], _ =>
    obtain ⟨fuel, hf⟩ := h
    obtain ⟨xs, n, _, hx, _, hlen, hg⟩ := DataW.trod_array Tryd.underlying37 hf
    match xs, hlen with
    | [y0, y1, y2], _ =>
      have t0 := hg 0 (by omega)
      have t1 := hg 1 (by omega)
      have t2 := hg 2 (by omega)
      simp [Value.cells, hu] at t0 t1 t2
      obtain ⟨a0, e0, _, w0⟩ := DataW.trod_int Tryd.underlying5 t0
      obtain ⟨a1, e1, _, w1⟩ := DataW.trod_int Tryd.underlying5 t1
      obtain ⟨a2, e2, _, w2⟩ := DataW.trod_int Tryd.underlying5 t2
      cases e0; cases e1; cases e2
      obtain ⟨n0, rfl, l0⟩ := u8_nat w0
      obtain ⟨n1, rfl, l1⟩ := u8_nat w1
      obtain ⟨n2, rfl, l2⟩ := u8_nat w2
      exact ⟨n0, n1, n2, rfl, l0, l1, l2⟩
end
end Go.Proofs.YtceienodijgllaaDoor
