/- The arguments of chapter 14's laws, opened; the table that a row lists. -/
import Derived.Test.YthaodmobcbccaaaDoorRows
import Derived.Test.YthaodmobcbccaaaDoorKr
import Derived.Test.YthaodmobcbccaaaDoorKt
import Derived.WideShapes
import Derived.ChangeSame
import Derived.Lib.SmallJoins
import Derived.Lib.LaidTab
import Derived.Stop.LaidErr
set_option linter.unusedVariables false
set_option linter.unusedSimpArgs false
namespace Go.Proofs.YthaodmobcbccaaaDoor
open Go.ChangeShapes Go.WideShapes Go.ChangeAt Go.RowKit Go.Joins Go.Deep

section
variable {H : Type} {enc : TypeId × Value → H} {W : World} {base : Nat} {sp : Nat → Bool} {held : Bool} {r : Reach} {b0 : Nat}
theorem open_ask {cs : List Value} {y : DataW H × List MemPlace} {n : Nat} (h : DataW.trod enc Tryd.prog W base sp held n 26 cs = some y) (hl : cs.length = 5) :
    ∃ wh wH wV wM ww : Int, cs = [.int .u8 wh, .int .u32 wH, .int .u32 wV, .int .u32 wM, .int .i64 ww] ∧ (Lit.int .u8 wh).wf = true ∧ (Lit.int .u32 wH).wf = true ∧ (Lit.int .u32 wV).wf = true ∧ (Lit.int .u32 wM).wf = true ∧ (Lit.int .i64 ww).wf = true := by
  have hcW : Tryd.prog.cellsOf 24 = 1 := by kernel_rfl
  have hc32 : Tryd.prog.cellsOf 22 = 1 := by kernel_rfl
  have hc64 : Tryd.prog.cellsOf 2 = 1 := by kernel_rfl
  match cs, hl with
  | [c0, c1, c2, c3, c4], _ =>
    obtain ⟨xs, m, _, rfl, _, hl2, hf⟩ := DataW.trod_struct Tryd.underlying26 h
    match xs, hl2 with
    | [y0, y1, y2, y3, y4], _ =>
      have h0 := hf 0 _ rfl
      have h1 := hf 1 _ rfl
      have h2 := hf 2 _ rfl
      have h3 := hf 3 _ rfl
      have h4 := hf 4 _ rfl
      simp [hcW, hc32, hc64] at h0 h1 h2 h3 h4
      obtain ⟨wh, e0, _, s0⟩ := DataW.trod_int Tryd.underlying24 h0
      obtain ⟨wH, e1, _, s1⟩ := DataW.trod_int Tryd.underlying22 h1
      obtain ⟨wV, e2, _, s2⟩ := DataW.trod_int Tryd.underlying22 h2
      obtain ⟨wM, e3, _, s3⟩ := DataW.trod_int Tryd.underlying22 h3
      obtain ⟨ww, e4, _, s4⟩ := DataW.trod_int Tryd.underlying2 h4
      simp at e0 e1 e2 e3 e4
      subst e0 e1 e2 e3 e4
      exact ⟨wh, wH, wV, wM, ww, rfl, s0, s1, s2, s3, s4⟩

theorem open_arg_ask {v : Value} {d : DataW H} {p : List MemPlace} (hv : Value.okWide Tryd.prog W r b0 26 v) (h : DataW.Trod enc Tryd.prog W base sp held 26 v d p) :
    ∃ wh wH wV wM ww : Int, v = .agg #[.int .u8 wh, .int .u32 wH, .int .u32 wV, .int .u32 wM, .int .i64 ww] ∧ (Lit.int .u8 wh).wf = true ∧ (Lit.int .u32 wH).wf = true ∧ (Lit.int .u32 wV).wf = true ∧ (Lit.int .u32 wM).wf = true ∧ (Lit.int .i64 ww).wf = true := by
  obtain ⟨cs, rfl, hsz⟩ := okWide_struct Tryd.underlying26 hv
  have hcA : Tryd.prog.cellsOf 26 = 5 := by kernel_rfl
  obtain ⟨l⟩ := cs
  obtain ⟨fuel, hf⟩ := h
  obtain ⟨wh, wH, wV, wM, ww, e, h1⟩ := open_ask hf (hsz.trans hcA)
  simp only [Value.cells] at e
  subst e
  exact ⟨wh, wH, wV, wM, ww, rfl, h1⟩

set_option maxRecDepth 20000 in
theorem open_arg_task {v : Value} {d : DataW H} {p : List MemPlace} (hv : Value.okWide Tryd.prog W r b0 29 v) (h : DataW.Trod enc Tryd.prog W base sp held 29 v d p) :
    ∃ t : Tk, v = .agg t.cells ∧ TkWf t := by
  obtain ⟨cs, rfl, hsz⟩ := okWide_struct Tryd.underlying29 hv
  have hcT : Tryd.prog.cellsOf 29 = 14 := by kernel_rfl
  have hcA : Tryd.prog.cellsOf 26 = 5 := by kernel_rfl
  have hcS : Tryd.prog.cellsOf 23 = 1 := by kernel_rfl
  have hcE : Tryd.prog.cellsOf 27 = 1 := by kernel_rfl
  have hcI : Tryd.prog.cellsOf 3 = 1 := by kernel_rfl
  have hcB : Tryd.prog.cellsOf 4 = 1 := by kernel_rfl
  have hc32 : Tryd.prog.cellsOf 22 = 1 := by kernel_rfl
  have hc64 : Tryd.prog.cellsOf 2 = 1 := by kernel_rfl
  obtain ⟨l⟩ := cs
  match l, hsz.trans hcT with
  | [c0, c1, c2, c3, c4, c5, c6, c7, c8, c9, c10, c11, c12, c13], _ =>
    obtain ⟨fuel, hf⟩ := h
    obtain ⟨xs, n, _, hx, _, hlen, hg⟩ := DataW.trod_struct Tryd.underlying29 hf
    match xs, hlen with
    | [y0, y1, y2, y3, y4, y5, y6, y7, y8, y9], _ =>
      have h0 := hg 0 _ rfl
      have h1 := hg 1 _ rfl
      have h2 := hg 2 _ rfl
      have h3 := hg 3 _ rfl
      have h4 := hg 4 _ rfl
      have h5 := hg 5 _ rfl
      have h6 := hg 6 _ rfl
      have h7 := hg 7 _ rfl
      have h8 := hg 8 _ rfl
      have h9 := hg 9 _ rfl
      simp [Value.cells, hcA, hcS, hcE, hcI, hcB, hc32, hc64] at h0 h1 h2 h3 h4 h5 h6 h7 h8 h9
      obtain ⟨ah, e0, _, s0⟩ := DataW.trod_int Tryd.underlying22 h0
      obtain ⟨st, e1, _, s1⟩ := DataW.trod_int Tryd.underlying23 h1
      obtain ⟨hd, e2, _⟩ := DataW.trod_bool Tryd.underlying4 h2
      obtain ⟨ba, e3, _, s3⟩ := DataW.trod_int Tryd.underlying3 h3
      obtain ⟨ra, e4, _, s4⟩ := DataW.trod_int Tryd.underlying3 h4
      obtain ⟨wh, wH, wV, wM, ww, e5, s50, s51, s52, s53, s54⟩ := open_ask h5 rfl
      obtain ⟨lf, e6, _, s6⟩ := DataW.trod_int Tryd.underlying2 h6
      obtain ⟨an, e7, _, s7⟩ := DataW.trod_int Tryd.underlying3 h7
      obtain ⟨la, e8, _, s8⟩ := DataW.trod_int Tryd.underlying27 h8
      obtain ⟨va, e9, _, s9⟩ := DataW.trod_int Tryd.underlying22 h9
      simp at e0 e1 e2 e3 e4 e5 e6 e7 e8 e9
      obtain ⟨e50, e51, e52, e53, e54⟩ := e5
      subst e0 e1 e2 e3 e4 e50 e51 e52 e53 e54 e6 e7 e8 e9
      exact ⟨⟨ah, st, hd, ba, ra, wh, wH, wV, wM, ww, lf, an, la, va⟩, rfl, ⟨s0, s1, s3, s4, s50, s51, s52, s53, s54, s6, s7, s8, s9⟩⟩
end

theorem table {W : World} (hL : laidMetH Tryd.prog Rows.tasksTellRow.laid W) : Tb W.heap.size W := by
  have h1 : laidMet Tryd.prog Rows.tasksTellRow.laid W := hL
  have h2 : laidMet Tryd.prog [("internal/strconv.uint64pow10", Lib.tabData .u64 Lib.pow10Tab)] W := laidMet.tail (laidMet.tail h1)
  exact Lib.tabBelow_of_tabIs (Lib.tabIs_of_head (g := 0) (by kernel_rfl) (by kernel_rfl) (show Tryd.prog.underlying 61 = some (.array 20 42) by kernel_rfl) Tryd.underlying42 (by kernel_rfl) (by kernel_rfl) h2)
end Go.Proofs.YthaodmobcbccaaaDoor
