/- How a slice of acts on alarms lies that came in. -/
import Derived.Test.YtllfkgdmneabiaaDoorTmh
import Derived.Lib.SmallJoins
import Derived.Deep.Slices
set_option linter.unusedVariables false
set_option linter.unusedSimpArgs false
namespace Go.Proofs.YtllfkgdmneabiaaDoor
open Go.RowKit Go.Shelf Go.Maps Go.Joins Go.Deep

abbrev Ac := Int × Int × Int × Int
def ActsIn (w : World) (a : Option Addr) (xs : List Ac) : Prop :=
  ∀ j (hj : j < xs.length), ∃ g off, a = some ⟨g, off, none⟩ ∧ w.cell? ⟨g, off + j * 4, none⟩ = some (.int .u8 xs[j].1) ∧ w.cell? ⟨g, off + j * 4 + 1, none⟩ = some (.int .i64 xs[j].2.1) ∧ w.cell? ⟨g, off + j * 4 + 2, none⟩ = some (.int .i64 xs[j].2.2.1) ∧ w.cell? ⟨g, off + j * 4 + 3, none⟩ = some (.int .i64 xs[j].2.2.2)
structure AcWf (x : Ac) : Prop where
  k : (Lit.int .u8 x.1).wf = true
  i : (Lit.int .i64 x.2.1).wf = true
  n : (Lit.int .i64 x.2.2.1).wf = true
  e : (Lit.int .i64 x.2.2.2).wf = true

theorem acts_cell {w0 w : World} {r : List Thing} {a : Option Addr} {xs : List Ac} (h : Hp w0 w r) (hb : ActsIn w0 a xs) (j : Nat) (hj : j < xs.length) : ∃ g off, a = some ⟨g, off, none⟩ ∧ w.cell? ⟨g, off + j * 4, none⟩ = some (.int .u8 xs[j].1) ∧ w.cell? ⟨g, off + j * 4 + 1, none⟩ = some (.int .i64 xs[j].2.1) ∧ w.cell? ⟨g, off + j * 4 + 2, none⟩ = some (.int .i64 xs[j].2.2.1) ∧ w.cell? ⟨g, off + j * 4 + 3, none⟩ = some (.int .i64 xs[j].2.2.2) := by
  obtain ⟨g, off, rfl, h0, h1, h2, h3⟩ := hb j hj
  have k := fun (i : Nat) (v : Value) (e : w0.cell? ⟨g, i, none⟩ = some v) => (h.below.cell (p := ⟨g, i, none⟩) (World.block_lt_of_cell? _ _ e)).trans e
  exact ⟨g, off, rfl, k _ _ h0, k _ _ h1, k _ _ h2, k _ _ h3⟩

set_option maxRecDepth 20000 in
theorem opened_acts {H : Type} {enc : TypeId × Value → H} {W : World} {cs : List Value} {fuel : Nat} {x : DataW H × List MemPlace} (h : DataW.trod enc Tryd.prog W 0 (fun _ => true) true fuel 22 cs = some x) :
    ∃ a c xs, cs = [.slice a xs.length c] ∧ ActsIn W a xs ∧ ∀ z ∈ xs, AcWf z := by
  rcases open_slice Tryd.underlying22 h with ⟨rfl, _⟩ | ⟨a, len, cap, m, n, D, Pl, rfl, _, hl, _, hm, _, hx⟩
  · exact ⟨none, 0, [], rfl, fun j hj => by simp at hj, fun z hz => by simp at hz⟩
  · simp only [if_true] at hm
    subst hm
    have hC : Tryd.prog.cellsOf 39 = 4 := by kernel_rfl
    rw [hC] at hx
    by_cases h0 : len = 0
    · subst h0
      exact ⟨_, _, [], rfl, fun j hj => by simp at hj, fun z hz => by simp at hz⟩
    have hsp : a.spot = none := by
      obtain ⟨cs', h1, _⟩ := hx 0 (by omega)
      obtain ⟨_, hlen, hc⟩ := World.cells?_some h1
      match cs', hlen with
      | [v0, v1, v2, v3], _ => simpa [Addr.add] using World.cell?_spot (hc 0 (by omega))
    obtain ⟨b, o, s⟩ := a
    obtain rfl : s = none := hsp
    have key : ∀ i, i < len → ∃ z : Ac, AcWf z ∧ W.cell? ⟨b, o + i * 4, none⟩ = some (.int .u8 z.1) ∧ W.cell? ⟨b, o + i * 4 + 1, none⟩ = some (.int .i64 z.2.1) ∧ W.cell? ⟨b, o + i * 4 + 2, none⟩ = some (.int .i64 z.2.2.1) ∧ W.cell? ⟨b, o + i * 4 + 3, none⟩ = some (.int .i64 z.2.2.2) := by
      intro i hi
      obtain ⟨cs', h1, h2⟩ := hx i (by omega)
      obtain ⟨_, hlen, hc⟩ := World.cells?_some h1
      obtain ⟨y0, y1, y2, y3, n', _, _, t0, t1, t2, t3⟩ := trod_struct4 Tryd.underlying39 h2
      match cs', hlen with
      | [v0, v1, v2, v3], _ =>
        have o0 : Tryd.prog.cellsOf 5 = 1 := by kernel_rfl
        have o1 : Tryd.prog.cellsOf 3 = 1 := by kernel_rfl
        have o2 : Tryd.prog.cellsOf 2 = 1 := by kernel_rfl
        simp only [o0, o1, o2, List.drop_succ_cons, List.drop_zero, List.take_succ_cons, List.take_zero] at t0 t1 t2 t3
        obtain ⟨n0, e0, _, w0⟩ := DataW.trod_int Tryd.underlying5 t0
        obtain ⟨n1, e1, _, w1⟩ := DataW.trod_int Tryd.underlying3 t1
        obtain ⟨n2, e2, _, w2⟩ := DataW.trod_int Tryd.underlying2 t2
        obtain ⟨n3, e3, _, w3⟩ := DataW.trod_int Tryd.underlying2 t3
        cases e0; cases e1; cases e2; cases e3
        have c0 := hc 0 (by omega)
        have c1 := hc 1 (by omega)
        have c2 := hc 2 (by omega)
        have c3 := hc 3 (by omega)
        rw [Addr.add_lit, Addr.add_lit] at c0 c1 c2 c3
        exact ⟨(n0, n1, n2, n3), ⟨w0, w1, w2, w3⟩, c0, c1, c2, c3⟩
    obtain ⟨V, hV⟩ := choose_lt key
    refine ⟨some ⟨b, o, none⟩, _, (List.range len).map V, by rw [List.length_map, List.length_range], fun j hj => ?_, fun z hz => ?_⟩
    · have hj' : j < len := by simpa using hj
      obtain ⟨_, k⟩ := hV j hj'
      exact ⟨b, o, rfl, by simpa using k⟩
    · obtain ⟨i, hi, rfl⟩ := List.mem_map.1 hz
      exact (hV i (by simpa using hi)).1
end Go.Proofs.YtllfkgdmneabiaaDoor
