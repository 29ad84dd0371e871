/- Bounds of small whole numbers. Instructions: the arguments of the chapter's laws, opened. Images: an image that a law is handed, opened. CpuPlays: replies, and an image with its bounds, that a law is handed, opened. -/
import Derived.Test.YtijkkompnfpdeaaGreatDoorP00
import Derived.Test.YtijkkompnfpdeaaGreatDoorRows
import Derived.WideShapes
import Derived.ChangeSame
import Derived.OpenShut
import Derived.ProofKit
import Derived.Lib.SmallJoins
import Derived.Test.YtijkkompnfpdeaaGreatDoorP02
import Derived.Deep.Slices
import Derived.Deep.Strs
import Derived.Test.YtijkkompnfpdeaaGreatDoorP23
import Derived.SizedLaws
namespace Go.Proofs.YtijkkompnfpdeaaGreatDoor
open Go.RowKit
theorem wf_u32 {a : Int} (h : (Lit.int .u32 a).wf = true) : 0 ≤ a ∧ a < 4294967296 := by
  have h2 : (decide (IntKind.u32.min ≤ a) && decide (a ≤ IntKind.u32.max)) = true := h
  have e1 : IntKind.u32.min = 0 := by decide
  have e2 : IntKind.u32.max = 4294967295 := by decide
  rw [e1, e2] at h2
  simp at h2
  omega
theorem wf_u8 {a : Int} (h : (Lit.int .u8 a).wf = true) : 0 ≤ a ∧ a < 256 := by
  have h2 : (decide (IntKind.u8.min ≤ a) && decide (a ≤ IntKind.u8.max)) = true := h
  have e1 : IntKind.u8.min = 0 := by decide
  have e2 : IntKind.u8.max = 255 := by decide
  rw [e1, e2] at h2
  simp at h2
  omega
end Go.Proofs.YtijkkompnfpdeaaGreatDoor
set_option linter.unusedVariables false
set_option linter.unusedSimpArgs false
set_option maxRecDepth 20000
namespace Go.Proofs.YtijkkompnfpdeaaGreatDoor
open Go.RowKit Go.ChangeShapes Go.WideShapes Go.ChangeAt Go.Joins
section
variable {H : Type} {enc : TypeId × Value → H} {W : World} {r : Reach} {b0 base : Nat} {sp : Nat → Bool} {held : Bool}
theorem u8_nat {x : Int} (h : (Lit.int .u8 x).wf = true) : ∃ n : Nat, x = (n : Int) ∧ n < 256 := ⟨x.toNat, by have := wf_u8 h; omega, by have := wf_u8 h; omega⟩
theorem open_ins {v : Value} {d : DataW H} {p : List MemPlace} (hv : Value.okWide Tryz.prog W r b0 26 v) (h : DataW.Trod enc Tryz.prog W base sp held 26 v d p) :
    ∃ op a b c : Nat, v = .agg #[.int .u8 op, .int .u8 a, .int .u8 b, .int .u8 c] ∧ op < 256 ∧ a < 256 ∧ b < 256 ∧ c < 256 := by
  obtain ⟨c0, c1, c2, c3, y0, y1, y2, y3, n, rfl, _, _, t0, t1, t2, t3⟩ := open_agg4 Tryz.underlying26 (by kernel_rfl) (by kernel_rfl) hv h
  obtain ⟨a0, e0, _, w0⟩ := DataW.trod_int Tryz.underlying24 t0
  obtain ⟨a1, e1, _, w1⟩ := DataW.trod_int Tryz.underlying5 t1
  obtain ⟨a2, e2, _, w2⟩ := DataW.trod_int Tryz.underlying5 t2
  obtain ⟨a3, e3, _, w3⟩ := DataW.trod_int Tryz.underlying5 t3
  cases e0; cases e1; cases e2; cases e3
  obtain ⟨n0, rfl, l0⟩ := u8_nat w0
  obtain ⟨n1, rfl, l1⟩ := u8_nat w1
  obtain ⟨n2, rfl, l2⟩ := u8_nat w2
  obtain ⟨n3, rfl, l3⟩ := u8_nat w3
  exact ⟨n0, n1, n2, n3, rfl, l0, l1, l2, l3⟩
theorem okWide_arr {n : Nat} {e t : TypeId} {v : Value} (ht : Tryz.prog.underlying t = some (.array n e)) (hv : Value.okWide Tryz.prog W r b0 t v) : ∃ cs, v = .agg cs ∧ cs.size = Tryz.prog.cellsOf t := by
  cases v <;> simp_all [Value.okWide, Cell.okWide, Cell.ok, Value.formed]
end
end Go.Proofs.YtijkkompnfpdeaaGreatDoor
set_option linter.unusedVariables false
set_option linter.unusedSimpArgs false
namespace Go.Proofs.YtijkkompnfpdeaaGreatDoor
open Go.RowKit Go.ChangeShapes Go.WideShapes Go.ChangeAt Go.Joins Go.Deep
section
variable {H : Type} {enc : TypeId × Value → H} {W : World}
theorem u8_of_wf {x : Int} (h : (Lit.int .u8 x).wf = true) : ∃ z : UInt8, x = (z.toNat : Int) := by
  obtain ⟨k, rfl, hk⟩ := u8_nat h
  exact ⟨UInt8.ofNat k, by have : (UInt8.ofNat k).toNat = k := by simp; omega
                           rw [this]⟩
set_option maxRecDepth 20000 in
theorem opened_bytes {cs : List Value} {fuel : Nat} {x : DataW H × List MemPlace} (h : DataW.trod enc Tryz.prog W 0 (fun _ => true) true fuel 22 cs = some x) :
    ∃ a c xs, cs = [.slice a (xs : List UInt8).length c] ∧ CellsIn W a (xs.map bv) := by
  rcases open_slice Tryz.underlying22 h with ⟨rfl, _⟩ | ⟨a, len, cap, m, n, D, Pl, rfl, _, hl, _, hm, _, hx⟩
  · exact ⟨none, 0, [], rfl, fun j hj => by simp at hj⟩
  · simp only [if_true] at hm
    subst hm
    have hC : Tryz.prog.cellsOf 5 = 1 := by kernel_rfl
    rw [hC] at hx
    by_cases h0 : len = 0
    · subst h0
      exact ⟨_, _, [], rfl, fun j hj => by simp at hj⟩
    have hsp : a.spot = none := by
      obtain ⟨cs', h1, _⟩ := hx 0 (by omega)
      obtain ⟨_, hlen, hc⟩ := World.cells?_some h1
      match cs', hlen with
      | [v0], _ => simpa [Addr.add] using World.cell?_spot (hc 0 (by omega))
    obtain ⟨b, o, s⟩ := a
    obtain rfl : s = none := hsp
    have key : ∀ i, i < len → ∃ z : UInt8, W.cell? ⟨b, o + i, none⟩ = some (bv z) := by
      intro i hi
      obtain ⟨cs', h1, h2⟩ := hx i (by omega)
      obtain ⟨_, hlen, hc⟩ := World.cells?_some h1
      match cs', hlen with
      | [v0], _ =>
        obtain ⟨n0, e0, _, w0⟩ := DataW.trod_int Tryz.underlying5 h2
        cases e0
        obtain ⟨z, rfl⟩ := u8_of_wf w0
        have c0 := hc 0 (by omega)
        rw [Addr.add_lit, Addr.add_lit] at c0
        exact ⟨z, by simpa using c0⟩
    obtain ⟨V, hV⟩ := choose_lt key
    refine ⟨some ⟨b, o, none⟩, _, (List.range len).map V, by rw [List.length_map, List.length_range], fun j hj => ?_⟩
    have hj' : j < len := by simpa using hj
    exact ⟨b, o, rfl, by simp [hV j hj']⟩
set_option maxRecDepth 20000 in
theorem opened_ins {cs : List Value} {fuel : Nat} {x : DataW H × List MemPlace} (h : DataW.trod enc Tryz.prog W 0 (fun _ => true) true fuel 27 cs = some x) :
    ∃ a c xs, cs = [.slice a (xs : List I4).length c] ∧ CellsIn W a (ics xs) := by
  rcases open_slice Tryz.underlying27 h with ⟨rfl, _⟩ | ⟨a, len, cap, m, n, D, Pl, rfl, _, hl, _, hm, _, hx⟩
  · exact ⟨none, 0, [], rfl, fun j hj => by simp [ics] at hj⟩
  · simp only [if_true] at hm
    subst hm
    have hC : Tryz.prog.cellsOf 26 = 4 := by kernel_rfl
    rw [hC] at hx
    by_cases h0 : len = 0
    · subst h0
      exact ⟨_, _, [], rfl, fun j hj => by simp [ics] at hj⟩
    have hsp : a.spot = none := by
      obtain ⟨cs', h1, _⟩ := hx 0 (by omega)
      obtain ⟨_, hlen, hc⟩ := World.cells?_some h1
      match cs', hlen with
      | [v0, v1, v2, v3], _ => simpa [Addr.add] using World.cell?_spot (hc 0 (by omega))
    obtain ⟨b, o, s⟩ := a
    obtain rfl : s = none := hsp
    have key : ∀ i, i < len → ∃ z : I4, ∀ k, k < 4 → W.cell? ⟨b, o + (i * 4 + k), none⟩ = (i4c z)[k]? := by
      intro i hi
      obtain ⟨cs', h1, h2⟩ := hx i (by omega)
      obtain ⟨_, hlen, hc⟩ := World.cells?_some h1
      obtain ⟨y0, y1, y2, y3, n', _, _, t0, t1, t2, t3⟩ := trod_struct4 Tryz.underlying26 h2
      match cs', hlen with
      | [v0, v1, v2, v3], _ =>
        have o0 : Tryz.prog.cellsOf 24 = 1 := by kernel_rfl
        have o1 : Tryz.prog.cellsOf 5 = 1 := by kernel_rfl
        simp only [o0, o1, List.drop_succ_cons, List.drop_zero, List.take_succ_cons, List.take_zero] at t0 t1 t2 t3
        obtain ⟨n0, e0, _, w0⟩ := DataW.trod_int Tryz.underlying24 t0
        obtain ⟨n1, e1, _, w1⟩ := DataW.trod_int Tryz.underlying5 t1
        obtain ⟨n2, e2, _, w2⟩ := DataW.trod_int Tryz.underlying5 t2
        obtain ⟨n3, e3, _, w3⟩ := DataW.trod_int Tryz.underlying5 t3
        cases e0; cases e1; cases e2; cases e3
        obtain ⟨z0, rfl⟩ := u8_of_wf w0
        obtain ⟨z1, rfl⟩ := u8_of_wf w1
        obtain ⟨z2, rfl⟩ := u8_of_wf w2
        obtain ⟨z3, rfl⟩ := u8_of_wf w3
        refine ⟨(z0, z1, z2, z3), fun k hk => ?_⟩
        have ck := hc k hk
        rw [Addr.add_lit, Addr.add_lit, Nat.add_assoc] at ck
        exact ck
    obtain ⟨V, hV⟩ := choose_lt key
    refine ⟨some ⟨b, o, none⟩, _, (List.range len).map V, by rw [List.length_map, List.length_range], fun j hj => ?_⟩
    have hjl : j < len * 4 := by rw [ics_len] at hj; simpa using hj
    have hi : j / 4 < len := by omega
    have hk := hV (j / 4) hi (j % 4) (by omega)
    rw [show j / 4 * 4 + j % 4 = j by omega] at hk
    have hg := ics_get ((List.range len).map V) (j / 4) (j % 4) (by simpa using hi) (by omega)
    rw [show j / 4 * 4 + j % 4 = j by omega] at hg
    refine ⟨b, o, rfl, ?_⟩
    rw [hk, ← List.getElem?_eq_getElem hj, hg]
    simp
set_option maxRecDepth 20000 in
theorem open_image {r : Reach} {b0 : Nat} {v : Value} {d : DataW H} {p : List MemPlace} (hv : Value.okWide Tryz.prog W r b0 29 v) (h : DataW.Trod enc Tryz.prog W 0 (fun _ => true) true 29 v d p) :
    ∃ (n : Int) (ad : Option Addr) (dc : Nat) (ac : Option Addr) (cc : Nat) (xs : List UInt8) (is : List I4), v = imV n ad xs.length dc ac is.length cc ∧ CellsIn W ad (xs.map bv) ∧ CellsIn W ac (ics is) ∧ (Lit.int .i64 n).wf = true := by
  obtain ⟨c0, c1, c2, y0, y1, y2, n, rfl, _, _, t0, t1, t2⟩ := open_agg3 Tryz.underlying29 (by kernel_rfl) (by kernel_rfl) hv h
  obtain ⟨a0, e0, _, w0⟩ := DataW.trod_int Tryz.underlying3 t0
  obtain ⟨ad, dc, xs, e1, h1⟩ := opened_bytes t1
  obtain ⟨ac, cc, is, e2, h2⟩ := opened_ins t2
  cases e0; cases e1; cases e2
  exact ⟨_, _, _, _, _, xs, is, rfl, h1, h2, w0⟩
end
end Go.Proofs.YtijkkompnfpdeaaGreatDoor
set_option linter.unusedVariables false
set_option linter.unusedSimpArgs false
namespace Go.Proofs.YtijkkompnfpdeaaGreatDoor
open Go.RowKit Go.ChangeShapes Go.WideShapes Go.ChangeAt Go.Joins Go.Deep
section
variable {H : Type} {enc : TypeId × Value → H} {W : World}
theorem u32_of_wf {x : Int} (h : (Lit.int .u32 x).wf = true) : ∃ z : UInt32, x = (z.toNat : Int) := by
  have hb : 0 ≤ x ∧ x < 4294967296 := by
    simp only [Lit.wf, IntKind.min, IntKind.max, IntKind.bits, IntKind.signed, Bool.and_eq_true, decide_eq_true_eq] at h
    simp at h
    omega
  exact ⟨UInt32.ofNat x.toNat, by rw [UInt32.toNat_ofNat', Nat.mod_eq_of_lt (by omega)]; omega⟩
set_option maxRecDepth 20000 in
theorem opened_reps {cs : List Value} {fuel : Nat} {x : DataW H × List MemPlace} (h : DataW.trod enc Tryz.prog W 0 (fun _ => true) true fuel 47 cs = some x) :
    ∃ a c xs, cs = [.slice a xs.length c] ∧ RepsIn W a xs := by
  rcases open_slice Tryz.underlying47 h with ⟨rfl, _⟩ | ⟨a, len, cap, m, n, D, Pl, rfl, _, hl, _, hm, _, hx⟩
  · exact ⟨none, 0, [], rfl, fun j hj => by simp at hj⟩
  · simp only [if_true] at hm
    subst hm
    have hC : Tryz.prog.cellsOf 59 = 2 := by kernel_rfl
    rw [hC] at hx
    by_cases h0 : len = 0
    · subst h0
      exact ⟨_, _, [], rfl, fun j hj => by simp at hj⟩
    have hsp : a.spot = none := by
      obtain ⟨cs', h1, _⟩ := hx 0 (by omega)
      obtain ⟨_, hlen, hc⟩ := World.cells?_some h1
      match cs', hlen with
      | [v0, v1], _ => simpa [Addr.add] using World.cell?_spot (hc 0 (by omega))
    obtain ⟨b, o, s⟩ := a
    obtain rfl : s = none := hsp
    have key : ∀ i, i < len → ∃ z : Int × UInt32, W.cell? ⟨b, o + i * 2, none⟩ = some (.int .i64 z.1) ∧ W.cell? ⟨b, o + i * 2 + 1, none⟩ = some (wv z.2) := by
      intro i hi
      obtain ⟨cs', h1, h2⟩ := hx i (by omega)
      obtain ⟨_, hlen, hc⟩ := World.cells?_some h1
      obtain ⟨y0, y1, n', _, _, t0, t1⟩ := trod_struct2 Tryz.underlying59 h2
      match cs', hlen with
      | [v0, v1], _ =>
        have o0 : Tryz.prog.cellsOf 31 = 1 := by kernel_rfl
        have o1 : Tryz.prog.cellsOf 35 = 1 := by kernel_rfl
        simp only [o0, o1, List.drop_succ_cons, List.drop_zero, List.take_succ_cons, List.take_zero] at t0 t1
        obtain ⟨n0, e0, _, w0⟩ := DataW.trod_int Tryz.underlying31 t0
        obtain ⟨n1, e1, _, w1⟩ := DataW.trod_int Tryz.underlying35 t1
        cases e0; cases e1
        obtain ⟨z, rfl⟩ := u32_of_wf w1
        have c0 := hc 0 (by omega)
        have c1 := hc 1 (by omega)
        rw [Addr.add_lit, Addr.add_lit] at c0 c1
        exact ⟨(n0, z), c0, c1⟩
    obtain ⟨V, hV⟩ := choose_lt key
    refine ⟨some ⟨b, o, none⟩, _, (List.range len).map V, by rw [List.length_map, List.length_range], fun j hj => ?_⟩
    have hj' : j < len := by simpa using hj
    exact ⟨b, o, rfl, by simpa using hV j hj'⟩
/-- A slice that is read is no longer than the reach. -/
theorem len_reach {t e : TypeId} {fuel l c : Nat} {a : Option Addr} {x : DataW H × List MemPlace} (hu : Tryz.prog.underlying t = some (.slice e)) (hb : 1 ≤ Tryz.prog.bytesOf e) (h : DataW.trod enc Tryz.prog W 0 (fun _ => true) true fuel t [.slice a l c] = some x) (hw : ∀ n ∈ x.1.weights Tryz.prog t, n ≤ reachBytes) : l ≤ reachBytes := by
  rcases open_slice hu h with ⟨e1, _⟩ | ⟨a', len, cap, m, n, D, Pl, e1, _, hl, _, hm, hx, _⟩
  · simp at e1; omega
  · simp at e1
    obtain ⟨_, rfl, _⟩ := e1
    have h1 := hw ((((List.range l).map D).length + ((List.range (m - l)).map fun j => D (l + j)).length) * Tryz.prog.bytesOf e) (by rw [hx]; simp [DataW.weights, hu])
    rw [List.length_map, List.length_range] at h1
    have h2 : l * 1 ≤ (l + ((List.range (m - l)).map fun j => D (l + j)).length) * Tryz.prog.bytesOf e := Nat.mul_le_mul (by omega) hb
    omega
set_option maxRecDepth 20000 in
theorem open_imageL {r : Reach} {b0 : Nat} {v : Value} {d : DataW H} {p : List MemPlace} (hv : Value.okWide Tryz.prog W r b0 29 v) (h : DataW.Trod enc Tryz.prog W 0 (fun _ => true) true 29 v d p) (hw : ∀ n ∈ d.weights Tryz.prog 29, n ≤ reachBytes) :
    ∃ (n : Int) (ad : Option Addr) (dc : Nat) (ac : Option Addr) (cc : Nat) (xs : List UInt8) (is : List I4), v = imV n ad xs.length dc ac is.length cc ∧ CellsIn W ad (xs.map bv) ∧ CellsIn W ac (ics is) ∧ xs.length ≤ reachBytes ∧ is.length ≤ reachBytes := by
  obtain ⟨c0, c1, c2, y0, y1, y2, n, rfl, rfl, _, t0, t1, t2⟩ := open_agg3 Tryz.underlying29 (by kernel_rfl) (by kernel_rfl) hv h
  obtain ⟨a0, e0, _, w0⟩ := DataW.trod_int Tryz.underlying3 t0
  obtain ⟨ad, dc, xs, e1, h1⟩ := opened_bytes t1
  obtain ⟨ac, cc, is, e2, h2⟩ := opened_ins t2
  cases e0; cases e1; cases e2
  have hw1 : ∀ n ∈ y1.1.weights Tryz.prog 22, n ≤ reachBytes := fun n hn => hw n (by simp [DataW.weights, Tryz.underlying29, DataW.weightsEach, hn])
  have hw2 : ∀ n ∈ y2.1.weights Tryz.prog 27, n ≤ reachBytes := fun n hn => hw n (by simp [DataW.weights, Tryz.underlying29, DataW.weightsEach, hn])
  exact ⟨_, _, _, _, _, xs, is, rfl, h1, h2, len_reach Tryz.underlying22 (of_decide_eq_true (by kernel_rfl)) t1 hw1, len_reach Tryz.underlying27 (of_decide_eq_true (by kernel_rfl)) t2 hw2⟩
end
end Go.Proofs.YtijkkompnfpdeaaGreatDoor
