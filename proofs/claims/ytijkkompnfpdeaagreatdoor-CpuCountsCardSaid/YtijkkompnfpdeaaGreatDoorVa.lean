/- CpuCounts: what the core has, step by step, in plain words. No program in sight. -/
import Derived.Test.YtijkkompnfpdeaaGreatDoorUa
set_option linter.unusedVariables false
set_option linter.unusedSimpArgs false
namespace Go.Proofs.YtijkkompnfpdeaaGreatDoor
open Go.RowKit

def C8 (n : UInt8) : List I4 := [(1, 4, 0, n), (1, 5, 0, 1), (13, 1, 2, 0), (3, 3, 3, 1), (20, 1, 0, 0), (3, 2, 2, 5), (16, 2, 4, 251), (22, 0, 0, 0)]
/-- The sum of the first ones. -/
def sm (d : List UInt8) : Nat → UInt32
  | 0 => 0
  | k + 1 => sm d k + UInt32.ofNat (d.getD k 0).toNat
def st8 (n : UInt8) (d : List UInt8) : Nat → Cs
  | 0 => ⟨[0, 0, 0, 0, 0, 0, 0, 0], 0, d, [], false⟩
  | i + 1 => (stepC (C8 n) (st8 n d i)).1
/-- Ahead of a byte. -/
def P8 (n : UInt8) (d : List UInt8) (k : Nat) (v : UInt32) : Cs := ⟨[0, v, UInt32.ofNat k, sm d k, UInt32.ofNat (0 * 256 + n.toNat), 1, 0, 0], if k = d.length then 7 else 2, d, d.take k, false⟩
def A8 (n : UInt8) (d : List UInt8) (k : Nat) : Cs := ⟨[0, UInt32.ofNat (d.getD k 0).toNat, UInt32.ofNat k, sm d k, UInt32.ofNat (0 * 256 + n.toNat), 1, 0, 0], 3, d, d.take k, false⟩
def B8 (n : UInt8) (d : List UInt8) (k : Nat) : Cs := ⟨[0, UInt32.ofNat (d.getD k 0).toNat, UInt32.ofNat k, sm d (k + 1), UInt32.ofNat (0 * 256 + n.toNat), 1, 0, 0], 4, d, d.take k, false⟩
def D8 (n : UInt8) (d : List UInt8) (k : Nat) : Cs := ⟨[0, UInt32.ofNat (d.getD k 0).toNat, UInt32.ofNat k, sm d (k + 1), UInt32.ofNat (0 * 256 + n.toNat), 1, 0, 0], 5, d, d.take (k + 1), false⟩
def F8 (n : UInt8) (d : List UInt8) (k : Nat) : Cs := ⟨[0, UInt32.ofNat (d.getD k 0).toNat, UInt32.ofNat (k + 1), sm d (k + 1), UInt32.ofNat (0 * 256 + n.toNat), 1, 0, 0], 6, d, d.take (k + 1), false⟩
theorem pa {n : UInt8} {d : List UInt8} {k : Nat} {v : UInt32} (hk : k < d.length) (hn : d.length ≤ 250) : stepC (C8 n) (P8 n d k v) = (A8 n d k, false, ak0, 0) := by
  have hp : (plc (P8 n d k v) (13, 1, 2, 0)).toNat = k := by
    show (UInt32.ofNat k + UInt32.ofNat 0).toNat = k
    rw [UInt32.toNat_add, UInt32.toNat_ofNat', UInt32.toNat_ofNat']; omega
  have e : P8 n d k v = ⟨[0, v, UInt32.ofNat k, sm d k, UInt32.ofNat (0 * 256 + n.toNat), 1, 0, 0], 2, d, d.take k, false⟩ := by unfold P8; rw [if_neg (by omega)]
  have hd : doesC (13, 1, 2, 0) (P8 n d k v) = some (wrg (P8 n d k v) 1 (UInt32.ofNat (d.getD k 0).toNat), 0) := by
    show (if (plc (P8 n d k v) (13, 1, 2, 0)).toNat + 1 ≤ d.length then some (wrg (P8 n d k v) 1 (UInt32.ofNat (d.getD (plc (P8 n d k v) (13, 1, 2, 0)).toNat 0).toNat), (0 : Int)) else none) = _
    rw [hp, if_pos (by omega)]
  rw [e] at hd ⊢
  show (match doesC (13, 1, 2, 0) _ with | some (t, dd) => ({ t with at_ := t.at_ + (1 + dd) }, false, ak0, (0 : Int)) | none => (_, false, ak0, 15)) = _
  rw [hd]; rfl
theorem pb {n : UInt8} {d : List UInt8} {k : Nat} : stepC (C8 n) (A8 n d k) = (B8 n d k, false, ak0, 0) := rfl
theorem pc {n : UInt8} {d : List UInt8} {k : Nat} (hk : k < d.length) : stepC (C8 n) (B8 n d k) = (D8 n d k, false, ak0, 0) := by
  have e : d.take (k + 1) = d.take k ++ [UInt8.ofNat (UInt32.ofNat (d.getD k 0).toNat).toNat] := by
    rw [List.take_succ_eq_append_getElem hk]
    congr 2
    apply UInt8.toNat_inj.1
    rw [UInt8.toNat_ofNat', UInt32.toNat_ofNat']
    have := d[k].toNat_lt
    simp [hk]
  unfold D8
  rw [e]
  rfl
theorem pd {n : UInt8} {d : List UInt8} {k : Nat} (hk : k < 250) : stepC (C8 n) (D8 n d k) = (F8 n d k, false, ak0, 0) := by
  have e : UInt32.ofNat (k + 1) = UInt32.ofNat k + 1 := by
    apply UInt32.toNat_inj.1
    rw [UInt32.toNat_add, UInt32.toNat_ofNat', UInt32.toNat_ofNat']
    simp
  unfold F8
  rw [e]
  rfl
theorem pe {n : UInt8} {d : List UInt8} {k : Nat} (hk : k < d.length) (hl : d.length ≤ 250) (hn : n.toNat = d.length) : stepC (C8 n) (F8 n d k) = (P8 n d (k + 1) (UInt32.ofNat (d.getD k 0).toNat), false, ak0, 0) := by
  have hh : holdsP 16 (UInt32.ofNat (k + 1)) (UInt32.ofNat (0 * 256 + n.toNat)) = decide (k + 1 ≠ d.length) := by
    show (UInt32.ofNat (k + 1) != UInt32.ofNat (0 * 256 + n.toNat)) = _
    rw [Bool.eq_iff_iff]
    simp only [bne_iff_ne, ne_eq, decide_eq_true_eq, hn, Nat.zero_mul, Nat.zero_add]
    constructor
    · intro h h2; exact h (by rw [h2])
    · intro h h2
      have := congrArg UInt32.toNat h2
      rw [UInt32.toNat_ofNat', UInt32.toNat_ofNat'] at this
      omega
  have hd : doesC (16, 2, 4, 251) (F8 n d k) = some (F8 n d k, if holdsP 16 (UInt32.ofNat (k + 1)) (UInt32.ofNat (0 * 256 + n.toNat)) then -5 else 0) := rfl
  show (match doesC (16, 2, 4, 251) (F8 n d k) with | some (t, dd) => ({ t with at_ := t.at_ + (1 + dd) }, false, ak0, (0 : Int)) | none => (F8 n d k, false, ak0, 15)) = _
  rw [hd, hh]
  unfold P8
  by_cases h : k + 1 = d.length
  · rw [if_pos h]
    simp only [h, ne_eq, not_true_eq_false, decide_false, Bool.false_eq_true, if_false]
    unfold F8; simp only [h]; rfl
  · rw [if_neg h]
    simp only [ne_eq, h, not_false_eq_true, decide_true, if_true]
    rfl
/-- Where the core is. -/
def Ph (n : UInt8) (d : List UInt8) (i : Nat) : Prop := (stepC (C8 n) (st8 n d i)).2 = (false, ak0, 0) ∧ (st8 n d i).says.length < 256
set_option maxRecDepth 20000 in
theorem st8_five {n : UInt8} {d : List UInt8} (hl : d.length ≤ 250) (hn : n.toNat = d.length) (h0 : 0 < d.length) : ∀ k, k ≤ d.length → (∃ v, st8 n d (2 + 5 * k) = P8 n d k v) ∧ ∀ i, i < 2 + 5 * k → Ph n d i
  | 0, _ => by
    have e0 : st8 n d 2 = P8 n d 0 0 := by unfold P8; rw [if_neg (by omega)]; rfl
    refine ⟨⟨0, e0⟩, fun i hi => ?_⟩
    obtain rfl | rfl : i = 0 ∨ i = 1 := by omega
    · exact ⟨rfl, by show ([] : List UInt8).length < 256; decide⟩
    · exact ⟨rfl, by show ([] : List UInt8).length < 256; decide⟩
  | k + 1, hk => by
    obtain ⟨⟨v, hv⟩, hi⟩ := st8_five hl hn h0 k (by omega)
    have e1 : st8 n d (2 + 5 * k + 1) = A8 n d k := by rw [st8, hv, pa (by omega) hl]
    have e2 : st8 n d (2 + 5 * k + 2) = B8 n d k := by rw [st8, e1, pb]
    have e3 : st8 n d (2 + 5 * k + 3) = D8 n d k := by rw [st8, e2, pc (by omega)]
    have e4 : st8 n d (2 + 5 * k + 4) = F8 n d k := by rw [st8, e3, pd (by omega)]
    have e5 : st8 n d (2 + 5 * k + 5) = P8 n d (k + 1) (UInt32.ofNat (d.getD k 0).toNat) := by rw [st8, e4, pe (by omega) hl hn]
    refine ⟨⟨_, e5⟩, fun i hlt => ?_⟩
    by_cases h : i < 2 + 5 * k
    · exact hi i h
    · have t1 : (d.take k).length < 256 := by rw [List.length_take]; omega
      have t2 : (d.take (k + 1)).length < 256 := by rw [List.length_take]; omega
      obtain rfl | rfl | rfl | rfl | rfl : i = 2 + 5 * k ∨ i = 2 + 5 * k + 1 ∨ i = 2 + 5 * k + 2 ∨ i = 2 + 5 * k + 3 ∨ i = 2 + 5 * k + 4 := by omega
      · exact ⟨by rw [hv, pa (by omega) hl], by rw [hv]; exact t1⟩
      · exact ⟨by rw [e1, pb], by rw [e1]; exact t1⟩
      · exact ⟨by rw [e2, pc (by omega)], by rw [e2]; exact t1⟩
      · exact ⟨by rw [e3, pd (by omega)], by rw [e3]; exact t2⟩
      · exact ⟨by rw [e4, pe (by omega) hl hn], by rw [e4]; exact t2⟩
theorem st8_step {n : UInt8} {d : List UInt8} {i : Nat} (h : Ph n d i) : stepC (C8 n) (st8 n d i) = (st8 n d (i + 1), false, ak0, 0) := by
  obtain ⟨h1, _⟩ := h
  rw [st8]
  exact Prod.ext rfl h1
theorem st8_end {n : UInt8} {d : List UInt8} (hl : d.length ≤ 250) (hn : n.toNat = d.length) (h0 : 0 < d.length) : ∃ v, st8 n d (2 + 5 * d.length) = ⟨[0, v, UInt32.ofNat d.length, sm d d.length, UInt32.ofNat (0 * 256 + n.toNat), 1, 0, 0], 7, d, d, false⟩ := by
  obtain ⟨⟨v, hv⟩, _⟩ := st8_five hl hn h0 d.length (Nat.le_refl _)
  refine ⟨v, ?_⟩
  rw [hv, P8, if_pos rfl, List.take_length]
theorem st8_last {n : UInt8} {d : List UInt8} {v k m u : UInt32} : stepC (C8 n) ⟨[0, v, k, m, u, 1, 0, 0], 7, d, d, false⟩ = (⟨[0, v, k, m, u, 1, 0, 0], 8, d, d, true⟩, true, { ak0 with what := 20 }, 0) := rfl
theorem C8_ok (n : UInt8) : (C8 n).all ik = true := by simp [C8, ik, ck, fl, rck]
end Go.Proofs.YtijkkompnfpdeaaGreatDoor
