/- Instructions: the document's numbers, parts and fields, in plain words. No program in sight. -/
import Derived.Test.YtcfoljdpffonhaaGreatDoorJm
set_option linter.unusedVariables false
set_option linter.unusedSimpArgs false
namespace Go.Proofs.YtcfoljdpffonhaaGreatDoor
open Go.RowKit

/-- Digits, one by one. -/
def accD (n : Nat) : List UInt8 → Option Nat
  | [] => some n
  | c :: r => if 48 ≤ c.toNat ∧ c.toNat ≤ 57 then accD (10 * n + (c.toNat - 48)) r else none
theorem accD_app : ∀ (s : List UInt8) (n : Nat) (c : UInt8), accD n (s ++ [c]) = (accD n s).bind fun m => if 48 ≤ c.toNat ∧ c.toNat ≤ 57 then some (10 * m + (c.toNat - 48)) else none
  | [], n, c => by simp [accD]
  | a :: s, n, c => by
    rw [List.cons_append, accD, accD]
    split
    · exact accD_app s _ c
    · rfl
theorem accD_dec (u : Nat) : accD 0 (Lib.decDigits u) = some u := by
  induction u using Nat.strongRecOn with
  | _ u ih =>
    rw [Lib.decDigits]
    split
    · rename_i h
      have e : (UInt8.ofNat (48 + u)).toNat = 48 + u := by simp; omega
      simp only [accD, e]
      rw [if_pos (by omega)]
      congr 1; omega
    · rename_i h
      have e : (UInt8.ofNat (48 + u % 10)).toNat = 48 + u % 10 := by simp; omega
      rw [accD_app, ih (u / 10) (by omega)]
      simp only [Option.bind_some, e]
      rw [if_pos (by omega)]
      congr 1; omega
theorem accD_lt : ∀ (s : List UInt8) (n m : Nat), accD n s = some m → m < (n + 1) * 10 ^ s.length
  | [], n, m, h => by simp [accD] at h; subst h; simp
  | c :: s, n, m, h => by
    rw [accD] at h
    split at h
    · have := accD_lt s _ m h
      refine Nat.lt_of_lt_of_le this ?_
      rw [List.length_cons, Nat.pow_succ, Nat.mul_comm (10 ^ s.length) 10, ← Nat.mul_assoc]
      exact Nat.mul_le_mul_right _ (by omega)
    · cases h
/-- No digit is needless: it is the number's digits. -/
theorem dec_accD : ∀ (k : Nat) (s : List UInt8) (n : Nat), s.length = k → s ≠ [] → (s.length > 1 → s.head? ≠ some 48) → accD 0 s = some n → Lib.decDigits n = s ∧ (s.head? ≠ some 48 → 0 < n) := by
  intro k
  induction k with
  | zero => intro s n h1 h2; exact absurd (List.length_eq_zero_iff.1 h1) h2
  | succ k ih =>
    intro s n h1 h2 h3 h4
    rcases List.eq_nil_or_concat s with h | ⟨i, c, h⟩
    · exact absurd h h2
    · rw [List.concat_eq_append] at h
      subst h
      rw [accD_app, Option.bind_eq_some_iff] at h4
      obtain ⟨m, hm, h4⟩ := h4
      split at h4
      · rename_i hc
        cases h4
        cases i with
        | nil =>
          simp [accD] at hm
          subst hm
          refine ⟨?_, fun h => ?_⟩
          · rw [Nat.mul_zero, Nat.zero_add, Lib.decDigits, dif_pos (by omega)]
            show [_] = [c]
            congr 1
            rw [← UInt8.toNat_inj]; simp; omega
          · have : c ≠ 48 := fun e => h (by rw [e]; rfl)
            have : c.toNat ≠ 48 := fun e => this (by rw [← UInt8.toNat_inj]; simpa using e)
            omega
        | cons a i =>
          have hh : (a :: i).head? ≠ some 48 := by
            have := h3 (by simp)
            simpa using this
          have := ih (a :: i) m (by simpa using h1) (by simp) (fun _ => hh) hm
          have hm0 := this.2 hh
          refine ⟨?_, fun _ => by omega⟩
          rw [Lib.decDigits, dif_neg (by omega)]
          have e1 : (10 * m + (c.toNat - 48)) / 10 = m := by omega
          have e2 : (10 * m + (c.toNat - 48)) % 10 = c.toNat - 48 := by omega
          rw [e1, e2, this.1]
          congr 2
          rw [← UInt8.toNat_inj]; simp; omega
      · cases h4
/-- What is no number for its beginning, or its length. -/
def oddN (s : List UInt8) : Bool := s.isEmpty || decide (s.length > 10) || (decide (s.length > 1) && s.head? == some 48)
/-- The document's number. -/
def rnum (s : List UInt8) (most : Int) : Int := match nS s with
  | some n => if n ≤ most then n else -1
  | none => -1
theorem dec_head {u : Nat} (h : (Lib.decDigits u).head? = some 48) : u = 0 := by
  by_cases h0 : u = 0
  · exact h0
  · exfalso
    have key : ∀ u : Nat, 0 < u → (Lib.decDigits u).head? ≠ some 48 := by
      intro u
      induction u using Nat.strongRecOn with
      | _ u ih =>
        intro hu
        rw [Lib.decDigits]
        split
        · rename_i h
          simp only [List.head?_cons]
          intro e
          injection e with e
          rw [← UInt8.toNat_inj] at e
          simp at e; omega
        · rename_i h
          have := ih (u / 10) (by omega) (by omega)
          have hn := dec_ne (u / 10)
          generalize Lib.decDigits (u / 10) = l at *
          cases l with
          | nil => exact absurd rfl hn
          | cons a r => simpa using this
    exact key u (by omega) h
theorem rnum_odd {s : List UInt8} {most : Int} (h : oddN s = true) (hm : most < 10000000000) : rnum s most = -1 := by
  unfold rnum
  split
  · rename_i n hn
    obtain ⟨h0, h1⟩ := nS_some hn
    rw [itoa_nat h0] at h1
    rw [if_neg]
    unfold oddN at h
    simp only [Bool.or_eq_true, Bool.and_eq_true, decide_eq_true_eq, beq_iff_eq, List.isEmpty_iff] at h
    rcases h with (h | h) | h
    · exact absurd (h1.trans h) (dec_ne _)
    · intro hle
      have hl : (Lib.decDigits n.toNat).length ≤ 10 := by
        have key : ∀ u : Nat, u < 10000000000 → Lib.nDigits u ≤ 10 := by
          intro u hu
          by_cases h1 : u < 1
          · rw [Lib.nDigits_small (by omega)]; omega
          · have : ∀ k : Nat, 10 ^ k ≤ u → u < 10 ^ (k + 1) → Lib.nDigits u = k + 1 := fun k => Lib.nDigits_unique k u
            rcases (show (1 ≤ u ∧ u < 10) ∨ (10 ≤ u ∧ u < 100) ∨ (100 ≤ u ∧ u < 1000) ∨ (1000 ≤ u ∧ u < 10000) ∨ (10000 ≤ u ∧ u < 100000) ∨ (100000 ≤ u ∧ u < 1000000) ∨ (1000000 ≤ u ∧ u < 10000000) ∨ (10000000 ≤ u ∧ u < 100000000) ∨ (100000000 ≤ u ∧ u < 1000000000) ∨ (1000000000 ≤ u ∧ u < 10000000000) by omega) with h | h | h | h | h | h | h | h | h | h
            · rw [this 0 h.1 h.2]; omega
            · rw [this 1 h.1 h.2]; omega
            · rw [this 2 h.1 h.2]; omega
            · rw [this 3 h.1 h.2]; omega
            · rw [this 4 h.1 h.2]; omega
            · rw [this 5 h.1 h.2]; omega
            · rw [this 6 h.1 h.2]; omega
            · rw [this 7 h.1 h.2]; omega
            · rw [this 8 h.1 h.2]; omega
            · rw [this 9 h.1 h.2]; omega
        rw [Lib.decDigits_length]
        exact key _ (by omega)
      rw [h1] at hl; omega
    · have := dec_head (by rw [h1]; exact h.2)
      rw [this] at h1
      have h2 := congrArg List.length h1
      rw [Lib.decDigits, dif_pos (by omega)] at h2
      simp at h2; omega
  · rfl
theorem nS_acc {s : List UInt8} (h : oddN s = false) : nS s = (accD 0 s).map (fun n => (n : Int)) := by
  unfold oddN at h
  simp only [Bool.or_eq_false_iff, Bool.and_eq_false_iff, decide_eq_false_iff_not] at h
  obtain ⟨⟨h1, h2⟩, h3⟩ := h
  have hne : s ≠ [] := by rintro rfl; simp at h1
  have h4 : s.length > 1 → s.head? ≠ some 48 := by
    intro hl
    rcases h3 with h3 | h3
    · exact absurd hl h3
    · intro he; rw [he] at h3; simp at h3
  cases ha : accD 0 s with
  | some n =>
    have hd := (dec_accD _ s n rfl hne h4 ha).1
    have hlt := accD_lt s 0 n ha
    have hp : 10 ^ s.length ≤ 10 ^ 10 := Nat.pow_le_pow_right (by decide) (by omega)
    have hb : n < 10000000000 := by omega
    have := nS_itoa (n := (n : Int)) (by omega) (by omega)
    rw [itoa_nat (by omega)] at this
    simp only [Int.toNat_natCast] at this
    rw [hd] at this
    rw [this]; rfl
  | none =>
    cases hn : nS s with
    | none => rfl
    | some v =>
      obtain ⟨h0, h5⟩ := nS_some hn
      rw [itoa_nat h0] at h5
      have := accD_dec v.toNat
      rw [h5, ha] at this
      cases this
/-- Of any text that is no odd one: by its digits. -/
theorem rnum_acc {s : List UInt8} {most : Int} (h : oddN s = false) : rnum s most = match accD 0 s with | some n => if (n : Int) ≤ most then (n : Int) else -1 | none => -1 := by
  unfold rnum
  rw [nS_acc h]
  cases accD 0 s <;> rfl
end Go.Proofs.YtcfoljdpffonhaaGreatDoor
