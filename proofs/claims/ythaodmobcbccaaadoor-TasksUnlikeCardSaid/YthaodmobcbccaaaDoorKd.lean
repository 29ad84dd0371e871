/- The document's digits of a number. -/
import Derived.Test.YthaodmobcbccaaaDoorKc
import Derived.Lib.ItoaNum
import Derived.Lib.ItoaLen
set_option linter.unusedVariables false
set_option linter.unusedSimpArgs false
namespace Go.Proofs.YthaodmobcbccaaaDoor
open Go.RowKit
attribute [local go_sem] Oper.semAt_some

/-- A text of bytes. -/
abbrev str (l : List UInt8) : Value := .string ⟨l.toArray⟩
theorem dec_step {m : Nat} (h : ¬ m < 10) : Lib.decDigits m = Lib.decDigits (m / 10) ++ [UInt8.ofNat (48 + m % 10)] := by rw [Lib.decDigits, dif_neg h]

theorem cat_str (a b : List UInt8) : ((⟨a.toArray⟩ : ByteArray) ++ ⟨b.toArray⟩) = ⟨(a ++ b).toArray⟩ := by
  apply ByteArray.ext; simp
theorem dig_ext {r : Nat} (h : r < 10) : (⟨#[48, 49, 50, 51, 52, 53, 54, 55, 56, 57]⟩ : ByteArray).extract r (r + 1) = ⟨[UInt8.ofNat (48 + r)].toArray⟩ :=
  match r, h with
  | 0, _ => by rfl
  | 1, _ => by rfl
  | 2, _ => by rfl
  | 3, _ => by rfl
  | 4, _ => by rfl
  | 5, _ => by rfl
  | 6, _ => by rfl
  | 7, _ => by rfl
  | 8, _ => by rfl
  | 9, _ => by rfl
theorem cat_dig {r : Nat} (h : r < 10) (l : List UInt8) : (⟨#[48, 49, 50, 51, 52, 53, 54, 55, 56, 57]⟩ : ByteArray).extract r (r + 1) ++ ⟨l.toArray⟩ = ⟨(UInt8.ofNat (48 + r) :: l).toArray⟩ := by
  rw [dig_ext h, cat_str]; rfl
theorem neg_dig {r : Nat} (h : r < 10) (l : List UInt8) : (⟨#[45]⟩ : ByteArray) ++ (⟨#[48, 49, 50, 51, 52, 53, 54, 55, 56, 57]⟩ : ByteArray).extract r (r + 1) ++ ⟨l.toArray⟩ = ⟨(45 :: ([UInt8.ofNat (48 + r)] ++ l)).toArray⟩ := by
  rw [dig_ext h, show (⟨#[45]⟩ : ByteArray) = ⟨[45].toArray⟩ from rfl, cat_str, cat_str]; rfl
theorem dec_len (n : Nat) (h : n < 18446744073709551616) : (Lib.decDigits n).length ≤ 20 := by rw [Lib.decDigits_length]; exact Lib.nDigits_le20 n h

set_option maxHeartbeats 4000000 in
set_option maxRecDepth 20000 in
theorem digits_pos (w : World) (n : Nat) (hn : n < 9223372036854775808) :
    Calls Tryd.prog 20 #[.int .i64 n] w fun e w' => e = .returned (str (Lib.decDigits n)) ∧ w = w' := by
  have h0 : ¬ (n : Int) < 0 := by omega
  have hN := Lib.hid (dec_len n (by omega))
  have HNN := Lib.hid hn
  clear hn
  go_enter Tryd.func20, Tryd.ntmps20
  go_wp2
  go_loopw [0, 3] (fun i s wr => ∃ (m : Nat) (l : List UInt8), m ≤ n ∧ i = .int .i64 m ∧ s = str l ∧ Lib.decDigits n = Lib.decDigits m ++ l ∧ wr = w) (fun i _ _ => (intOf i).toNat)
  case atStart => exact ⟨n, [], Nat.le_refl _, rfl, rfl, by simp, rfl⟩
  case round =>
    obtain ⟨m, l, hm, rfl, rfl, hd, rfl⟩ := hrel
    have hll : l.length ≤ 20 := by have h1 := congrArg List.length hd; rw [List.length_append] at h1; have := hN.out; omega
    by_cases h9 : (m : Int) > 9
    · have hstep := dec_step (m := m) (by omega)
      obtain ⟨r, hr, hr10⟩ : ∃ r : Nat, r = m % 10 ∧ r < 10 := ⟨_, rfl, Nat.mod_lt _ (by omega)⟩
      obtain ⟨q, hq, hq2⟩ : ∃ q : Nat, q = m / 10 ∧ q < m := ⟨_, rfl, by omega⟩
      have c1 : (m : Int).tmod 10 = r := by rw [show (10 : Int) = ((10 : Nat) : Int) by rfl, ← Int.ofNat_tmod, hr]
      have c2 : (m : Int).tdiv 10 = q := by rw [show (10 : Int) = ((10 : Nat) : Int) by rfl, ← Int.ofNat_tdiv, hq]
      have c3 : IntKind.i64.wrap (r : Int) = r := by rw [IntKind.wrap_i64]; omega
      have c4 : IntKind.i64.wrap ((r : Int) + 1) = (r : Int) + 1 := by rw [IntKind.wrap_i64]; omega
      have c5 : IntKind.i64.wrap (q : Int) = q := by rw [IntKind.wrap_i64]; have := HNN.out; omega
      have c6 : ¬ 9223372036854775807 < min (r + 1) 10 - r + l.length := by omega
      rw [← hr, ← hq] at hstep
      rw [hstep] at hd
      have HD := Lib.hid hd
      have HQ := Lib.hid hq2
      clear hd hq hr hstep hq2
      go_wp2
      go_roundw
      case rel => exact ⟨q, _, by have := HQ.out; omega, by go_num, by rw [cat_dig hr10], by rw [HD.out]; simp, by first | rfl | trivial⟩
      case measure => have := HQ.out; simp [intOf]; omega
    · have c4 : IntKind.i64.wrap ((m : Int) + 1) = (m : Int) + 1 := by rw [IntKind.wrap_i64]; omega
      have c6 : ¬ 9223372036854775807 < min (m + 1) 10 - m + l.length := by omega
      have hm10 : m < 10 := by omega
      rw [Lib.decDigits_one hm10] at hd
      have HD := Lib.hid hd
      clear hd
      go_wp2
      go_ret
      exact ⟨by rw [HD.out]; exact congrArg (fun b => Ending.returned (Value.string b)) (cat_dig hm10 l), rfl⟩

set_option maxHeartbeats 4000000 in
set_option maxRecDepth 20000 in
theorem digits_neg (w : World) (n : Nat) (hn : n ≤ 9223372036854775808) (h0 : 0 < n) :
    Calls Tryd.prog 20 #[.int .i64 (-(n : Int))] w fun e w' => e = .returned (str (45 :: Lib.decDigits n)) ∧ w = w' := by
  have h0' : -(n : Int) < 0 := by omega
  have hN := Lib.hid (dec_len n (by omega))
  have HNN := Lib.hid hn
  clear hn
  go_enter Tryd.func20, Tryd.ntmps20
  go_wp2
  go_loopw [0, 3] (fun i s wr => ∃ (m : Nat) (l : List UInt8), m ≤ n ∧ 0 < m ∧ i = .int .i64 (-(m : Int)) ∧ s = str l ∧ Lib.decDigits n = Lib.decDigits m ++ l ∧ wr = w) (fun i _ _ => (-(intOf i)).toNat)
  case atStart => exact ⟨n, [], Nat.le_refl _, h0, rfl, rfl, by simp, rfl⟩
  case round =>
    obtain ⟨m, l, hm, hm0, rfl, rfl, hd, rfl⟩ := hrel
    have hll : l.length ≤ 20 := by have h1 := congrArg List.length hd; rw [List.length_append] at h1; have := hN.out; omega
    by_cases h9 : -(m : Int) < -9
    · have hstep := dec_step (m := m) (by omega)
      obtain ⟨r, hr, hr10⟩ : ∃ r : Nat, r = m % 10 ∧ r < 10 := ⟨_, rfl, Nat.mod_lt _ (by omega)⟩
      obtain ⟨q, hq, hq2, hq0⟩ : ∃ q : Nat, q = m / 10 ∧ q < m ∧ 0 < q := ⟨_, rfl, by omega, by omega⟩
      have c1 : (-(m : Int)).tmod 10 = -(r : Int) := by rw [Int.neg_tmod, show (10 : Int) = ((10 : Nat) : Int) by rfl, ← Int.ofNat_tmod, hr]
      have c2 : (-(m : Int)).tdiv 10 = -(q : Int) := by rw [Int.neg_tdiv, show (10 : Int) = ((10 : Nat) : Int) by rfl, ← Int.ofNat_tdiv, hq]
      have c3 : IntKind.i64.wrap (r : Int) = r := by rw [IntKind.wrap_i64]; omega
      have c3' : IntKind.i64.wrap (-(r : Int)) = -r := by rw [IntKind.wrap_i64]; omega
      have c4 : IntKind.i64.wrap ((r : Int) + 1) = (r : Int) + 1 := by rw [IntKind.wrap_i64]; omega
      have c5 : IntKind.i64.wrap (-(q : Int)) = -q := by rw [IntKind.wrap_i64]; have := HNN.out; omega
      have c6 : ¬ 9223372036854775807 < min (r + 1) 10 - r + l.length := by omega
      rw [← hr, ← hq] at hstep
      rw [hstep] at hd
      have HD := Lib.hid hd
      have HQ := Lib.hid (And.intro hq2 hq0)
      clear hd hq hr hstep hq2 hq0
      go_wp2
      go_roundw
      case rel => exact ⟨q, _, by have := HQ.out; omega, HQ.out.2, by go_num, by rw [cat_dig hr10], by rw [HD.out]; simp, by first | rfl | trivial⟩
      case measure => have := HQ.out; simp [intOf]; omega
    · have hm10 : m < 10 := by omega
      have c3 : IntKind.i64.wrap (m : Int) = m := by rw [IntKind.wrap_i64]; omega
      have c4 : IntKind.i64.wrap ((m : Int) + 1) = (m : Int) + 1 := by rw [IntKind.wrap_i64]; omega
      have c6 : ¬ 9223372036854775807 < min (m + 1) 10 - m + l.length := by omega
      have c7 : ¬ 9223372036854775807 < 1 + (min (m + 1) 10 - m) := by omega
      have c8 : ¬ 9223372036854775807 < 1 + (min (m + 1) 10 - m) + l.length := by omega
      rw [Lib.decDigits_one hm10] at hd
      have HD := Lib.hid hd
      clear hd
      go_wp2
      go_ret
      exact ⟨by rw [HD.out]; exact congrArg (fun b => Ending.returned (Value.string b)) (neg_dig hm10 l), rfl⟩
theorem digits_c (w : World) (n : Int) (h0 : -9223372036854775808 ≤ n) (h1 : n < 9223372036854775808) :
    Calls Tryd.prog 20 #[.int .i64 n] w fun e w' => e = .returned (str (Lib.itoa n)) ∧ w = w' := by
  by_cases h : n < 0
  · have := digits_neg w n.natAbs (by omega) (by omega)
    rw [show -((n.natAbs : Nat) : Int) = n by omega] at this
    unfold Lib.itoa
    rw [if_pos h]
    exact this
  · have := digits_pos w n.toNat (by omega)
    rw [show ((n.toNat : Nat) : Int) = n by omega] at this
    unfold Lib.itoa
    rw [if_neg h]
    exact this
end Go.Proofs.YthaodmobcbccaaaDoor
