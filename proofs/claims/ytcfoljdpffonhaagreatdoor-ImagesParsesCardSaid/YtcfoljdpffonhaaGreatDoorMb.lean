/- Images: an image's lines, as they are written: digits, lines: walked. -/
import Derived.Test.YtcfoljdpffonhaaGreatDoorLn
import Derived.Test.YtcfoljdpffonhaaGreatDoorLq
import Derived.Deep.QuietTactic
import Derived.BigQuiet
set_option linter.unusedVariables false
set_option linter.unusedSimpArgs false
namespace Go.Proofs.YtcfoljdpffonhaaGreatDoor
open Go.RowKit Go.Joins Go.Shelf
attribute [local go_sem] Oper.semAt_some

theorem dig_ext {r : Nat} (h : r < 10) : (⟨#[48, 49, 50, 51, 52, 53, 54, 55, 56, 57]⟩ : ByteArray).extract r (r + 1) = ⟨[UInt8.ofNat (48 + r)].toArray⟩ :=
  match r, h with
  | 0, _ => by rfl
  | 1, _ => by rfl
  | 2, _ => by rfl
  | 3, _ => by rfl
  | 4, _ => by rfl
  | 5, _ => by rfl
  | 6, _ => by rfl
  | 7, _ => by rfl
  | 8, _ => by rfl
  | 9, _ => by rfl
theorem cat_dig {r : Nat} (h : r < 10) (l : List UInt8) : (⟨#[48, 49, 50, 51, 52, 53, 54, 55, 56, 57]⟩ : ByteArray).extract r (r + 1) ++ ⟨l.toArray⟩ = ⟨(UInt8.ofNat (48 + r) :: l).toArray⟩ := by
  rw [dig_ext h, str_app2]; rfl
theorem dec_length (n : Nat) (h : n < 1000000000) : (Lib.decDigits n).length ≤ 9 := by
  have key : ∀ (k n : Nat), n < 10 ^ (k + 1) → (Lib.decDigits n).length ≤ k + 1 := by
    intro k
    induction k with
    | zero => intro n hn; rw [dec_small (by omega)]; simp
    | succ k ih =>
      intro n hn
      by_cases h10 : n < 10
      · rw [dec_small h10]; simp
      · rw [dec_big h10, List.length_append, List.length_singleton]
        have := ih (n / 10) (by rw [Nat.pow_succ] at hn; omega)
        omega
  exact key 8 n (by omega)
set_option maxHeartbeats 4000000 in
set_option maxRecDepth 20000 in
theorem digits_c (n : Nat) (hn : n < 1000000000) (w : World) :
    Calls Tryz.prog 72 #[.int .i64 (n : Int)] w fun e w' => e = .returned (strv (Lib.decDigits n)) ∧ w = w' := by
  have HN := Lib.hid (dec_length n hn)
  go_enter Tryz.func72, Tryz.ntmps72
  go_wp2
  go_loopw [0, 3] (fun s0 s3 wr => ∃ (m : Nat) (s : List UInt8), m < 1000000000 ∧ s0 = .int .i64 m ∧ s3 = strv s ∧ Hid (Lib.decDigits m ++ s = Lib.decDigits n) ∧ w = wr) (fun s0 _ _ => (intOf s0).toNat)
  case atStart => exact ⟨n, [], hn, rfl, rfl, Lib.hid (by simp), rfl⟩
  case round =>
    obtain ⟨m, s, hm, rfl, rfl, hE, rfl⟩ := hrel
    have hsl : s.length ≤ 9 := by
      have := congrArg List.length hE.out
      rw [List.length_append] at this
      have := HN.out
      omega
    by_cases h9 : 9 < m
    · obtain ⟨r, hr, hr10⟩ : ∃ r : Nat, r = m % 10 ∧ r < 10 := ⟨_, rfl, Nat.mod_lt _ (by omega)⟩
      obtain ⟨q, hq, hq2⟩ : ∃ q : Nat, q = m / 10 ∧ q < m := ⟨_, rfl, by omega⟩
      have hst : Hid (Lib.decDigits q ++ (UInt8.ofNat (48 + r) :: s) = Lib.decDigits n) := Lib.hid (by rw [← hE.out, dec_big (n := m) (by omega), hr, hq]; simp)
      have c1 : (m : Int).tmod 10 = r := by rw [show (10 : Int) = ((10 : Nat) : Int) by rfl, ← Int.ofNat_tmod, hr]
      have c1' : (m : Int) % 10 = r := by omega
      have c2 : (m : Int).tdiv 10 = q := by rw [show (10 : Int) = ((10 : Nat) : Int) by rfl, ← Int.ofNat_tdiv, hq]
      have c2' : (m : Int) / 10 = q := by omega
      have c4 : IntKind.i64.wrap ((r : Int) + 1) = (r : Int) + 1 := by rw [IntKind.wrap_i64]; omega
      have c5 : IntKind.i64.wrap (q : Int) = q := by rw [IntKind.wrap_i64]; omega
      have c6 : ¬ 9223372036854775807 < min (r + 1) 10 - r + s.length := by omega
      have HQ := Lib.hid hq2
      have HM := Lib.hid hm
      have g0 : (9 : Int) < (m : Int) := by omega
      clear hq hr hq2 hm hE hsl
      go_wp2
      go_roundw
      case rel => exact ⟨q, _, by have := HQ.out; have := HM.out; omega, by go_num, by rw [cat_dig hr10], hst, by first | rfl | trivial⟩
      case measure => have := HQ.out; simp [intOf]; omega
    · have hm10 : m < 10 := by omega
      have c4 : IntKind.i64.wrap ((m : Int) + 1) = (m : Int) + 1 := by rw [IntKind.wrap_i64]; omega
      have c6 : ¬ 9223372036854775807 < min (m + 1) 10 - m + s.length := by omega
      have g0 : ¬ (9 : Int) < (m : Int) := by omega
      have hst : Hid ((UInt8.ofNat (48 + m) :: s) = Lib.decDigits n) := Lib.hid (by rw [← hE.out, dec_small hm10]; rfl)
      have g1 : (m : Int) < 10 := by omega
      clear hE hsl h9 hm
      go_wp2
      go_ret
      exact ⟨by rw [cat_dig hm10, hst.out]; rfl, rfl⟩
end Go.Proofs.YtcfoljdpffonhaaGreatDoor
