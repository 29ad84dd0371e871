/- Contracts of the reference timekeeperref12: its functions answer what the package masks answers. -/
import Derived.Test.YteojjboncaegkaaWk
namespace Go.Proofs.Yteojjboncaegkaa
open Go.RowKit
attribute [local go_sem] bits_and32 bits_or32 bits_andNot32

theorem hld_none (x y : BitVec 32) (all : Bool) (h : ∀ j, j < 32 → y.getLsbD j = true → x.getLsbD j = all) : hld x y all = all := by
  cases all
  · simp only [hld, Bool.false_eq_true, if_false, Bool.not_eq_false', beq_iff_eq]
    ext j hj
    have := h j hj
    simp only [← BitVec.getLsbD_eq_getElem] at *
    simp only [BitVec.getLsbD_and, BitVec.getLsbD_zero]
    cases hy : y.getLsbD j <;> simp_all
  · simp only [hld, if_true, beq_iff_eq]
    ext j hj
    have := h j hj
    simp only [← BitVec.getLsbD_eq_getElem] at *
    simp only [BitVec.getLsbD_and, BitVec.getLsbD_not, BitVec.getLsbD_zero]
    cases hy : y.getLsbD j <;> simp_all

theorem hld_some (x y : BitVec 32) (all : Bool) (j : Nat) (hj : j < 32) (h1 : y.getLsbD j = true) (h2 : x.getLsbD j = !all) : hld x y all = !all := by
  have key : ∀ z : BitVec 32, z.getLsbD j = true → (z == 0#32) = false := by
    intro z hz
    rw [beq_eq_false_iff_ne]
    rintro rfl
    simp at hz
  cases all
  · simp only [hld, Bool.false_eq_true, if_false, Bool.not_false, Bool.not_eq_true']
    exact key _ (by simp [h1, h2])
  · simp only [hld, if_true, Bool.not_true]
    exact key _ (by rw [BitVec.getLsbD_and, BitVec.getLsbD_not, h1, h2]; simp [hj])

theorem bn_lt (x : BitVec 32) : bn x < 4294967296 := by unfold bn; have := x.isLt; omega
theorem bn_nn (x : BitVec 32) : 0 ≤ bn x := by unfold bn; omega
theorem bn_half (x : BitVec 32) : bn x / (2 : Int) = bn (x >>> (1 : Nat)) := by
  unfold bn; simp [Nat.shiftRight_eq_div_pow]
theorem bn_odd (x : BitVec 32) : (bn x % 2 == 1) = x.getLsbD 0 := by
  unfold bn
  rw [BitVec.getLsbD, Nat.testBit_zero, Bool.eq_iff_iff]
  simp; omega

/-- A bit, a power of 2, the lowest bits: names that the walk leaves alone. -/
def bt (x : BitVec 32) (i : Nat) : Bool := x.getLsbD i
def pw (i : Nat) : Int := ((2 ^ i : Nat) : Int)
def md (z : BitVec 32) (k : Nat) : Int := ((z.toNat % 2 ^ k : Nat) : Int)
theorem pw_succ (i : Nat) : 2 * pw i = pw (i + 1) := by unfold pw; rw [Nat.pow_succ]; omega
theorem pw_le (i : Nat) (h : i < 32) : pw i ≤ 2147483648 := by
  unfold pw
  have : 2 ^ i ≤ 2 ^ 31 := Nat.pow_le_pow_right (by decide) (by omega)
  omega
theorem pw_pos (i : Nat) : 0 < pw i := by unfold pw; have := Nat.two_pow_pos i; omega
theorem md_nn (z : BitVec 32) (k : Nat) : 0 ≤ md z k := by unfold md; omega
theorem md_lt (z : BitVec 32) (k : Nat) : md z k < pw k := by unfold md pw; have := Nat.mod_lt z.toNat (Nat.two_pow_pos k); omega
theorem md_succ (z : BitVec 32) (k : Nat) : md z (k + 1) = md z k + if bt z k then pw k else 0 := by
  unfold md pw bt
  rw [Nat.mod_pow_succ, BitVec.getLsbD, Nat.testBit_eq_decide_div_mod_eq]
  have := Nat.mod_lt (z.toNat / 2 ^ k) (show 0 < 2 by decide)
  by_cases h : z.toNat / 2 ^ k % 2 = 1
  · simp [h]
  · have h0 : z.toNat / 2 ^ k % 2 = 0 := by omega
    simp [h0]
theorem md_all (z : BitVec 32) : md z 32 = bn z := by
  unfold md bn; rw [Nat.mod_eq_of_lt z.isLt]

theorem md_pw_lt (z : BitVec 32) (k : Nat) (h : k < 32) : md z k + pw k < 4294967296 := by
  have l2 := md_lt z k
  have l3 := pw_le k h
  omega
theorem md_pw_nn (z : BitVec 32) (k : Nat) : 0 ≤ md z k + pw k := by
  have l1 := md_nn z k
  have l2 := md_lt z k
  omega

theorem shr_half (x : BitVec 32) (i k : Nat) (h : 0 < k) (hk : k ≤ i) : bn (x >>> (i - k)) / 2 = bn (x >>> (i - (k - 1))) := by
  rw [bn_half, ← BitVec.shiftRight_add]
  congr 2; omega
theorem shr_odd (x : BitVec 32) (i : Nat) : ((bn (x >>> i)) % 2 == 1) = bt x i := by
  rw [bn_odd, BitVec.getLsbD_ushiftRight]; simp [bt]

set_option maxHeartbeats 400000 in
theorem one_c (x : BitVec 32) (i : Nat) (hi : i < 32) (w : World) :
    Calls Try.prog 19 #[.int .u32 (bn x), .int .i64 i] w fun e w' => e = .returned (.bool (bt x i)) ∧ w = w' := by
  go_enter Try.func19, Try.ntmps19
  go_wp2
  go_loop [0, 1] (fun v0 v1 => ∃ k : Nat, k ≤ i ∧ v1 = .int .i64 k ∧ v0 = .int .u32 (bn (x >>> (i - k)))) (fun _ v1 => (intOf v1).toNat)
  case atStart => exact ⟨i, Nat.le_refl _, rfl, by simp⟩
  case round =>
    obtain ⟨k, hk, rfl, rfl⟩ := hrel
    have l1 := bn_lt (x >>> (i - k))
    have l0 := bn_nn (x >>> (i - k))
    by_cases h : 0 < k
    · go_wp2
      go_round
      case rel => exact ⟨k - 1, by omega, congrArg (Value.int .i64) (by omega), by rw [shr_half x i k h hk]⟩
      case measure => simp [intOf]; omega
    · obtain rfl : k = 0 := by omega
      have l2 : 0 ≤ bn (x >>> i) := bn_nn _
      go_wp2
      go_ret
      exact ⟨by rw [← shr_odd]; rfl, rfl⟩

set_option maxHeartbeats 400000 in
theorem power_c (i : Nat) (hi : i < 32) (w : World) :
    Calls Try.prog 20 #[.int .i64 i] w fun e w' => e = .returned (.int .u32 (pw i)) ∧ w = w' := by
  go_enter Try.func20, Try.ntmps20
  go_wp2
  go_loop [0, 3] (fun v0 v3 => ∃ k : Nat, k ≤ i ∧ v0 = .int .i64 k ∧ v3 = .int .u32 (pw (i - k))) (fun v0 _ => (intOf v0).toNat)
  case atStart => exact ⟨i, Nat.le_refl _, rfl, by simp [pw]⟩
  case round =>
    obtain ⟨k, hk, rfl, rfl⟩ := hrel
    by_cases h : 0 < k
    · have l1 := pw_le (i - k + 1) (by omega)
      rw [← pw_succ] at l1
      have l0 := pw_pos (i - k)
      have l2 : 2 * pw (i - k) < 4294967296 := by omega
      go_wp2
      go_round
      case rel => exact ⟨k - 1, by omega, congrArg (Value.int .i64) (by omega), by simp only [Value.int.injEq, true_and]; rw [pw_succ, show i - k + 1 = i - (k - 1) by omega]⟩
      case measure => simp [intOf]; omega
    · obtain rfl : k = 0 := by omega
      go_wp2
      go_ret
      exact ⟨rfl, rfl⟩

set_option maxRecDepth 100000 in
set_option maxHeartbeats 400000 in
theorem metR_c (x y : BitVec 32) (w : World) :
    Calls Try.prog 13 #[.int .u32 (bn x), .int .u32 (bn y)] w fun e w' => e = .returned (.int .u32 (bn (x &&& y))) ∧ w = w' := by
  go_enter Try.func13, Try.ntmps13
  go_wp2
  go_loop [5, 6] (fun v5 v6 => ∃ k : Nat, k ≤ 32 ∧ v6 = .int .i64 k ∧ v5 = .int .u32 (md (x &&& y) k)) (fun _ v6 => 32 - (intOf v6).toNat)
  case atStart => exact ⟨0, by omega, rfl, by simp [md, Nat.mod_one]⟩
  case round =>
    obtain ⟨k, hk, rfl, rfl⟩ := hrel
    by_cases h : k < 32
    · have hs := md_succ (x &&& y) k
      have hbt : bt (x &&& y) k = (bt x k && bt y k) := by simp [bt]
      have HS := Lib.hid hs
      have HB := Lib.hid hbt
      clear hs hbt
      cases hx : bt x k
      · go_wp2_with (go_at_call 19; refine (one_c _ _ h _).mono ?_; rintro e w' ⟨rfl, rfl⟩)
        go_round
        case rel => exact ⟨k + 1, by omega, by go_num, by rw [HS.out, HB.out, hx]; simp⟩
        case measure => simp [intOf]; omega
      · cases hy : bt y k
        · go_wp2_with fail
          refine (one_c _ _ h _).mono ?_; rintro e w' ⟨rfl, rfl⟩
          go_wp2_with fail
          refine (one_c _ _ h _).mono ?_; rintro e w' ⟨rfl, rfl⟩
          go_wp2
          go_round
          case rel => exact ⟨k + 1, by omega, by go_num, by rw [HS.out, HB.out, hx, hy]; simp⟩
          case measure => simp [intOf]; omega
        · go_wp2_with fail
          refine (one_c _ _ h _).mono ?_; rintro e w' ⟨rfl, rfl⟩
          go_wp2_with fail
          refine (one_c _ _ h _).mono ?_; rintro e w' ⟨rfl, rfl⟩
          go_wp2_with fail
          refine (power_c _ h _).mono ?_; rintro e w' ⟨rfl, rfl⟩
          have l4 := md_pw_lt (x &&& y) k h
          have l5 := md_pw_nn (x &&& y) k
          go_wp2
          go_round
          case rel => exact ⟨k + 1, by omega, by go_num, by rw [HS.out, HB.out, hx, hy]; simp⟩
          case measure => simp [intOf]; omega
    · obtain rfl : k = 32 := by omega
      go_wp2
      go_ret
      exact ⟨by rw [← md_all (x &&& y)]; rfl, rfl⟩

set_option maxHeartbeats 400000 in
theorem holdsR_c (x y : BitVec 32) (all : Bool) (w : World) :
    Calls Try.prog 11 #[.int .u32 (bn x), .int .u32 (bn y), .bool all] w fun e w' => e = .returned (.bool (hld x y all)) ∧ w = w' := by
  go_enter Try.func11, Try.ntmps11
  go_wp2
  go_loop [7] (fun v7 => ∃ k : Nat, k ≤ 32 ∧ v7 = .int .i64 k ∧ Hid (∀ j, j < k → y.getLsbD j = true → x.getLsbD j = all)) (fun v7 => 32 - (intOf v7).toNat)
  case atStart => exact ⟨0, by omega, rfl, fun j hj => by omega⟩
  case round =>
    obtain ⟨k, hk, rfl, HP⟩ := hrel
    by_cases h : k < 32
    · cases hy : bt y k
      · go_wp2_with (go_at_call 19; refine (one_c _ _ h _).mono ?_; rintro e w' ⟨rfl, rfl⟩)
        go_round
        case rel =>
          refine ⟨k + 1, by omega, by go_num, fun j hj h1 => ?_⟩
          by_cases e : j = k
          · subst e; exact absurd h1 (by show ¬ (bt y j = true); rw [hy]; simp)
          · exact HP.out j (by omega) h1
        case measure => simp [intOf]; omega
      · by_cases hx : bt x k = all
        · subst hx
          go_wp2_with fail
          refine (one_c _ _ h _).mono ?_; rintro e w' ⟨rfl, rfl⟩
          go_wp2_with fail
          refine (one_c _ _ h _).mono ?_; rintro e w' ⟨rfl, rfl⟩
          go_wp2
          go_round
          case rel =>
            refine ⟨k + 1, by omega, by go_num, fun j hj h1 => ?_⟩
            by_cases e : j = k
            · subst e; rfl
            · exact HP.out j (by omega) h1
          case measure => simp [intOf]; omega
        · have hf : hld x y all = !all := hld_some x y all k h hy (by revert hx; show ¬ bt x k = all → bt x k = _; cases bt x k <;> cases all <;> simp)
          have hne : (bt x k != all) = true := by simpa using hx
          have hne2 : (!(bt x k == all)) = true := by revert hx; cases bt x k <;> cases all <;> simp
          clear hx
          have HF := Lib.hid hf
          clear hf
          go_wp2_with fail
          refine (one_c _ _ h _).mono ?_; rintro e w' ⟨rfl, rfl⟩
          go_wp2_with fail
          refine (one_c _ _ h _).mono ?_; rintro e w' ⟨rfl, rfl⟩
          go_wp2
          go_ret
          exact ⟨by rw [HF.out]; rfl, rfl⟩
    · obtain rfl : k = 32 := by omega
      have hf : hld x y all = all := hld_none x y all HP.out
      have HF := Lib.hid hf
      clear hf
      go_wp2
      go_ret
      exact ⟨by rw [HF.out]; rfl, rfl⟩


theorem and_le (x y : BitVec 32) : bn (x &&& y) ≤ bn x := by
  unfold bn; rw [BitVec.toNat_and]; have := @Nat.and_le_left x.toNat y.toNat; omega
theorem bn_mod (z : BitVec 32) : bn z % 4294967296 = bn z := by
  have h0 := bn_nn z; have h1 := bn_lt z; omega
theorem sub_and (x y : BitVec 32) : bn x - bn (x &&& y) = bn (x &&& ~~~ y) := by
  have e : x = (x &&& ~~~ y) + (x &&& y) := by
    rw [BitVec.add_eq_or_of_and_eq_zero]
    · ext j; simp; cases x[j] <;> cases y[j] <;> rfl
    · ext j; simp; cases x[j] <;> cases y[j] <;> simp
  have e2 : x - (x &&& y) = x &&& ~~~ y := by
    conv => lhs; lhs; rw [e]
    exact BitVec.add_sub_cancel _ _
  have hle : (x &&& y) ≤ x := by
    have := and_le x y; unfold bn at this; rw [BitVec.le_def]; omega
  have := BitVec.toNat_sub_of_le hle
  rw [e2] at this
  have h2 := and_le x y
  unfold bn at *; omega

set_option maxHeartbeats 400000 in
theorem afterR_c (x y : BitVec 32) (all gone : Bool) (w : World) :
    Calls Try.prog 15 #[.int .u32 (bn x), .int .u32 (bn y), .bool all, .bool gone] w fun e w' => e = .returned (.int .u32 (bn (aft x y all gone))) ∧ w = w' := by
  have E := Lib.hid (show aft x y all gone = if gone && hld x y all then x &&& ~~~ y else x from rfl)
  cases gone
  · go_enter Try.func15, Try.ntmps15
    go_wp2
    go_ret
    exact ⟨by rw [E.out]; rfl, rfl⟩
  · cases hh : hld x y all
    · go_enter Try.func15, Try.ntmps15
      go_wp2_with (go_at_call 11; refine (holdsR_c _ _ _ _).mono ?_; rintro e w' ⟨rfl, rfl⟩)
      go_ret
      exact ⟨by rw [E.out, hh]; rfl, rfl⟩
    · go_enter Try.func15, Try.ntmps15
      go_wp2_with fail
      refine (holdsR_c _ _ _ _).mono ?_; rintro e w' ⟨rfl, rfl⟩
      go_wp2_with fail
      refine (metR_c _ _ _).mono ?_; rintro e w' ⟨rfl, rfl⟩
      have hs := sub_and x y
      have h0 := and_le x y
      have h1 := bn_lt x
      have hm := bn_mod (x &&& ~~~ y)
      go_wp2
      go_ret
      exact ⟨by rw [E.out, hh]; rfl, rfl⟩

end Go.Proofs.Yteojjboncaegkaa
