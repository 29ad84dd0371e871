/- Walks of the laws of timekeeperlaw12, out of the contracts of masks and of its reference. -/
import Derived.Test.YteojjboncaegkaaRf
namespace Go.Proofs.Yteojjboncaegkaa
open Go.RowKit
theorem bits_xor32 (b : Int) : bits .xor .u32 IntKind.u32.max b = bn (~~~ B32 b) := by
  rw [show IntKind.u32.max = 4294967295 from rfl]
  have e : (BitVec.ofInt 32 4294967295 ^^^ BitVec.ofInt 32 b) = ~~~ B32 b := by
    rw [show BitVec.ofInt 32 4294967295 = BitVec.allOnes 32 from rfl, BitVec.xor_comm]; exact BitVec.xor_allOnes
  show IntKind.u32.wrap ((BitVec.ofInt 32 4294967295 ^^^ BitVec.ofInt 32 b).toNat : Int) = _
  rw [e]
  exact wrap_u32_nat _ (BitVec.isLt _)
attribute [local go_sem] bits_and32 bits_or32 bits_andNot32 bits_xor32 b32_bn

theorem of_wf32 {a : Int} (h : (Lit.int .u32 a).wf = true) : ∃ x : BitVec 32, a = bn x := by
  have h' : 0 ≤ a ∧ a ≤ 4294967295 := by simpa [Lit.wf, IntKind.min, IntKind.max, IntKind.signed, IntKind.bits] using h
  exact ⟨BitVec.ofNat 32 a.toNat, by unfold bn; rw [BitVec.toNat_ofNat, Nat.mod_eq_of_lt (by omega)]; omega⟩

theorem holds_b (x y : BitVec 32) (all : Bool) (w : World) :
    Calls Try.prog 10 #[.int .u32 (bn x), .int .u32 (bn y), .bool all] w fun e w' => e = .returned (.bool (hld x y all)) ∧ Below w.heap.size w w' := by
  have h := holds_c (bn x) (bn y) all w
  rwa [b32_bn, b32_bn] at h
theorem met_b (x y : BitVec 32) (w : World) :
    Calls Try.prog 12 #[.int .u32 (bn x), .int .u32 (bn y)] w fun e w' => e = .returned (.int .u32 (bn (x &&& y))) ∧ w = w' := by
  have h := met_c (bn x) (bn y) w
  rwa [b32_bn, b32_bn] at h
theorem after_b (x y : BitVec 32) (all gone : Bool) (w : World) :
    Calls Try.prog 14 #[.int .u32 (bn x), .int .u32 (bn y), .bool all, .bool gone] w fun e w' => e = .returned (.int .u32 (bn (aft x y all gone))) ∧ Below w.heap.size w w' := by
  have h := after_c (bn x) (bn y) all gone w (by rw [b32_bn])
  rwa [b32_bn, b32_bn] at h

theorem two {B : Nat} {a b c : World} (h : Below B a b) (k : Below b.heap.size b c) (hB : B ≤ b.heap.size) : Below B a c := h.trans (k.mono hB)

theorem eq_self (x : BitVec 32) : (bn x == bn x) = true := by simp
theorem b_self (x : Bool) : (x == x) = true := by simp

set_option maxHeartbeats 400000 in
theorem masksHolds_c (x y : BitVec 32) (w : World) :
    Calls Try.prog 3 #[.int .u32 (bn x), .int .u32 (bn y)] w fun e w' => e = .returned (.bool true) ∧ Below w.heap.size w w' := by
  have s1 := b_self (hld x y true)
  have s2 := b_self (hld x y false)
  go_enter Try.func3, Try.ntmps3
  go_wp2_with fail
  refine (holds_b _ _ _ _).mono ?_; rintro e w1 ⟨rfl, hb1⟩
  go_wp2_with fail
  refine (holdsR_c _ _ _ _).mono ?_; rintro e w' ⟨rfl, rfl⟩
  go_wp2_with fail
  refine (holds_b _ _ _ _).mono ?_; rintro e w2 ⟨rfl, hb2⟩
  go_wp2_with fail
  refine (holdsR_c _ _ _ _).mono ?_; rintro e w' ⟨rfl, rfl⟩
  go_wp2_with fail
  refine (met_b _ _ _).mono ?_; rintro e w' ⟨rfl, rfl⟩
  go_wp2_with fail
  refine (metR_c _ _ _).mono ?_; rintro e w' ⟨rfl, rfl⟩
  go_wp2
  go_ret
  exact ⟨rfl, two hb1 hb2 hb1.size⟩

set_option maxHeartbeats 400000 in
theorem masksAfter_c (x y : BitVec 32) (w : World) :
    Calls Try.prog 4 #[.int .u32 (bn x), .int .u32 (bn y)] w fun e w' => e = .returned (.bool true) ∧ Below w.heap.size w w' := by
  go_enter Try.func4, Try.ntmps4
  go_wp2
  go_loopw [5] (fun v5 w' => ∃ k : Nat, k ≤ 4 ∧ v5 = .int .i64 k ∧ Below w.heap.size w w') (fun v5 _ => 4 - (intOf v5).toNat)
  case atStart => exact ⟨0, by omega, rfl, Below.refl _ _⟩
  case round =>
    obtain ⟨k, hk, rfl, hb⟩ := hrel
    by_cases h : k < 4
    · go_wp2_with fail
      refine (after_b _ _ _ _ _).mono ?_; rintro e w2 ⟨rfl, hb2⟩
      go_wp2_with fail
      refine (afterR_c _ _ _ _ _).mono ?_; rintro e w' ⟨rfl, rfl⟩
      go_wp2
      go_roundw
      case rel => exact ⟨k + 1, by omega, by go_num, two hb hb2 hb.size⟩
      case measure => simp [intOf]; omega
    · go_wp2
      go_ret
      exact ⟨rfl, hb⟩

theorem bv_ext {x y : BitVec 32} (h : ∀ j, j < 32 → x.getLsbD j = y.getLsbD j) : x = y := by
  ext j hj; simpa [BitVec.getLsbD_eq_getElem, hj] using h j hj

theorem hld_met (x y : BitVec 32) : (bn (x &&& y) == bn y) = hld x y true := by
  rw [bn_inj, Bool.eq_iff_iff, beq_iff_eq]
  simp only [hld, if_true, beq_iff_eq]
  constructor
  · intro h; rw [← h]
    refine bv_ext fun j hj => ?_
    simp only [BitVec.getLsbD_and, BitVec.getLsbD_not, BitVec.getLsbD_zero]; cases x.getLsbD j <;> simp [hj]
  · intro h
    refine bv_ext fun j hj => ?_
    have := congrArg (fun z => z.getLsbD j) h
    simp only [BitVec.getLsbD_and, BitVec.getLsbD_not, BitVec.getLsbD_zero, hj, decide_true, Bool.true_and] at *
    cases hx : x.getLsbD j <;> cases hy : y.getLsbD j <;> simp_all
theorem hld_any (x y : BitVec 32) : (bn (x &&& y) == 0) = !hld x y false := by
  rw [bv_eq0]; simp [hld]
theorem hld_any' (x y : BitVec 32) : (bn (x &&& y) != 0) = hld x y false := by
  rw [bne, hld_any]; simp
theorem hld_not (x y : BitVec 32) : hld (~~~ x) y true = !hld x y false := by
  simp only [hld, if_true, Bool.false_eq_true, if_false, Bool.not_not, BitVec.not_not]
  rw [BitVec.and_comm]
theorem hld_zero (x y : BitVec 32) (h1 : hld x y true = true) (h2 : hld x y false = false) : (bn y == 0) = true := by
  have h3 := hld_met x y
  have h4 := hld_any x y
  rw [h1, beq_iff_eq] at h3
  rw [h2, h3] at h4
  simpa using h4
theorem and_comm_b (x y : BitVec 32) : (bn (x &&& y) == bn (y &&& x)) = true := by rw [BitVec.and_comm]; simp

set_option maxHeartbeats 1000000 in
theorem masksBoth_c (x y : BitVec 32) (w : World) :
    Calls Try.prog 5 #[.int .u32 (bn x), .int .u32 (bn y)] w fun e w' => e = .returned (.bool true) ∧ Below w.heap.size w w' := by
  have f1 := hld_met x y
  have f2 := hld_any x y
  have f3 := hld_not x y
  have f2' := hld_any' x y
  have f4 := and_comm_b x y
  cases h1 : hld x y true <;> cases h2 : hld x y false
  case true.false =>
    have f5 := hld_zero x y h1 h2
    rw [h1] at f1; rw [h2] at f2 f2' f3
    simp only [Bool.not_false] at f2 f3
    go_enter Try.func5, Try.ntmps5
    go_wp2_with fail
    refine (holds_b _ _ _ _).mono ?_; rintro e w1 ⟨rfl, hb1⟩
    go_wp2_with fail
    refine (holds_b _ _ _ _).mono ?_; rintro e w2 ⟨rfl, hb2⟩
    go_wp2_with fail
    refine (met_b _ _ _).mono ?_; rintro e w' ⟨rfl, rfl⟩
    go_wp2_with fail
    refine (alive_c _).mono ?_; rintro e w3 ⟨rfl, hb3⟩
    go_wp2_with fail
    refine (holds_b _ _ _ _).mono ?_; rintro e w4 ⟨rfl, hb4⟩
    go_wp2_with fail
    refine (met_b _ _ _).mono ?_; rintro e w' ⟨rfl, rfl⟩
    go_wp2
    go_ret
    have hb := two hb1 hb2 hb1.size; have hb := two hb hb3 hb.size
    exact ⟨rfl, two hb hb4 hb.size⟩
  case false.false =>
    rw [h1] at f1; rw [h2] at f2 f2' f3
    simp only [Bool.not_false] at f2 f3
    go_enter Try.func5, Try.ntmps5
    go_wp2_with fail
    refine (holds_b _ _ _ _).mono ?_; rintro e w1 ⟨rfl, hb1⟩
    go_wp2_with fail
    refine (holds_b _ _ _ _).mono ?_; rintro e w2 ⟨rfl, hb2⟩
    go_wp2_with fail
    refine (met_b _ _ _).mono ?_; rintro e w' ⟨rfl, rfl⟩
    go_wp2_with fail
    refine (alive_c _).mono ?_; rintro e w3 ⟨rfl, hb3⟩
    go_wp2_with fail
    refine (holds_b _ _ _ _).mono ?_; rintro e w4 ⟨rfl, hb4⟩
    go_wp2_with fail
    refine (met_b _ _ _).mono ?_; rintro e w' ⟨rfl, rfl⟩
    go_wp2
    go_ret
    have hb := two hb1 hb2 hb1.size; have hb := two hb hb3 hb.size
    exact ⟨rfl, two hb hb4 hb.size⟩
  all_goals
    rw [h1] at f1; rw [h2] at f2 f2' f3
    simp only [Bool.not_true] at f2 f3
    go_enter Try.func5, Try.ntmps5
    go_wp2_with fail
    refine (holds_b _ _ _ _).mono ?_; rintro e w1 ⟨rfl, hb1⟩
    go_wp2_with fail
    refine (holds_b _ _ _ _).mono ?_; rintro e w2 ⟨rfl, hb2⟩
    go_wp2_with fail
    refine (met_b _ _ _).mono ?_; rintro e w' ⟨rfl, rfl⟩
    go_wp2_with fail
    refine (alive_c _).mono ?_; rintro e w3 ⟨rfl, hb3⟩
    go_wp2_with fail
    refine (holds_b _ _ _ _).mono ?_; rintro e w4 ⟨rfl, hb4⟩
    go_wp2_with fail
    refine (met_b _ _ _).mono ?_; rintro e w' ⟨rfl, rfl⟩
    go_wp2
    go_ret
    have hb := two hb1 hb2 hb1.size; have hb := two hb hb3 hb.size
    exact ⟨rfl, two hb hb4 hb.size⟩

end Go.Proofs.Yteojjboncaegkaa
