/- Walks of the other laws of timekeeperlaw12, out of the contracts of masks. -/
import Derived.Test.YteojjboncaegkaaLw
namespace Go.Proofs.Yteojjboncaegkaa
open Go.RowKit
attribute [local go_sem] bits_and32 bits_or32 bits_andNot32 bits_xor32 b32_bn

theorem hld_t {x y : BitVec 32} : hld x y true = true ↔ ∀ j, j < 32 → y.getLsbD j = true → x.getLsbD j = true := by
  constructor
  · intro h j hj hy
    rcases hx : x.getLsbD j with _ | _
    · have := hld_some x y true j hj hy (by rw [hx]; rfl)
      rw [h] at this; exact absurd this (by decide)
    · rfl
  · intro h; exact hld_none x y true h
theorem hld_f {x y : BitVec 32} : hld x y false = true ↔ ∃ j, j < 32 ∧ y.getLsbD j = true ∧ x.getLsbD j = true := by
  constructor
  · intro h
    apply Classical.byContradiction
    intro hn
    have := hld_none x y false (fun j hj hy => by
      rcases hx : x.getLsbD j with _ | _
      · rfl
      · exact absurd ⟨j, hj, hy, hx⟩ hn)
    rw [h] at this; exact absurd this (by decide)
  · rintro ⟨j, hj, hy, hx⟩
    have := hld_some x y false j hj hy (by rw [hx]; rfl)
    simpa using this

theorem more1 {x y : BitVec 32} (z : BitVec 32) (h : hld x y true = true) : hld (x ||| z) y true = true :=
  hld_t.2 fun j hj hy => by rw [BitVec.getLsbD_or, hld_t.1 h j hj hy]; rfl
theorem more2 {x y : BitVec 32} (z : BitVec 32) (h : hld x y true = true) : hld x (y &&& z) true = true :=
  hld_t.2 fun j hj hy => hld_t.1 h j hj (by rw [BitVec.getLsbD_and] at hy; simp at hy; simpa using hy.1)
theorem more3 {x y : BitVec 32} (z : BitVec 32) (h : hld x y false = true) : hld (x ||| z) y false = true := by
  obtain ⟨j, hj, hy, hx⟩ := hld_f.1 h
  exact hld_f.2 ⟨j, hj, hy, by rw [BitVec.getLsbD_or, hx]; rfl⟩
theorem more4 {x y : BitVec 32} (z : BitVec 32) (h : hld x y false = true) : hld x (y ||| z) false = true := by
  obtain ⟨j, hj, hy, hx⟩ := hld_f.1 h
  exact hld_f.2 ⟨j, hj, by rw [BitVec.getLsbD_or, hy]; rfl, hx⟩
theorem more5 (y z : BitVec 32) : hld (y ||| z) y true = true :=
  hld_t.2 fun j hj hy => by rw [BitVec.getLsbD_or, hy]; rfl

theorem sized {B : Nat} {a b : World} (h : Below B a b) : a.heap.size ≤ b.heap.size := h.size

set_option maxHeartbeats 1000000 in
theorem masksMore_c (x y z : BitVec 32) (w : World) :
    Calls Try.prog 6 #[.int .u32 (bn x), .int .u32 (bn y), .int .u32 (bn z)] w fun e w' => e = .returned (.bool true) ∧ Below w.heap.size w w' := by
  have f5 := more5 y z
  cases h1 : hld x y true <;> cases h2 : hld x y false
  case false.false =>
    go_enter Try.func6, Try.ntmps6
    go_wp2_with fail
    refine (holds_b _ _ _ _).mono ?_; rintro e w1 ⟨rfl, hb1⟩
    go_wp2_with fail
    refine (holds_b _ _ _ _).mono ?_; rintro e w2 ⟨rfl, hb2⟩
    go_wp2_with fail
    refine (alive_c _).mono ?_; rintro e w3 ⟨rfl, hb3⟩
    go_wp2_with fail
    refine (holds_b _ _ _ _).mono ?_; rintro e w4 ⟨rfl, hb4⟩
    go_wp2
    go_ret
    have hb := two hb1 hb2 hb1.size; have hb := two hb hb3 hb.size
    exact ⟨rfl, two hb hb4 hb.size⟩
  case true.false =>
    have f1 := more1 z h1
    have f2 := more2 z h1
    go_enter Try.func6, Try.ntmps6
    go_wp2_with fail
    refine (holds_b _ _ _ _).mono ?_; rintro e w1 ⟨rfl, hb1⟩
    go_wp2_with fail
    refine (holds_b _ _ _ _).mono ?_; rintro e w5 ⟨rfl, hb5⟩
    go_wp2_with fail
    refine (holds_b _ _ _ _).mono ?_; rintro e w6 ⟨rfl, hb6⟩
    go_wp2_with fail
    refine (holds_b _ _ _ _).mono ?_; rintro e w2 ⟨rfl, hb2⟩
    go_wp2_with fail
    refine (alive_c _).mono ?_; rintro e w3 ⟨rfl, hb3⟩
    go_wp2_with fail
    refine (holds_b _ _ _ _).mono ?_; rintro e w4 ⟨rfl, hb4⟩
    go_wp2
    go_ret
    have hb := two hb1 hb5 hb1.size; have hb := two hb hb6 hb.size; have hb := two hb hb2 hb.size; have hb := two hb hb3 hb.size
    exact ⟨rfl, two hb hb4 hb.size⟩
  case false.true =>
    have f1 := more3 z h2
    have f2 := more4 z h2
    go_enter Try.func6, Try.ntmps6
    go_wp2_with fail
    refine (holds_b _ _ _ _).mono ?_; rintro e w1 ⟨rfl, hb1⟩
    go_wp2_with fail
    refine (holds_b _ _ _ _).mono ?_; rintro e w5 ⟨rfl, hb5⟩
    go_wp2_with fail
    refine (holds_b _ _ _ _).mono ?_; rintro e w6 ⟨rfl, hb6⟩
    go_wp2_with fail
    refine (holds_b _ _ _ _).mono ?_; rintro e w2 ⟨rfl, hb2⟩
    go_wp2_with fail
    refine (alive_c _).mono ?_; rintro e w3 ⟨rfl, hb3⟩
    go_wp2_with fail
    refine (holds_b _ _ _ _).mono ?_; rintro e w4 ⟨rfl, hb4⟩
    go_wp2
    go_ret
    have hb := two hb1 hb5 hb1.size; have hb := two hb hb6 hb.size; have hb := two hb hb2 hb.size; have hb := two hb hb3 hb.size
    exact ⟨rfl, two hb hb4 hb.size⟩
  case true.true =>
    have f1 := more1 z h1
    have f2 := more2 z h1
    have f3 := more3 z h2
    have f4 := more4 z h2
    go_enter Try.func6, Try.ntmps6
    go_wp2_with fail
    refine (holds_b _ _ _ _).mono ?_; rintro e w1 ⟨rfl, hb1⟩
    go_wp2_with fail
    refine (holds_b _ _ _ _).mono ?_; rintro e w5 ⟨rfl, hb5⟩
    go_wp2_with fail
    refine (holds_b _ _ _ _).mono ?_; rintro e w6 ⟨rfl, hb6⟩
    go_wp2_with fail
    refine (holds_b _ _ _ _).mono ?_; rintro e w2 ⟨rfl, hb2⟩
    go_wp2_with fail
    refine (holds_b _ _ _ _).mono ?_; rintro e w7 ⟨rfl, hb7⟩
    go_wp2_with fail
    refine (holds_b _ _ _ _).mono ?_; rintro e w8 ⟨rfl, hb8⟩
    go_wp2_with fail
    refine (alive_c _).mono ?_; rintro e w3 ⟨rfl, hb3⟩
    go_wp2_with fail
    refine (holds_b _ _ _ _).mono ?_; rintro e w4 ⟨rfl, hb4⟩
    go_wp2
    go_ret
    have hb := two hb1 hb5 hb1.size; have hb := two hb hb6 hb.size; have hb := two hb hb2 hb.size; have hb := two hb hb7 hb.size; have hb := two hb hb8 hb.size; have hb := two hb hb3 hb.size
    exact ⟨rfl, two hb hb4 hb.size⟩

theorem aft_gone (x y : BitVec 32) (all : Bool) : aft x y all false = x := rfl
theorem aft_yes {x y : BitVec 32} {all : Bool} (h : hld x y all = true) : aft x y all true = x &&& ~~~ y := by simp [aft, h]
theorem aft_no {x y : BitVec 32} {all : Bool} (h : hld x y all = false) : aft x y all true = x := by simp [aft, h]
theorem gone1 (x y : BitVec 32) : (bn (x &&& ~~~ y &&& y) == 0) = true := by
  rw [bv_eq0, beq_iff_eq]; refine bv_ext fun j hj => ?_
  simp only [BitVec.getLsbD_and, BitVec.getLsbD_not, BitVec.getLsbD_zero]; cases y.getLsbD j <;> simp
theorem gone2 (x y : BitVec 32) : (bn (x &&& ~~~ y &&& ~~~ y) == bn (x &&& ~~~ y)) = true := by
  rw [bn_inj, beq_iff_eq]; refine bv_ext fun j hj => ?_
  simp only [BitVec.getLsbD_and, BitVec.getLsbD_not]; cases y.getLsbD j <;> simp
theorem gone3 (x y : BitVec 32) : (bn (x &&& ~~~ y ||| x &&& y) == bn x) = true := by
  rw [bn_inj, beq_iff_eq]; refine bv_ext fun j hj => ?_
  simp only [BitVec.getLsbD_and, BitVec.getLsbD_or, BitVec.getLsbD_not, hj]; cases y.getLsbD j <;> simp
theorem gone4 (x y : BitVec 32) (all : Bool) : aft (x &&& ~~~ y) y all true = x &&& ~~~ y := by
  unfold aft; split
  · refine bv_ext fun j hj => ?_
    simp only [BitVec.getLsbD_and, BitVec.getLsbD_not]; cases y.getLsbD j <;> simp
  · rfl

set_option maxHeartbeats 1000000 in
theorem masksGone_c (x y : BitVec 32) (all : Bool) (w : World) :
    Calls Try.prog 7 #[.int .u32 (bn x), .int .u32 (bn y), .bool all] w fun e w' => e = .returned (.bool true) ∧ Below w.heap.size w w' := by
  have s1 := eq_self x
  cases h : hld x y all
  · have a1 := aft_no h
    go_enter Try.func7, Try.ntmps7
    go_wp2_with fail
    refine (after_b _ _ _ _ _).mono ?_; rintro e w1 ⟨rfl, hb1⟩; rw [a1]
    go_wp2_with fail
    refine (after_b _ _ _ _ _).mono ?_; rintro e w2 ⟨rfl, hb2⟩; rw [aft_gone]
    go_wp2_with fail
    refine (holds_b _ _ _ _).mono ?_; rintro e w3 ⟨rfl, hb3⟩
    go_wp2_with fail
    refine (alive_c _).mono ?_; rintro e w4 ⟨rfl, hb4⟩
    go_wp2
    go_ret
    have hb := two hb1 hb2 hb1.size; have hb := two hb hb3 hb.size
    exact ⟨rfl, two hb hb4 hb.size⟩
  · have a1 := Lib.hid (aft_yes h)
    have a4 := Lib.hid (gone4 x y all)
    have g1 := gone1 x y
    have g2 := gone2 x y
    have g3 := gone3 x y
    have s2 := eq_self (x &&& ~~~ y)
    go_enter Try.func7, Try.ntmps7
    go_wp2_with fail
    refine (after_b _ _ _ _ _).mono ?_; rintro e w1 ⟨rfl, hb1⟩; rw [a1.out]
    go_wp2_with fail
    refine (after_b _ _ _ _ _).mono ?_; rintro e w2 ⟨rfl, hb2⟩; rw [aft_gone]
    go_wp2_with fail
    refine (holds_b _ _ _ _).mono ?_; rintro e w3 ⟨rfl, hb3⟩
    go_wp2_with fail
    refine (alive_c _).mono ?_; rintro e w4 ⟨rfl, hb4⟩
    go_wp2_with fail
    refine (met_b _ _ _).mono ?_; rintro e w' ⟨rfl, rfl⟩
    go_wp2_with fail
    refine (met_b _ _ _).mono ?_; rintro e w' ⟨rfl, rfl⟩
    go_wp2_with fail
    refine (met_b _ _ _).mono ?_; rintro e w' ⟨rfl, rfl⟩
    go_wp2_with fail
    refine (met_b _ _ _).mono ?_; rintro e w' ⟨rfl, rfl⟩
    go_wp2_with fail
    refine (after_b _ _ _ _ _).mono ?_; rintro e w5 ⟨rfl, hb5⟩; rw [a4.out]
    go_wp2
    go_ret
    have hb := two hb1 hb2 hb1.size; have hb := two hb hb3 hb.size; have hb := two hb hb4 hb.size
    exact ⟨rfl, two hb hb5 hb.size⟩

/-- One bit. -/
def ob (n : Nat) : BitVec 32 := BitVec.ofNat 32 (2 ^ (n % 32))
theorem ob_toNat (n : Nat) : (ob n).toNat = 2 ^ (n % 32) := by
  unfold ob
  rw [BitVec.toNat_ofNat, Nat.mod_eq_of_lt (Nat.pow_lt_pow_right (by decide) (Nat.mod_lt _ (by decide)))]
theorem ob_bit (n j : Nat) : (ob n).getLsbD j = decide (n % 32 = j) := by
  rw [BitVec.getLsbD, ob_toNat, Nat.testBit_two_pow]
theorem ob_int (n : Nat) : (2 ^ (n % 32) : Int) % 4294967296 = bn (ob n) := by
  have h := ob_toNat n
  have hl := (ob n).isLt
  unfold bn
  have e : (2 ^ (n % 32) : Int) = ((2 ^ (n % 32) : Nat) : Int) := by simp
  rw [e, ← h]; omega
theorem ob_ne (n : Nat) : ¬ bn (ob n) = 0 := by
  have := ob_toNat n
  have h := Nat.two_pow_pos (n % 32)
  unfold bn; omega
theorem ob_div (x : BitVec 32) (n : Nat) : ((bn x).tdiv (bn (ob n)) % 4294967296 % 2 == 1) = bt x (n % 32) := by
  have h := ob_toNat n
  unfold bn bt
  rw [h, BitVec.getLsbD, Nat.testBit_eq_decide_div_mod_eq]
  have hx := x.isLt
  have hd : x.toNat / 2 ^ (n % 32) ≤ x.toNat := Nat.div_le_self _ _
  have e : ((x.toNat : Int).tdiv ((2 ^ (n % 32) : Nat) : Int)) = ((x.toNat / 2 ^ (n % 32) : Nat) : Int) := by
    rw [Int.tdiv_eq_ediv_of_nonneg (by omega)]; simp
  rw [e]
  by_cases h1 : x.toNat / 2 ^ (n % 32) % 2 = 1
  · rw [decide_eq_true h1, beq_iff_eq]; omega
  · rw [decide_eq_false h1, beq_eq_false_iff_ne]; omega
theorem ob_all (x : BitVec 32) (n : Nat) : hld x (ob n) true = bt x (n % 32) := by
  rw [Bool.eq_iff_iff, hld_t]
  have h32 : n % 32 < 32 := Nat.mod_lt _ (by decide)
  constructor
  · intro h; exact h _ h32 (by rw [ob_bit]; simp)
  · intro h j hj hy; rw [ob_bit, decide_eq_true_eq] at hy; rw [← hy]; exact h
theorem ob_any (x : BitVec 32) (n : Nat) : hld x (ob n) false = bt x (n % 32) := by
  rw [Bool.eq_iff_iff, hld_f]
  have h32 : n % 32 < 32 := Nat.mod_lt _ (by decide)
  constructor
  · rintro ⟨j, hj, hy, hx⟩; rw [ob_bit, decide_eq_true_eq] at hy; rw [hy]; exact hx
  · intro h; exact ⟨_, h32, by rw [ob_bit]; simp, h⟩
theorem ob_met (x : BitVec 32) (n : Nat) : (bn (x &&& ob n) == bn (ob n)) = bt x (n % 32) := by rw [hld_met, ob_all]
theorem and_max (x : BitVec 32) : x &&& B32 4294967295 = x := by
  rw [show B32 4294967295 = BitVec.allOnes 32 from rfl, BitVec.and_allOnes]
theorem and_none (x : BitVec 32) : bn (x &&& B32 0) = 0 := by
  rw [show B32 0 = 0#32 from rfl, BitVec.and_zero]; rfl
theorem ob_div2 (x : BitVec 32) (n : Nat) : ((bn x).tdiv (bn (ob n)) % 2 == 1) = bt x (n % 32) := by
  rw [← ob_div, Int.emod_emod_of_dvd _ (by decide)]
theorem met_i (x : BitVec 32) (a : Int) (w : World) :
    Calls Try.prog 12 #[.int .u32 (bn x), .int .u32 a] w fun e w' => e = .returned (.int .u32 (bn (x &&& B32 a))) ∧ w = w' := by
  have h := met_c (bn x) a w
  rwa [b32_bn] at h

set_option maxRecDepth 100000 in
set_option maxHeartbeats 400000 in
theorem masksBits_c (x : BitVec 32) (n : Nat) (hn : n < 256) (w : World) :
    Calls Try.prog 8 #[.int .u32 (bn x), .int .u8 n] w fun e w' => e = .returned (.bool true) ∧ Below w.heap.size w w' := by
  have e0 := ob_ne n
  have e1 := ob_int n
  have e2 := ob_div x n
  have e3 := ob_all x n
  have e4 := ob_any x n
  have e5 := ob_met x n
  have e6 := ob_div2 x n
  have s1 := eq_self x
  cases hb : bt x (n % 32)
  all_goals
    rw [hb] at e2 e3 e4 e5 e6
    go_enter Try.func8, Try.ntmps8
    go_wp2_with fail
    refine (alive_c _).mono ?_; rintro e w1 ⟨rfl, hb1⟩
    go_wp2_with fail
    refine (holds_b _ _ _ _).mono ?_; rintro e w2 ⟨rfl, hb2⟩
    go_wp2_with fail
    refine (holds_b _ _ _ _).mono ?_; rintro e w3 ⟨rfl, hb3⟩
    go_wp2_with fail
    refine (met_i _ _ _).mono ?_; rintro e w' ⟨rfl, rfl⟩; rw [b32_bn]
    go_wp2_with fail
    refine (met_i _ _ _).mono ?_; rintro e w' ⟨rfl, rfl⟩; rw [and_max]
    go_wp2_with fail
    refine (met_i _ _ _).mono ?_; rintro e w' ⟨rfl, rfl⟩; rw [and_none]
    go_wp2
    go_ret
    have hb := two hb1 hb2 hb1.size
    exact ⟨rfl, two hb hb3 hb.size⟩

theorem part_all (x y z : BitVec 32) : hld x y true = (hld x (y &&& z) true && hld x (y &&& ~~~ z) true) := by
  rw [Bool.eq_iff_iff, Bool.and_eq_true, hld_t, hld_t, hld_t]
  constructor
  · intro h
    exact ⟨fun j hj hy => h j hj (by rw [BitVec.getLsbD_and] at hy; simp at hy; simpa using hy.1), fun j hj hy => h j hj (by rw [BitVec.getLsbD_and] at hy; simp at hy; simpa using hy.1)⟩
  · rintro ⟨h1, h2⟩ j hj hy
    rcases hz : z.getLsbD j with _ | _
    · exact h2 j hj (by rw [BitVec.getLsbD_and, BitVec.getLsbD_not, hy, hz]; simp [hj])
    · exact h1 j hj (by rw [BitVec.getLsbD_and, hy, hz]; rfl)
theorem part_any (x y z : BitVec 32) : hld x y false = (hld x (y &&& z) false || hld x (y &&& ~~~ z) false) := by
  rw [Bool.eq_iff_iff, Bool.or_eq_true, hld_f, hld_f, hld_f]
  constructor
  · rintro ⟨j, hj, hy, hx⟩
    rcases hz : z.getLsbD j with _ | _
    · exact Or.inr ⟨j, hj, by rw [BitVec.getLsbD_and, BitVec.getLsbD_not, hy, hz]; simp [hj], hx⟩
    · exact Or.inl ⟨j, hj, by rw [BitVec.getLsbD_and, hy, hz]; rfl, hx⟩
  · rintro (⟨j, hj, hy, hx⟩ | ⟨j, hj, hy, hx⟩) <;>
      exact ⟨j, hj, by rw [BitVec.getLsbD_and] at hy; simp at hy; simpa using hy.1, hx⟩
theorem part_met (x y z : BitVec 32) : (bn (x &&& (y &&& z) ||| x &&& (y &&& ~~~ z)) == bn (x &&& y)) = true := by
  rw [bn_inj, beq_iff_eq]; refine bv_ext fun j hj => ?_
  simp only [BitVec.getLsbD_and, BitVec.getLsbD_or, BitVec.getLsbD_not, hj]; cases z.getLsbD j <;> simp
theorem aft_any (x y : BitVec 32) : aft x y false true = x &&& ~~~ y := by
  cases h : hld x y false
  · rw [aft_no h]
    have := hld_any x y
    rw [h] at this
    rw [bv_eq0] at this
    have e : x &&& y = 0#32 := by simpa using this
    refine bv_ext fun j hj => ?_
    have := congrArg (fun z => z.getLsbD j) e
    simp only [BitVec.getLsbD_and, BitVec.getLsbD_not, BitVec.getLsbD_zero, hj] at *
    cases hx : x.getLsbD j <;> cases hy : y.getLsbD j <;> simp_all
  · exact aft_yes h
theorem part_aft (x y z : BitVec 32) : (bn (x &&& ~~~ (y &&& z) &&& ~~~ (y &&& ~~~ z)) == bn (x &&& ~~~ y)) = true := by
  rw [bn_inj, beq_iff_eq]; refine bv_ext fun j hj => ?_
  simp only [BitVec.getLsbD_and, BitVec.getLsbD_not, hj]; cases z.getLsbD j <;> simp
theorem after_f (x y : BitVec 32) (w : World) :
    Calls Try.prog 14 #[.int .u32 (bn x), .int .u32 (bn y), .bool false, .bool true] w fun e w' => e = .returned (.int .u32 (bn (x &&& ~~~ y))) ∧ Below w.heap.size w w' := by
  have h := after_b x y false true w
  rwa [aft_any] at h

set_option maxRecDepth 100000 in
set_option maxHeartbeats 4000000 in
theorem masksParts_c (x y z : BitVec 32) (w : World) :
    Calls Try.prog 9 #[.int .u32 (bn x), .int .u32 (bn y), .int .u32 (bn z)] w fun e w' => e = .returned (.bool true) ∧ Below w.heap.size w w' := by
  have p1 := part_all x y z
  have p2 := part_any x y z
  have p3 := part_met x y z
  have p4 := part_aft x y z
  cases h1 : hld x (y &&& z) true <;> cases h2 : hld x (y &&& z) false
  all_goals
    rw [h1] at p1
    rw [h2] at p2
  case false.false =>
    simp only [Bool.false_and, Bool.false_or] at p1 p2
    cases h3 : hld x (y &&& ~~~ z) false
    all_goals
      rw [h3] at p2
      go_enter Try.func9, Try.ntmps9
      go_wp2_with fail
      refine (holds_b _ _ _ _).mono ?_; rintro e w1 ⟨rfl, hb1⟩
      go_wp2_with fail
      refine (holds_b _ _ _ _).mono ?_; rintro e w2 ⟨rfl, hb2⟩
      go_wp2_with fail
      refine (holds_b _ _ _ _).mono ?_; rintro e w3 ⟨rfl, hb3⟩
      go_wp2_with fail
      refine (alive_c _).mono ?_; rintro e w4 ⟨rfl, hb4⟩
      go_wp2_with fail
      refine (holds_b _ _ _ _).mono ?_; rintro e w5 ⟨rfl, hb5⟩
      go_wp2_with fail
      refine (holds_b _ _ _ _).mono ?_; rintro e w6 ⟨rfl, hb6⟩
      go_wp2_with fail
      refine (met_b _ _ _).mono ?_; rintro e w' ⟨rfl, rfl⟩
      go_wp2_with fail
      refine (met_b _ _ _).mono ?_; rintro e w' ⟨rfl, rfl⟩
      go_wp2_with fail
      refine (met_b _ _ _).mono ?_; rintro e w' ⟨rfl, rfl⟩
      go_wp2_with fail
      refine (after_f _ _ _).mono ?_; rintro e w7 ⟨rfl, hb7⟩
      go_wp2_with fail
      refine (after_f _ _ _).mono ?_; rintro e w8 ⟨rfl, hb8⟩
      go_wp2_with fail
      refine (after_f _ _ _).mono ?_; rintro e w9 ⟨rfl, hb9⟩
      go_wp2
      go_ret
      have hb := hb1
      have hb := two hb hb2 hb.size
      have hb := two hb hb3 hb.size
      have hb := two hb hb4 hb.size
      have hb := two hb hb5 hb.size
      have hb := two hb hb6 hb.size
      have hb := two hb hb7 hb.size
      have hb := two hb hb8 hb.size
      exact ⟨rfl, two hb hb9 hb.size⟩
  case false.true =>
    simp only [Bool.false_and, Bool.true_or] at p1 p2
    go_enter Try.func9, Try.ntmps9
    go_wp2_with fail
    refine (holds_b _ _ _ _).mono ?_; rintro e w1 ⟨rfl, hb1⟩
    go_wp2_with fail
    refine (holds_b _ _ _ _).mono ?_; rintro e w2 ⟨rfl, hb2⟩
    go_wp2_with fail
    refine (alive_c _).mono ?_; rintro e w3 ⟨rfl, hb3⟩
    go_wp2_with fail
    refine (holds_b _ _ _ _).mono ?_; rintro e w4 ⟨rfl, hb4⟩
    go_wp2_with fail
    refine (holds_b _ _ _ _).mono ?_; rintro e w5 ⟨rfl, hb5⟩
    go_wp2_with fail
    refine (met_b _ _ _).mono ?_; rintro e w' ⟨rfl, rfl⟩
    go_wp2_with fail
    refine (met_b _ _ _).mono ?_; rintro e w' ⟨rfl, rfl⟩
    go_wp2_with fail
    refine (met_b _ _ _).mono ?_; rintro e w' ⟨rfl, rfl⟩
    go_wp2_with fail
    refine (after_f _ _ _).mono ?_; rintro e w6 ⟨rfl, hb6⟩
    go_wp2_with fail
    refine (after_f _ _ _).mono ?_; rintro e w7 ⟨rfl, hb7⟩
    go_wp2_with fail
    refine (after_f _ _ _).mono ?_; rintro e w8 ⟨rfl, hb8⟩
    go_wp2
    go_ret
    have hb := hb1
    have hb := two hb hb2 hb.size
    have hb := two hb hb3 hb.size
    have hb := two hb hb4 hb.size
    have hb := two hb hb5 hb.size
    have hb := two hb hb6 hb.size
    have hb := two hb hb7 hb.size
    exact ⟨rfl, two hb hb8 hb.size⟩
  case true.false =>
    simp only [Bool.true_and, Bool.false_or] at p1 p2
    cases h3 : hld x (y &&& ~~~ z) false <;> cases h4 : hld x (y &&& ~~~ z) true
    all_goals
      rw [h3] at p2
      rw [h4] at p1
      go_enter Try.func9, Try.ntmps9
      go_wp2_with fail
      refine (holds_b _ _ _ _).mono ?_; rintro e w1 ⟨rfl, hb1⟩
      go_wp2_with fail
      refine (holds_b _ _ _ _).mono ?_; rintro e w2 ⟨rfl, hb2⟩
      go_wp2_with fail
      refine (holds_b _ _ _ _).mono ?_; rintro e w3 ⟨rfl, hb3⟩
      go_wp2_with fail
      refine (holds_b _ _ _ _).mono ?_; rintro e w4 ⟨rfl, hb4⟩
      go_wp2_with fail
      refine (alive_c _).mono ?_; rintro e w5 ⟨rfl, hb5⟩
      go_wp2_with fail
      refine (holds_b _ _ _ _).mono ?_; rintro e w6 ⟨rfl, hb6⟩
      go_wp2_with fail
      refine (holds_b _ _ _ _).mono ?_; rintro e w7 ⟨rfl, hb7⟩
      go_wp2_with fail
      refine (met_b _ _ _).mono ?_; rintro e w' ⟨rfl, rfl⟩
      go_wp2_with fail
      refine (met_b _ _ _).mono ?_; rintro e w' ⟨rfl, rfl⟩
      go_wp2_with fail
      refine (met_b _ _ _).mono ?_; rintro e w' ⟨rfl, rfl⟩
      go_wp2_with fail
      refine (after_f _ _ _).mono ?_; rintro e w8 ⟨rfl, hb8⟩
      go_wp2_with fail
      refine (after_f _ _ _).mono ?_; rintro e w9 ⟨rfl, hb9⟩
      go_wp2_with fail
      refine (after_f _ _ _).mono ?_; rintro e w10 ⟨rfl, hb10⟩
      go_wp2
      go_ret
      have hb := hb1
      have hb := two hb hb2 hb.size
      have hb := two hb hb3 hb.size
      have hb := two hb hb4 hb.size
      have hb := two hb hb5 hb.size
      have hb := two hb hb6 hb.size
      have hb := two hb hb7 hb.size
      have hb := two hb hb8 hb.size
      have hb := two hb hb9 hb.size
      exact ⟨rfl, two hb hb10 hb.size⟩
  case true.true =>
    simp only [Bool.true_and, Bool.true_or] at p1 p2
    cases h4 : hld x (y &&& ~~~ z) true
    all_goals
      rw [h4] at p1
      go_enter Try.func9, Try.ntmps9
      go_wp2_with fail
      refine (holds_b _ _ _ _).mono ?_; rintro e w1 ⟨rfl, hb1⟩
      go_wp2_with fail
      refine (holds_b _ _ _ _).mono ?_; rintro e w2 ⟨rfl, hb2⟩
      go_wp2_with fail
      refine (holds_b _ _ _ _).mono ?_; rintro e w3 ⟨rfl, hb3⟩
      go_wp2_with fail
      refine (alive_c _).mono ?_; rintro e w4 ⟨rfl, hb4⟩
      go_wp2_with fail
      refine (holds_b _ _ _ _).mono ?_; rintro e w5 ⟨rfl, hb5⟩
      go_wp2_with fail
      refine (holds_b _ _ _ _).mono ?_; rintro e w6 ⟨rfl, hb6⟩
      go_wp2_with fail
      refine (met_b _ _ _).mono ?_; rintro e w' ⟨rfl, rfl⟩
      go_wp2_with fail
      refine (met_b _ _ _).mono ?_; rintro e w' ⟨rfl, rfl⟩
      go_wp2_with fail
      refine (met_b _ _ _).mono ?_; rintro e w' ⟨rfl, rfl⟩
      go_wp2_with fail
      refine (after_f _ _ _).mono ?_; rintro e w7 ⟨rfl, hb7⟩
      go_wp2_with fail
      refine (after_f _ _ _).mono ?_; rintro e w8 ⟨rfl, hb8⟩
      go_wp2_with fail
      refine (after_f _ _ _).mono ?_; rintro e w9 ⟨rfl, hb9⟩
      go_wp2
      go_ret
      have hb := hb1
      have hb := two hb hb2 hb.size
      have hb := two hb hb3 hb.size
      have hb := two hb hb4 hb.size
      have hb := two hb hb5 hb.size
      have hb := two hb hb6 hb.size
      have hb := two hb hb7 hb.size
      have hb := two hb hb8 hb.size
      exact ⟨rfl, two hb hb9 hb.size⟩
end Go.Proofs.Yteojjboncaegkaa
