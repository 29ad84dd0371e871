/- Contracts of the package masks: what its three functions answer, and that the chapter's fixed answers hold. -/
import Derived.Test.YteojjboncaegkaaRows
import Derived.WalkKit
import Derived.WalkSpells
import Derived.WalkLawsBesides
import Derived.Laws.EntriesVeiled
import Derived.BigQuiet
import Derived.Lib.Hide
import Derived.Deep.QuietTactic
namespace Go.Proofs.Yteojjboncaegkaa
open Go.RowKit

abbrev B32 (a : Int) : BitVec 32 := BitVec.ofInt 32 a

theorem wrap_u32_nat (n : Nat) (h : n < 4294967296) : IntKind.u32.wrap (n : Int) = n := by
  rw [IntKind.wrap_u32]; omega

/-- A number of 32 bits as a slot has it. -/
def bn (z : BitVec 32) : Int := (z.toNat : Int)
theorem bits_and32 (a b : Int) : bits .and .u32 a b = bn (B32 a &&& B32 b) := by
  show IntKind.u32.wrap _ = _
  exact wrap_u32_nat _ (BitVec.isLt _)
theorem bits_or32 (a b : Int) : bits .or .u32 a b = bn (B32 a ||| B32 b) := by
  show IntKind.u32.wrap _ = _
  exact wrap_u32_nat _ (BitVec.isLt _)
theorem bits_andNot32 (a b : Int) : bits .andNot .u32 a b = bn (B32 a &&& ~~~ B32 b) := by
  show IntKind.u32.wrap _ = _
  exact wrap_u32_nat _ (BitVec.isLt _)
theorem b32_bn (z : BitVec 32) : B32 (bn z) = z := by simp [B32, bn]
theorem bn_inj (x y : BitVec 32) : (bn x == bn y) = (x == y) := by
  rw [Bool.eq_iff_iff, beq_iff_eq, beq_iff_eq, ← BitVec.toNat_inj]; unfold bn; omega
theorem bv_eq0 (z : BitVec 32) : (bn z == 0) = (z == 0#32) := bn_inj z 0#32
theorem bv_ne0 (z : BitVec 32) : (bn z != 0) = !(z == 0#32) := by rw [bne, bv_eq0]

/-- What Holds answers. -/
def hld (x y : BitVec 32) (all : Bool) : Bool := if all then y &&& ~~~ x == 0#32 else !(x &&& y == 0#32)
/-- What After answers. -/
def aft (x y : BitVec 32) (all gone : Bool) : BitVec 32 := if gone && hld x y all then x &&& ~~~ y else x

attribute [local go_sem] bits_and32 bits_or32 bits_andNot32

set_option maxHeartbeats 400000 in
theorem met_c (a b : Int) (w : World) :
    Calls Try.prog 12 #[.int .u32 a, .int .u32 b] w fun e w' => e = .returned (.int .u32 (bn (B32 a &&& B32 b))) ∧ w = w' := by
  go_enter Try.func12, Try.ntmps12
  go_wp2
  go_ret
  exact ⟨rfl, rfl⟩

set_option maxHeartbeats 400000 in
theorem holds_c (a b : Int) (all : Bool) (w : World) :
    Calls Try.prog 10 #[.int .u32 a, .int .u32 b, .bool all] w fun e w' => e = .returned (.bool (hld (B32 a) (B32 b) all)) ∧ Below w.heap.size w w' := by
  cases all
  · go_enter Try.func10, Try.ntmps10
    go_wp2
    go_ret
    refine ⟨?_, by repeat (first | exact Below.refl _ _ | refine Below.alloc ?_ (by simp; try omega) _)⟩
    simp [hld, bv_ne0]
  · go_enter Try.func10, Try.ntmps10
    go_wp2
    go_ret
    refine ⟨?_, by repeat (first | exact Below.refl _ _ | refine Below.alloc ?_ (by simp; try omega) _)⟩
    simp [hld, bv_eq0]


set_option maxHeartbeats 400000 in
theorem after_c (a b : Int) (all gone : Bool) (w : World) (ha : bn (B32 a) = a) :
    Calls Try.prog 14 #[.int .u32 a, .int .u32 b, .bool all, .bool gone] w fun e w' => e = .returned (.int .u32 (bn (aft (B32 a) (B32 b) all gone))) ∧ Below w.heap.size w w' := by
  have H := Lib.hid ha
  clear ha
  cases gone
  · go_enter Try.func14, Try.ntmps14
    go_wp2
    go_ret
    refine ⟨?_, Below.refl _ _⟩
    simp [aft, H.out]
  · have e1 : aft (B32 a) (B32 b) all true = if hld (B32 a) (B32 b) all then B32 a &&& ~~~ B32 b else B32 a := rfl
    have E1 := Lib.hid e1
    clear e1
    cases hh : hld (B32 a) (B32 b) all
    · go_enter Try.func14, Try.ntmps14
      go_wp2_with (go_at_call 10; refine (holds_c _ _ _ _).mono ?_; rintro e w' ⟨rfl, hb⟩)
      go_ret
      refine ⟨?_, hb⟩
      rw [E1.out, hh]
      simp [H.out]
    · go_enter Try.func14, Try.ntmps14
      go_wp2_with (go_at_call 10; refine (holds_c _ _ _ _).mono ?_; rintro e w' ⟨rfl, hb⟩)
      go_ret
      refine ⟨?_, hb⟩
      rw [E1.out, hh]
      simp

theorem hld_1 : hld (B32 12) (B32 4) true = true := by decide
theorem hld_2 : hld (B32 12) (B32 5) true = false := by decide
theorem hld_3 : hld (B32 12) (B32 5) false = true := by decide
theorem hld_4 : hld (B32 12) (B32 3) false = false := by decide
theorem hld_5 : hld (B32 0) (B32 0) true = true := by decide
theorem hld_6 : hld (B32 7) (B32 0) false = false := by decide

theorem met_1 : bn (B32 12 &&& B32 5) = 4 := by decide
theorem aft_1 : bn (aft (B32 12) (B32 5) false true) = 8 := by decide
theorem aft_2 : bn (aft (B32 12) (B32 5) true true) = 12 := by decide
theorem aft_3 : bn (aft (B32 12) (B32 4) true false) = 12 := by decide
theorem b12 : bn (B32 12) = 12 := by decide

set_option maxHeartbeats 400000 in
theorem alive_c (w : World) :
    Calls Try.prog 16 #[] w fun e w' => e = .returned (.bool true) ∧ Below w.heap.size w w' := by
  go_enter Try.func16, Try.ntmps16
  go_wp2_with fail
  refine (holds_c _ _ _ _).mono ?_; rintro e w1 ⟨rfl, hb1⟩; rw [hld_1]
  go_wp2_with fail
  refine (holds_c _ _ _ _).mono ?_; rintro e w2 ⟨rfl, hb2⟩; rw [hld_2]
  go_wp2_with fail
  refine (holds_c _ _ _ _).mono ?_; rintro e w3 ⟨rfl, hb3⟩; rw [hld_3]
  go_wp2_with fail
  refine (holds_c _ _ _ _).mono ?_; rintro e w4 ⟨rfl, hb4⟩; rw [hld_4]
  go_wp2_with fail
  refine (holds_c _ _ _ _).mono ?_; rintro e w5 ⟨rfl, hb5⟩; rw [hld_5]
  go_wp2_with fail
  refine (holds_c _ _ _ _).mono ?_; rintro e w6 ⟨rfl, hb6⟩; rw [hld_6]
  go_wp2_with fail
  refine (met_c _ _ _).mono ?_; rintro e w7 ⟨rfl, rfl⟩; rw [met_1]
  go_wp2_with fail
  refine (after_c _ _ _ _ _ b12).mono ?_; rintro e w8 ⟨rfl, hb8⟩; rw [aft_1]
  go_wp2_with fail
  refine (after_c _ _ _ _ _ b12).mono ?_; rintro e w9 ⟨rfl, hb9⟩; rw [aft_2]
  go_wp2_with fail
  refine (after_c _ _ _ _ _ b12).mono ?_; rintro e w10 ⟨rfl, hb10⟩; rw [aft_3]
  go_wp2
  go_ret
  have s1 := hb1.size; have s2 := hb2.size; have s3 := hb3.size; have s4 := hb4.size; have s5 := hb5.size; have s6 := hb6.size; have s8 := hb8.size; have s9 := hb9.size
  refine ⟨rfl, ?_⟩
  exact hb1.trans ((hb2.mono (by omega)).trans ((hb3.mono (by omega)).trans ((hb4.mono (by omega)).trans ((hb5.mono (by omega)).trans ((hb6.mono (by omega)).trans ((hb8.mono (by omega)).trans ((hb9.mono (by omega)).trans (hb10.mono (by omega)))))))))

end Go.Proofs.Yteojjboncaegkaa
