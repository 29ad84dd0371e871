/- The document's units: Do: walked. The document's core: what it is in memory; what it has, handed out; an answer: walked. -/
import Derived.Test.YtijkkompnfpdeaaGreatDoorP12
set_option linter.unusedVariables false
set_option linter.unusedSimpArgs false
namespace Go.Proofs.YtijkkompnfpdeaaGreatDoor
open Go.RowKit Go.Joins Go.Shelf
attribute [local go_sem] Oper.semAt_some

theorem of_eq {n : Int} {u : UInt32} (h : (u.toNat : Int) = n % 4294967296) : UInt32.ofNat (n % 4294967296).toNat = u := by
  apply UInt32.toNat_inj.1; have := u32_of n; omega
theorem rof_any (n : Int) (h : -4294967296 < n) (u : UInt32) (hu : (u.toNat : Int) = n % 4294967296) (w : World) : Calls Tryz.prog 105 #[.int .i64 n] w fun e w' => e = .returned (wv u) ∧ w' = w := by
  by_cases h0 : 0 ≤ n
  · have := rof_p n h0 w; rwa [of_eq hu] at this
  · have := rof_n n (by omega) h w; rwa [of_eq hu] at this
set_option maxHeartbeats 4000000 in
set_option maxRecDepth 20000 in
theorem rdo_3 (a b : UInt32) (w : World) :
    Calls Tryz.prog 46 #[.int .u8 3, wv a, wv b] w fun e w' => e = .returned (.tuple #[wv (a + b), .int .i64 0]) ∧ Below w.heap.size w w' := by
  have HB := Lib.hid (Below.refl w.heap.size w)
  have ha := a.toNat_lt
  have hb := b.toNat_lt
  have p1 : IntKind.i64.wrap (a.toNat : Int) = (a.toNat : Int) := by rw [IntKind.wrap_i64]; omega
  have p2 : IntKind.i64.wrap (b.toNat : Int) = (b.toNat : Int) := by rw [IntKind.wrap_i64]; omega
  have p3 : IntKind.i64.wrap ((a.toNat : Int) + (b.toNat : Int)) = (a.toNat : Int) + (b.toNat : Int) := by rw [IntKind.wrap_i64]; omega
  have OC := Lib.hid (fun W => rof_any ((a.toNat : Int) + (b.toNat : Int)) (by omega) (a + b) (by rw [← u32_add, IntKind.wrap_u32]) W)
  generalize a + b = u at *
  clear ha hb
  go_enter Tryz.func46, Tryz.ntmps46
  go_wp2_with fail
  refine (OC.out _).mono ?_; rintro e w2 ⟨rfl, rfl⟩
  clear OC
  go_wp2
  go_ret2
  exact ⟨rfl, HB.out⟩
set_option maxHeartbeats 4000000 in
set_option maxRecDepth 20000 in
theorem rdo_4 (a b : UInt32) (w : World) :
    Calls Tryz.prog 46 #[.int .u8 4, wv a, wv b] w fun e w' => e = .returned (.tuple #[wv (a - b), .int .i64 0]) ∧ Below w.heap.size w w' := by
  have HB := Lib.hid (Below.refl w.heap.size w)
  have ha := a.toNat_lt
  have hb := b.toNat_lt
  have p1 : IntKind.i64.wrap (a.toNat : Int) = (a.toNat : Int) := by rw [IntKind.wrap_i64]; omega
  have p2 : IntKind.i64.wrap (b.toNat : Int) = (b.toNat : Int) := by rw [IntKind.wrap_i64]; omega
  have p3 : IntKind.i64.wrap ((a.toNat : Int) - (b.toNat : Int)) = (a.toNat : Int) - (b.toNat : Int) := by rw [IntKind.wrap_i64]; omega
  have OC := Lib.hid (fun W => rof_any ((a.toNat : Int) - (b.toNat : Int)) (by omega) (a - b) (by rw [← u32_sub, IntKind.wrap_u32]) W)
  generalize a - b = u at *
  clear ha hb
  go_enter Tryz.func46, Tryz.ntmps46
  go_wp2_with fail
  refine (OC.out _).mono ?_; rintro e w2 ⟨rfl, rfl⟩
  clear OC
  go_wp2
  go_ret2
  exact ⟨rfl, HB.out⟩
set_option maxHeartbeats 4000000 in
set_option maxRecDepth 20000 in
theorem rdo_5 (a b : UInt32) (w : World) :
    Calls Tryz.prog 46 #[.int .u8 5, wv a, wv b] w fun e w' => e = .returned (.tuple #[wv (a * b), .int .i64 0]) ∧ Below w.heap.size w w' := by
  have HB := Lib.hid (Below.refl w.heap.size w)
  have ha := a.toNat_lt
  have hb := b.toNat_lt
  have p1 : IntKind.i64.wrap (a.toNat : Int) = (a.toNat : Int) := by rw [IntKind.wrap_i64]; omega
  have p2 : IntKind.i64.wrap (b.toNat : Int) = (b.toNat : Int) := by rw [IntKind.wrap_i64]; omega
  have r1 : (b.toNat : Int).tmod 65536 = (b.toNat : Int) % 65536 := tmod_pos (by omega)
  have r2 : (b.toNat : Int).tdiv 65536 = (b.toNat : Int) / 65536 := Int.tdiv_eq_ediv_of_nonneg (by omega)
  have p9 : IntKind.i64.wrap ((b.toNat : Int) / 65536) = (b.toNat : Int) / 65536 := by rw [IntKind.wrap_i64]; omega
  have p9' : wrap64 ((b.toNat : Int) / 65536) = (b.toNat : Int) / 65536 := by unfold wrap64; omega
  have m0 : ((a * b).toNat : Int) = ((a.toNat : Int) * (b.toNat : Int)) % 4294967296 := by rw [← u32_mul, IntKind.wrap_u32]
  have hsp : (a.toNat : Int) * (b.toNat : Int) = (a.toNat : Int) * ((b.toNat : Int) % 65536) + 65536 * ((a.toNat : Int) * ((b.toNat : Int) / 65536)) := by
    have e : (b.toNat : Int) = (b.toNat : Int) % 65536 + 65536 * ((b.toNat : Int) / 65536) := by omega
    calc (a.toNat : Int) * (b.toNat : Int) = (a.toNat : Int) * ((b.toNat : Int) % 65536 + 65536 * ((b.toNat : Int) / 65536)) := by rw [← e]
      _ = _ := by rw [Int.mul_add, Int.mul_left_comm]
  have l1 : (a.toNat : Int) * ((b.toNat : Int) % 65536) ≤ 4294967296 * 65536 := Int.mul_le_mul (by omega) (by omega) (by omega) (by omega)
  have l2 : (a.toNat : Int) * ((b.toNat : Int) / 65536) ≤ 4294967296 * 65536 := Int.mul_le_mul (by omega) (by omega) (by omega) (by omega)
  have g1 : 0 ≤ (a.toNat : Int) * ((b.toNat : Int) % 65536) := Int.mul_nonneg (by omega) (by omega)
  have g2 : 0 ≤ (a.toNat : Int) * ((b.toNat : Int) / 65536) := Int.mul_nonneg (by omega) (by omega)
  rw [hsp] at m0
  generalize hP : (a.toNat : Int) * ((b.toNat : Int) % 65536) = P at *
  generalize hQ : (a.toNat : Int) * ((b.toNat : Int) / 65536) = Q at *
  have p3 : IntKind.i64.wrap P = P := by rw [IntKind.wrap_i64]; omega
  have p4 : IntKind.i64.wrap Q = Q := by rw [IntKind.wrap_i64]; omega
  have p4' : wrap64 Q = Q := by unfold wrap64; omega
  obtain ⟨lo, hlo⟩ : ∃ lo : UInt32, (lo.toNat : Int) = P % 4294967296 := ⟨_, u32_of P⟩
  obtain ⟨hi, hhi⟩ : ∃ hi : UInt32, (hi.toNat : Int) = Q % 4294967296 := ⟨_, u32_of Q⟩
  have O1 := Lib.hid (fun W => rof_any P (by omega) lo hlo W)
  have O2 := Lib.hid (fun W => rof_any Q (by omega) hi hhi W)
  have r3 : (hi.toNat : Int).tmod 65536 = (hi.toNat : Int) % 65536 := tmod_pos (by omega)
  have p5 : IntKind.i64.wrap (lo.toNat : Int) = (lo.toNat : Int) := by rw [IntKind.wrap_i64]; omega
  have p6 : IntKind.i64.wrap (hi.toNat : Int) = (hi.toNat : Int) := by rw [IntKind.wrap_i64]; omega
  have p7 : IntKind.i64.wrap (65536 * ((hi.toNat : Int) % 65536)) = 65536 * ((hi.toNat : Int) % 65536) := by rw [IntKind.wrap_i64]; omega
  have p8 : IntKind.i64.wrap ((lo.toNat : Int) + 65536 * ((hi.toNat : Int) % 65536)) = (lo.toNat : Int) + 65536 * ((hi.toNat : Int) % 65536) := by rw [IntKind.wrap_i64]; omega
  have O3 := Lib.hid (fun W => rof_any ((lo.toNat : Int) + 65536 * ((hi.toNat : Int) % 65536)) (by omega) (a * b) (by omega) W)
  generalize a * b = u at *
  clear ha hb hsp m0 l1 l2 g1 g2 hlo hhi
  generalize (hi.toNat : Int) % 65536 = s at *
  generalize hv : 65536 * s = v at *
  have p7' : IntKind.i64.wrap (65536 * s) = v := by rw [hv]; exact p7
  obtain ⟨z, hz⟩ : ∃ z, z = (lo.toNat : Int) + v := ⟨_, rfl⟩
  rw [← hz] at O3
  have p8' : IntKind.i64.wrap ((lo.toNat : Int) + v) = z := by rw [hz]; exact p8
  clear p8 hz
  clear p7 hv
  go_enter Tryz.func46, Tryz.ntmps46
  go_wp2_with fail
  refine (O1.out _).mono ?_; rintro e w2 ⟨rfl, rfl⟩
  go_wp2_with fail
  refine (O2.out _).mono ?_; rintro e w3 ⟨rfl, rfl⟩
  clear O1 O2
  go_wp2_with fail
  refine (O3.out _).mono ?_; rintro e w4 ⟨rfl, rfl⟩
  clear O3
  go_wp2
  go_ret2
  exact ⟨rfl, HB.out⟩
def bit3 (p q r : Nat) : Nat → Nat
  | 0 => p
  | 1 => q
  | _ => r
theorem bit_and (x y i : Nat) : (x &&& y) / 2 ^ i % 2 = bit3 0 0 1 (x / 2 ^ i % 2 + y / 2 ^ i % 2) := by
  have h : ∀ n : Nat, n / 2 ^ i % 2 = (n.testBit i).toNat := fun n => by rw [Nat.toNat_testBit]
  rw [h, h x, h y, Nat.testBit_and]
  cases x.testBit i <;> cases y.testBit i <;> rfl
set_option maxHeartbeats 4000000 in
set_option maxRecDepth 20000 in
theorem rdo_6 (a b : UInt32) (w : World) :
    Calls Tryz.prog 46 #[.int .u8 6, wv a, wv b] w fun e w' => e = .returned (.tuple #[wv (a &&& b), .int .i64 0]) ∧ Below w.heap.size w w' := by
  have HB := Lib.hid (Below.refl w.heap.size w)
  have ha := a.toNat_lt
  have hb := b.toNat_lt
  have p1 : IntKind.i64.wrap (a.toNat : Int) = (a.toNat : Int) := by rw [IntKind.wrap_i64]; omega
  have p2 : IntKind.i64.wrap (b.toNat : Int) = (b.toNat : Int) := by rw [IntKind.wrap_i64]; omega
  have HZ := blk_new (Hp.start w) (.cells #[.int .i64 0, .int .i64 0, .int .i64 1] 3)
  have BC := Lib.hid (rbits_c a b (a &&& b) w.heap.size _ (fun i hi => by
    rw [cell_blk (blk_get HZ)]
    have e : (a &&& b).toNat / 2 ^ i % 2 = bit3 0 0 1 (a.toNat / 2 ^ i % 2 + b.toNat / 2 ^ i % 2) := by rw [UInt32.toNat_and]; exact bit_and _ _ _
    rw [e]
    have x1 : a.toNat / 2 ^ i % 2 < 2 := Nat.mod_lt _ (by omega)
    have x2 : b.toNat / 2 ^ i % 2 < 2 := Nat.mod_lt _ (by omega)
    generalize a.toNat / 2 ^ i % 2 = x at *
    generalize b.toNat / 2 ^ i % 2 = y at *
    obtain rfl | rfl : x = 0 ∨ x = 1 := by omega
    all_goals obtain rfl | rfl : y = 0 ∨ y = 1 := by omega
    all_goals rfl))
  have HZ2 := Lib.hid HZ.below
  generalize a &&& b = u at *
  clear ha hb HZ HB
  go_enter Tryz.func46, Tryz.ntmps46
  go_wp2_with fail
  refine BC.out.mono ?_; rintro e w2 ⟨rfl, rfl⟩
  clear BC
  go_wp2
  go_ret2
  exact ⟨rfl, HZ2.out⟩
theorem bit_or (x y i : Nat) : (x ||| y) / 2 ^ i % 2 = bit3 0 1 1 (x / 2 ^ i % 2 + y / 2 ^ i % 2) := by
  have h : ∀ n : Nat, n / 2 ^ i % 2 = (n.testBit i).toNat := fun n => by rw [Nat.toNat_testBit]
  rw [h, h x, h y, Nat.testBit_or]
  cases x.testBit i <;> cases y.testBit i <;> rfl
set_option maxHeartbeats 4000000 in
set_option maxRecDepth 20000 in
theorem rdo_7 (a b : UInt32) (w : World) :
    Calls Tryz.prog 46 #[.int .u8 7, wv a, wv b] w fun e w' => e = .returned (.tuple #[wv (a ||| b), .int .i64 0]) ∧ Below w.heap.size w w' := by
  have HB := Lib.hid (Below.refl w.heap.size w)
  have ha := a.toNat_lt
  have hb := b.toNat_lt
  have p1 : IntKind.i64.wrap (a.toNat : Int) = (a.toNat : Int) := by rw [IntKind.wrap_i64]; omega
  have p2 : IntKind.i64.wrap (b.toNat : Int) = (b.toNat : Int) := by rw [IntKind.wrap_i64]; omega
  have HZ := blk_new (Hp.start w) (.cells #[.int .i64 0, .int .i64 1, .int .i64 1] 3)
  have BC := Lib.hid (rbits_c a b (a ||| b) w.heap.size _ (fun i hi => by
    rw [cell_blk (blk_get HZ)]
    have e : (a ||| b).toNat / 2 ^ i % 2 = bit3 0 1 1 (a.toNat / 2 ^ i % 2 + b.toNat / 2 ^ i % 2) := by rw [UInt32.toNat_or]; exact bit_or _ _ _
    rw [e]
    have x1 : a.toNat / 2 ^ i % 2 < 2 := Nat.mod_lt _ (by omega)
    have x2 : b.toNat / 2 ^ i % 2 < 2 := Nat.mod_lt _ (by omega)
    generalize a.toNat / 2 ^ i % 2 = x at *
    generalize b.toNat / 2 ^ i % 2 = y at *
    obtain rfl | rfl : x = 0 ∨ x = 1 := by omega
    all_goals obtain rfl | rfl : y = 0 ∨ y = 1 := by omega
    all_goals rfl))
  have HZ2 := Lib.hid HZ.below
  generalize a ||| b = u at *
  clear ha hb HZ HB
  go_enter Tryz.func46, Tryz.ntmps46
  go_wp2_with fail
  refine BC.out.mono ?_; rintro e w2 ⟨rfl, rfl⟩
  clear BC
  go_wp2
  go_ret2
  exact ⟨rfl, HZ2.out⟩
theorem bit_xor (x y i : Nat) : (x ^^^ y) / 2 ^ i % 2 = bit3 0 1 0 (x / 2 ^ i % 2 + y / 2 ^ i % 2) := by
  have h : ∀ n : Nat, n / 2 ^ i % 2 = (n.testBit i).toNat := fun n => by rw [Nat.toNat_testBit]
  rw [h, h x, h y, Nat.testBit_xor]
  cases x.testBit i <;> cases y.testBit i <;> rfl
set_option maxHeartbeats 4000000 in
set_option maxRecDepth 20000 in
theorem rdo_8 (a b : UInt32) (w : World) :
    Calls Tryz.prog 46 #[.int .u8 8, wv a, wv b] w fun e w' => e = .returned (.tuple #[wv (a ^^^ b), .int .i64 0]) ∧ Below w.heap.size w w' := by
  have HB := Lib.hid (Below.refl w.heap.size w)
  have ha := a.toNat_lt
  have hb := b.toNat_lt
  have p1 : IntKind.i64.wrap (a.toNat : Int) = (a.toNat : Int) := by rw [IntKind.wrap_i64]; omega
  have p2 : IntKind.i64.wrap (b.toNat : Int) = (b.toNat : Int) := by rw [IntKind.wrap_i64]; omega
  have HZ := blk_new (Hp.start w) (.cells #[.int .i64 0, .int .i64 1, .int .i64 0] 3)
  have BC := Lib.hid (rbits_c a b (a ^^^ b) w.heap.size _ (fun i hi => by
    rw [cell_blk (blk_get HZ)]
    have e : (a ^^^ b).toNat / 2 ^ i % 2 = bit3 0 1 0 (a.toNat / 2 ^ i % 2 + b.toNat / 2 ^ i % 2) := by rw [UInt32.toNat_xor]; exact bit_xor _ _ _
    rw [e]
    have x1 : a.toNat / 2 ^ i % 2 < 2 := Nat.mod_lt _ (by omega)
    have x2 : b.toNat / 2 ^ i % 2 < 2 := Nat.mod_lt _ (by omega)
    generalize a.toNat / 2 ^ i % 2 = x at *
    generalize b.toNat / 2 ^ i % 2 = y at *
    obtain rfl | rfl : x = 0 ∨ x = 1 := by omega
    all_goals obtain rfl | rfl : y = 0 ∨ y = 1 := by omega
    all_goals rfl))
  have HZ2 := Lib.hid HZ.below
  generalize a ^^^ b = u at *
  clear ha hb HZ HB
  go_enter Tryz.func46, Tryz.ntmps46
  go_wp2_with fail
  refine BC.out.mono ?_; rintro e w2 ⟨rfl, rfl⟩
  clear BC
  go_wp2
  go_ret2
  exact ⟨rfl, HZ2.out⟩
set_option maxHeartbeats 4000000 in
set_option maxRecDepth 20000 in
theorem rdo_9 (a b : UInt32) (w : World) :
    Calls Tryz.prog 46 #[.int .u8 9, wv a, wv b] w fun e w' => e = .returned (.tuple #[wv (a <<< (b &&& 31)), .int .i64 0]) ∧ Below w.heap.size w w' := by
  have HB := Lib.hid (Below.refl w.heap.size w)
  have ha := a.toNat_lt
  have hb := b.toNat_lt
  have p1 : IntKind.i64.wrap (a.toNat : Int) = (a.toNat : Int) := by rw [IntKind.wrap_i64]; omega
  have p2 : IntKind.i64.wrap (b.toNat : Int) = (b.toNat : Int) := by rw [IntKind.wrap_i64]; omega
  have h31 := and31 b
  have hm : (b.toNat : Int).tmod 32 = (((b &&& 31).toNat : Nat) : Int) := by
    rw [tmod_pos (by omega), UInt32.toNat_and, show (31 : UInt32).toNat = 2 ^ 5 - 1 from rfl, Nat.and_two_pow_sub_one_eq_mod]; omega
  have hres : ((a <<< (b &&& 31)).toNat : Int) = (a.toNat * 2 ^ (b &&& 31).toNat % 4294967296 : Nat) := by
    rw [UInt32.toNat_shiftLeft, Nat.mod_eq_of_lt h31, Nat.shiftLeft_eq]
  have h0 : (a.toNat : Int) = (a.toNat * 2 ^ 0 % 4294967296 : Nat) := by rw [Nat.pow_zero, Nat.mul_one]; omega
  have H0 := Lib.hid h0
  clear h0
  generalize (a <<< (b &&& 31)) = u at *
  generalize (b &&& 31).toNat = m at *
  have OC := Lib.hid (fun W => rof_any (a.toNat * 2 ^ m % 4294967296 : Nat) (by omega) u (by have := u.toNat_lt; omega) W)
  have HH := Lib.hid (show m < 32 from h31)
  have HA := Lib.hid ha
  clear ha hb hres h31
  go_enter Tryz.func46, Tryz.ntmps46
  go_wp2
  go_loopw [8, 12] (fun s8 si wr => ∃ k : Nat, k ≤ m ∧ s8 = .int .i64 (a.toNat * 2 ^ k % 4294967296 : Nat) ∧ si = .int .i64 (k : Int) ∧ wr = w) (fun _ si _ => m - (intOf si).toNat)
  case atStart => exact ⟨0, by omega, congrArg (Value.int .i64) H0.out, rfl, rfl⟩
  case round =>
    obtain ⟨k, hk, rfl, rfl, rfl⟩ := hrel
    clear H0
    by_cases hlt : k < m
    · have y0 : (k : Int) < (m : Int) := by omega
      have y1 : IntKind.i64.wrap ((k : Int) + 1) = (k : Int) + 1 := by have := HH.out; rw [IntKind.wrap_i64]; omega
      have HX : Hid ((a.toNat * 2 ^ (k + 1) % 4294967296 : Nat) = 2 * (a.toNat * 2 ^ k % 4294967296 : Nat) % 4294967296) := Lib.hid (by rw [Nat.pow_succ, ← Nat.mul_assoc]; omega)
      have hb0 : (a.toNat * 2 ^ k % 4294967296 : Nat) < 4294967296 := by omega
      generalize hq : (a.toNat * 2 ^ (k + 1) % 4294967296 : Nat) = q at *
      have HQ := Lib.hid hq
      clear hq
      generalize (a.toNat * 2 ^ k % 4294967296 : Nat) = p at *
      have y2 : IntKind.i64.wrap (2 * (p : Int)) = 2 * (p : Int) := by rw [IntKind.wrap_i64]; omega
      have y3 : (2 * (p : Int)).tmod 4294967296 = (q : Int) := by rw [tmod_pos (by omega), HX.out]; omega
      have y4 : True := trivial
      have HLT := Lib.hid hlt
      clear hb0 hlt hk HX
      go_wp2
      go_roundw
      case rel => exact ⟨k + 1, by have := HLT.out; omega, by rw [HQ.out], by go_num, by trivial⟩
      case measure => have := HLT.out; simp [intOf]; omega
    · obtain rfl : k = m := by omega
      have y0 : ¬ (k : Int) < (k : Int) := by omega
      clear hlt hk
      go_wp2_with fail
      refine (OC.out _).mono ?_; rintro e w2 ⟨rfl, rfl⟩
      clear OC
      go_wp2
      go_ret2
      exact ⟨rfl, HB.out⟩
set_option maxHeartbeats 4000000 in
set_option maxRecDepth 20000 in
theorem rdo_10 (a b : UInt32) (w : World) :
    Calls Tryz.prog 46 #[.int .u8 10, wv a, wv b] w fun e w' => e = .returned (.tuple #[wv (a >>> (b &&& 31)), .int .i64 0]) ∧ Below w.heap.size w w' := by
  have HB := Lib.hid (Below.refl w.heap.size w)
  have ha := a.toNat_lt
  have hb := b.toNat_lt
  have p1 : IntKind.i64.wrap (a.toNat : Int) = (a.toNat : Int) := by rw [IntKind.wrap_i64]; omega
  have p2 : IntKind.i64.wrap (b.toNat : Int) = (b.toNat : Int) := by rw [IntKind.wrap_i64]; omega
  have h31 := and31 b
  have hm : (b.toNat : Int).tmod 32 = (((b &&& 31).toNat : Nat) : Int) := by
    rw [tmod_pos (by omega), UInt32.toNat_and, show (31 : UInt32).toNat = 2 ^ 5 - 1 from rfl, Nat.and_two_pow_sub_one_eq_mod]; omega
  have hres : ((a >>> (b &&& 31)).toNat : Int) = (a.toNat / 2 ^ (b &&& 31).toNat : Nat) := by
    rw [UInt32.toNat_shiftRight, Nat.mod_eq_of_lt h31, Nat.shiftRight_eq_div_pow]
  have h0 : (a.toNat : Int) = (a.toNat / 2 ^ 0 : Nat) := by rw [Nat.pow_zero, Nat.div_one]
  have H0 := Lib.hid h0
  clear h0
  generalize (a >>> (b &&& 31)) = u at *
  generalize (b &&& 31).toNat = m at *
  have OC := Lib.hid (fun W => rof_any (a.toNat / 2 ^ m : Nat) (by omega) u (by have := u.toNat_lt; omega) W)
  have HH := Lib.hid (show m < 32 from h31)
  have HA := Lib.hid ha
  clear ha hb hres h31
  go_enter Tryz.func46, Tryz.ntmps46
  go_wp2
  go_loopw [8, 13] (fun s8 si wr => ∃ k : Nat, k ≤ m ∧ s8 = .int .i64 (a.toNat / 2 ^ k : Nat) ∧ si = .int .i64 (k : Int) ∧ wr = w) (fun _ si _ => m - (intOf si).toNat)
  case atStart => exact ⟨0, by omega, congrArg (Value.int .i64) H0.out, rfl, rfl⟩
  case round =>
    obtain ⟨k, hk, rfl, rfl, rfl⟩ := hrel
    clear H0
    by_cases hlt : k < m
    · have y0 : (k : Int) < (m : Int) := by omega
      have y1 : IntKind.i64.wrap ((k : Int) + 1) = (k : Int) + 1 := by have := HH.out; rw [IntKind.wrap_i64]; omega
      have HX : Hid ((a.toNat / 2 ^ (k + 1) : Nat) = (a.toNat / 2 ^ k : Nat) / 2) := Lib.hid (by rw [Nat.pow_succ, Nat.div_div_eq_div_mul])
      have hb0 : (a.toNat / 2 ^ k : Nat) < 4294967296 := by have := HA.out; have := Nat.div_le_self a.toNat (2 ^ k); omega
      generalize hq : (a.toNat / 2 ^ (k + 1) : Nat) = q at *
      have HQ := Lib.hid hq
      clear hq
      generalize (a.toNat / 2 ^ k : Nat) = p at *
      have y2 : (p : Int).tdiv 2 = (p : Int) / 2 := Int.tdiv_eq_ediv_of_nonneg (by omega)
      have y3 : IntKind.i64.wrap ((p : Int) / 2) = (q : Int) := by rw [HX.out, IntKind.wrap_i64]; omega
      have y4 : wrap64 ((p : Int) / 2) = (q : Int) := by rw [HX.out]; unfold wrap64; omega
      have HLT := Lib.hid hlt
      clear hb0 hlt hk HX
      go_wp2
      go_roundw
      case rel => exact ⟨k + 1, by have := HLT.out; omega, by rw [HQ.out], by go_num, by trivial⟩
      case measure => have := HLT.out; simp [intOf]; omega
    · obtain rfl : k = m := by omega
      have y0 : ¬ (k : Int) < (k : Int) := by omega
      clear hlt hk
      go_wp2_with fail
      refine (OC.out _).mono ?_; rintro e w2 ⟨rfl, rfl⟩
      clear OC
      go_wp2
      go_ret2
      exact ⟨rfl, HB.out⟩
end Go.Proofs.YtijkkompnfpdeaaGreatDoor
set_option linter.unusedVariables false
set_option linter.unusedSimpArgs false
namespace Go.Proofs.YtijkkompnfpdeaaGreatDoor
open Go.RowKit Go.Joins Go.Shelf
attribute [local go_sem] Oper.semAt_some

theorem rdo_all (o : UInt8) (h1 : 3 ≤ o.toNat) (h2 : o.toNat ≤ 10) (a b : UInt32) (w : World) :
    Calls Tryz.prog 46 #[bv o, wv a, wv b] w fun e w' => e = .returned (.tuple #[wv (doP o.toNat a b), .int .i64 0]) ∧ Below w.heap.size w w' := by
  have h : o.toNat = 3 ∨ o.toNat = 4 ∨ o.toNat = 5 ∨ o.toNat = 6 ∨ o.toNat = 7 ∨ o.toNat = 8 ∨ o.toNat = 9 ∨ o.toNat = 10 := by omega
  unfold bv
  rcases h with h | h | h | h | h | h | h | h <;> rw [h]
  · exact rdo_3 a b w
  · exact rdo_4 a b w
  · exact rdo_5 a b w
  · exact rdo_6 a b w
  · exact rdo_7 a b w
  · exact rdo_8 a b w
  · exact rdo_9 a b w
  · exact rdo_10 a b w
theorem rholds_all (o : UInt8) (h1 : 15 ≤ o.toNat) (h2 : o.toNat ≤ 18) (a b : UInt32) (w : World) :
    Calls Tryz.prog 44 #[bv o, wv a, wv b] w fun e w' => e = .returned (.tuple #[.bool (holdsP o.toNat a b), .int .i64 0]) ∧ w' = w := by
  have h : o.toNat = 15 ∨ o.toNat = 16 ∨ o.toNat = 17 ∨ o.toNat = 18 := by omega
  unfold bv
  rcases h with h | h | h | h <;> rw [h]
  · exact rholds_15 a b w
  · exact rholds_16 a b w
  · exact rholds_17 a b w
  · exact rholds_18 a b w
/-! ### The document's core. -/
def coreR (s : Cs) (mb : Nat) (vc : Value) : List Value := s.r.map wv ++ [.int .i64 s.at_, .slice (some ⟨mb, 0, none⟩) s.mem.length s.mem.length, vc, .string ⟨s.says.toArray⟩, .bool s.asked]
abbrev DB (b mb : Nat) (s : Cs) (vc : Value) : Thing := Blk b (.cells (coreR s mb vc).toArray 56 (0, 0))
/-- The document's core, of some code. -/
def DR (b : Nat) (c : List I4) (s : Cs) : Thing := Ex (fun _ : Nat × Value => s.r.length = 8 ∧ s.mem.length ≤ 4096) (fun t => Alls [DB b t.1 s t.2, MB t.1 s.mem, OwnI4 t.2 c])
theorem dr_open {w0 w : World} {r : List Thing} {b : Nat} {c : List I4} {s : Cs} (H : Hp w0 w (DR b c s :: r)) : ∃ mb vc, s.r.length = 8 ∧ s.mem.length ≤ 4096 ∧ Hp w0 w (DB b mb s vc :: MB mb s.mem :: OwnI4 vc c :: r) := by
  obtain ⟨⟨mb, vc⟩, ⟨h1, h2⟩, H1⟩ := H.ex
  exact ⟨mb, vc, h1, h2, H1.unAlls⟩
theorem dr_shut {w0 w : World} {r : List Thing} {b mb : Nat} {c : List I4} {s : Cs} {vc : Value} (h1 : s.r.length = 8) (h2 : s.mem.length ≤ 4096) (H : Hp w0 w (DB b mb s vc :: MB mb s.mem :: OwnI4 vc c :: r)) : Hp w0 w (DR b c s :: r) :=
  Hp.mkEx (mb, vc) ⟨h1, h2⟩ (Hp.alls (l := [_, _, _]) H)
section
variable {w0 w : World} {r : List Thing} {b mb : Nat} {s : Cs} {vc : Value}
theorem db_reg (H : Hp w0 w (DB b mb s vc :: r)) (hl : s.r.length = 8) (k : Nat) (hk : k < 8) : w.cell? ⟨b, k, none⟩ = some (wv (s.r.getD k 0)) := by
  rw [cell_blk (blk_get H)]
  simp only [coreR, List.getElem?_toArray]
  rw [List.getElem?_append_left (by simp; omega)]
  simp [hl, hk]
theorem db_cell (H : Hp w0 w (DB b mb s vc :: r)) (hl : s.r.length = 8) (k : Nat) : w.cell? ⟨b, 8 + k, none⟩ = [Value.int .i64 s.at_, .slice (some ⟨mb, 0, none⟩) s.mem.length s.mem.length, vc, .string ⟨s.says.toArray⟩, .bool s.asked][k]? := by
  rw [cell_blk (blk_get H)]
  simp only [coreR, List.getElem?_toArray]
  rw [List.getElem?_append_right (by simp; omega)]
  simp [hl]
theorem db_setreg (H : Hp w0 w (DB b mb s vc :: r)) (hl : s.r.length = 8) (k : Nat) (hk : k < 8) (v : UInt32) : Hp w0 (w.setCell ⟨b, k, none⟩ (wv v)) (DB b mb { s with r := s.r.set k v } vc :: r) := by
  have e : (coreR s mb vc).toArray.setIfInBounds k (wv v) = (coreR { s with r := s.r.set k v } mb vc).toArray := by
    simp only [coreR, List.setIfInBounds_toArray]
    rw [List.set_append_left _ _ (by simp; omega), List.map_set]
  rw [DB, ← e]; exact blk_set H k _
theorem db_setat (H : Hp w0 w (DB b mb s vc :: r)) (hl : s.r.length = 8) (v : Int) : Hp w0 (w.setCell ⟨b, 8, none⟩ (.int .i64 v)) (DB b mb { s with at_ := v } vc :: r) := by
  have e : (coreR s mb vc).toArray.setIfInBounds 8 (.int .i64 v) = (coreR { s with at_ := v } mb vc).toArray := by
    simp only [coreR, List.setIfInBounds_toArray]
    rw [List.set_append_right _ _ (by simp; omega)]
    simp [hl]
  rw [DB, ← e]; exact blk_set H 8 _
theorem db_setsays (H : Hp w0 w (DB b mb s vc :: r)) (hl : s.r.length = 8) (v : List UInt8) : Hp w0 (w.setCell ⟨b, 11, none⟩ (.string ⟨v.toArray⟩)) (DB b mb { s with says := v } vc :: r) := by
  have e : (coreR s mb vc).toArray.setIfInBounds 11 (.string ⟨v.toArray⟩) = (coreR { s with says := v } mb vc).toArray := by
    simp only [coreR, List.setIfInBounds_toArray]
    rw [List.set_append_right _ _ (by simp; omega)]
    simp [hl]
  rw [DB, ← e]; exact blk_set H 11 _
theorem db_setasked (H : Hp w0 w (DB b mb s vc :: r)) (hl : s.r.length = 8) (v : Bool) : Hp w0 (w.setCell ⟨b, 12, none⟩ (.bool v)) (DB b mb { s with asked := v } vc :: r) := by
  have e : (coreR s mb vc).toArray.setIfInBounds 12 (.bool v) = (coreR { s with asked := v } mb vc).toArray := by
    simp only [coreR, List.setIfInBounds_toArray]
    rw [List.set_append_right _ _ (by simp; omega)]
    simp [hl]
  rw [DB, ← e]; exact blk_set H 12 _
end
set_option maxHeartbeats 2000000 in
set_option maxRecDepth 20000 in
theorem rat_of {w0 w : World} {r : List Thing} {b : Nat} {c : List I4} {s : Cs} (H : Hp w0 w (DR b c s :: r)) :
    Calls Tryz.prog 23 #[.pointer (some ⟨b, 0, none⟩)] w fun e w' => e = .returned (.int .i64 s.at_) ∧ Hp w0 w' (DR b c s :: r) := by
  obtain ⟨mb, vc, hl, hm, H2⟩ := dr_open H
  have C1 : w.cell? ⟨b, 8, none⟩ = _ := db_cell H2 hl 0
  have HH := Lib.hid H
  clear H H2 hl hm
  go_enter Tryz.func23, Tryz.ntmps23
  go_wp2
  go_ret
  exact ⟨rfl, HH.out⟩
set_option maxHeartbeats 2000000 in
set_option maxRecDepth 20000 in
theorem rconsole_of {w0 w : World} {r : List Thing} {b : Nat} {c : List I4} {s : Cs} (H : Hp w0 w (DR b c s :: r)) :
    Calls Tryz.prog 24 #[.pointer (some ⟨b, 0, none⟩)] w fun e w' => e = .returned (.string ⟨s.says.toArray⟩) ∧ Hp w0 w' (DR b c s :: r) := by
  obtain ⟨mb, vc, hl, hm, H2⟩ := dr_open H
  have C1 : w.cell? ⟨b, 11, none⟩ = _ := db_cell H2 hl 3
  have HH := Lib.hid H
  clear H H2 hl hm
  go_enter Tryz.func24, Tryz.ntmps24
  go_wp2
  go_ret
  exact ⟨rfl, HH.out⟩
set_option maxHeartbeats 2000000 in
set_option maxRecDepth 20000 in
theorem ranswer_n {w0 w : World} {r : List Thing} {b : Nat} {c : List I4} {s : Cs} (h : s.asked = false) (e : Int) (v : UInt32) (H : Hp w0 w (DR b c s :: r)) :
    Calls Tryz.prog 21 #[.pointer (some ⟨b, 0, none⟩), .int .i64 e, wv v] w fun e' w' => e' = .returned (.int .i64 7) ∧ Hp w0 w' (DR b c s :: r) := by
  obtain ⟨mb, vc, hl, hm, H2⟩ := dr_open H
  have C1 : w.cell? ⟨b, 12, none⟩ = _ := db_cell H2 hl 4
  rw [h] at C1
  have HH := Lib.hid H
  clear H H2 hl hm
  go_enter Tryz.func21, Tryz.ntmps21
  go_wp2
  go_ret
  exact ⟨rfl, HH.out⟩
set_option maxHeartbeats 4000000 in
set_option maxRecDepth 20000 in
theorem ranswer_y {w0 w : World} {r : List Thing} {b : Nat} {c : List I4} {s : Cs} (h : s.asked = true) (e : Int) (v : UInt32) (H : Hp w0 w (DR b c s :: r)) :
    Calls Tryz.prog 21 #[.pointer (some ⟨b, 0, none⟩), .int .i64 e, wv v] w fun e' w' => e' = .returned (.int .i64 0) ∧ Hp w0 w' (DR b c (answC s e v).1 :: r) := by
  rw [answC_y h]
  obtain ⟨mb, vc, hl, hm, H2⟩ := dr_open H
  have C1 : w.cell? ⟨b, 12, none⟩ = _ := db_cell H2 hl 4
  rw [h] at C1
  have z12 := free_blk (blk_get H2) 12
  have h1 : IntKind.u32.wrap e = ((UInt32.ofNat (e % 4294967296).toNat).toNat : Int) := by rw [IntKind.wrap_u32, u32_of]
  generalize UInt32.ofNat (e % 4294967296).toNat = u at *
  have H3 := Lib.hid (db_setasked H2 hl false)
  have HL := Lib.hid hl
  have HM := Lib.hid hm
  clear H H2 hl hm
  go_enter Tryz.func21, Tryz.ntmps21
  go_upto_region 4 with fail
  generalize w.setCell _ _ = W at *
  clear C1 z12
  have p0 := db_reg H3.out HL.out 0 (by omega)
  have y0 := free_blk (blk_get H3.out) 0
  have H4 := Lib.hid (db_setreg H3.out HL.out 0 (by omega) u)
  go_upto_region 5 with fail
  generalize W.setCell _ _ = W2 at *
  clear H3 p0 y0 h1
  have HL4 : Hid ((s.r.set 0 u).length = 8) := Lib.hid (by rw [List.length_set]; exact HL.out)
  have p1 := db_reg H4.out HL4.out 1 (by omega)
  have y1 := free_blk (blk_get H4.out) 1
  have H5 := Lib.hid (dr_shut (s := { s with asked := false, r := (s.r.set 0 u).set 1 v }) (by show ((s.r.set 0 u).set 1 v).length = 8; rw [List.length_set]; exact HL4.out) HM.out (db_setreg H4.out HL4.out 1 (by omega) v))
  clear H4
  go_wp2
  go_ret
  exact ⟨rfl, H5.out⟩
set_option maxHeartbeats 4000000 in
set_option maxRecDepth 20000 in
theorem rregs_of {w0 w : World} {r : List Thing} {b : Nat} {c : List I4} {s : Cs} (u0 u1 u2 u3 u4 u5 u6 u7 : UInt32) (hr : s.r = [u0, u1, u2, u3, u4, u5, u6, u7]) (H : Hp w0 w (DR b c s :: r)) :
    Calls Tryz.prog 22 #[.pointer (some ⟨b, 0, none⟩)] w fun e w' => e = .returned (.agg #[wv u0, wv u1, wv u2, wv u3, wv u4, wv u5, wv u6, wv u7]) ∧ Hp w0 w' (DR b c s :: r) := by
  have HH := Lib.hid (blk_new H (.cells #[.int .u32 0, .int .u32 0, .int .u32 0, .int .u32 0, .int .u32 0, .int .u32 0, .int .u32 0, .int .u32 0] 40))
  have HRR := Lib.hid hr
  clear hr
  go_enter Tryz.func22, Tryz.ntmps22
  go_upto_region 1 with fail
  generalize w.heap.size = n at *
  generalize (w.alloc (.cells #[.int .u32 0, .int .u32 0, .int .u32 0, .int .u32 0, .int .u32 0, .int .u32 0, .int .u32 0, .int .u32 0] 40)) = W at *
  obtain ⟨mb, vc, hl, hm, H2⟩ := dr_open HH.out.tail
  have C6 := fun k hk => db_reg H2 hl k hk
  rw [HRR.out] at C6
  have p0 : W.cell? ⟨b, 0, none⟩ = some (wv u0) := C6 0 (by omega)
  have p1 : W.cell? ⟨b, 1, none⟩ = some (wv u1) := C6 1 (by omega)
  have p2 : W.cell? ⟨b, 2, none⟩ = some (wv u2) := C6 2 (by omega)
  have p3 : W.cell? ⟨b, 3, none⟩ = some (wv u3) := C6 3 (by omega)
  have p4 : W.cell? ⟨b, 4, none⟩ = some (wv u4) := C6 4 (by omega)
  have p5 : W.cell? ⟨b, 5, none⟩ = some (wv u5) := C6 5 (by omega)
  have p6 : W.cell? ⟨b, 6, none⟩ = some (wv u6) := C6 6 (by omega)
  have p7 : W.cell? ⟨b, 7, none⟩ = some (wv u7) := C6 7 (by omega)
  have hb := blk_get HH.out
  have z0 : W.cell? ⟨n, 0, none⟩ = _ := cell_blk hb 0
  have z1 : W.cell? ⟨n, 1, none⟩ = _ := cell_blk hb 1
  have z2 : W.cell? ⟨n, 2, none⟩ = _ := cell_blk hb 2
  have z3 : W.cell? ⟨n, 3, none⟩ = _ := cell_blk hb 3
  have z4 : W.cell? ⟨n, 4, none⟩ = _ := cell_blk hb 4
  have z5 : W.cell? ⟨n, 5, none⟩ = _ := cell_blk hb 5
  have z6 : W.cell? ⟨n, 6, none⟩ = _ := cell_blk hb 6
  have z7 : W.cell? ⟨n, 7, none⟩ = _ := cell_blk hb 7
  have y0 := free_blk hb 0
  have y1 := free_blk hb 1
  have y2 := free_blk hb 2
  have y3 := free_blk hb 3
  have y4 := free_blk hb 4
  have y5 := free_blk hb 5
  have y6 := free_blk hb 6
  have y7 := free_blk hb 7
  have HZ := Lib.hid (blk_set (blk_set (blk_set (blk_set (blk_set (blk_set (blk_set (blk_set HH.out 0 (wv u0)) 1 (wv u1)) 2 (wv u2)) 3 (wv u3)) 4 (wv u4)) 5 (wv u5)) 6 (wv u6)) 7 (wv u7))
  clear C6 hb H2 hl hm HRR
  go_wp2
  exact bodyPost_ret (results_cell_row rfl _ _ n _ _ _ _ rfl (blk_get HZ.out) Tryz.underlying40 rfl regs_info) rfl ⟨rfl, HZ.out.tail⟩
set_option maxHeartbeats 2000000 in
set_option maxRecDepth 20000 in
theorem room_c {w : World} (b mb n k : Nat) (a : UInt32) (hk : k ≤ 4) (C9 : w.cell? ⟨b, 9, none⟩ = some (.slice (some ⟨mb, 0, none⟩) n n)) :
    Calls Tryz.prog 104 #[.pointer (some ⟨b, 0, none⟩), wv a, .int .i64 (k : Int)] w fun e w' => e = .returned (.bool (decide (a.toNat + k ≤ n))) ∧ w' = w := by
  have ha := a.toNat_lt
  have q1 : IntKind.i64.wrap (a.toNat : Int) = (a.toNat : Int) := by rw [IntKind.wrap_i64]; omega
  have q2 : IntKind.i64.wrap ((a.toNat : Int) + (k : Int)) = (a.toNat : Int) + (k : Int) := by rw [IntKind.wrap_i64]; omega
  have q3 : decide ((a.toNat : Int) + (k : Int) ≤ (n : Int)) = decide (a.toNat + k ≤ n) := by simp; omega
  have Q3 := Lib.hid q3
  clear q3 ha
  go_enter Tryz.func104, Tryz.ntmps104
  go_wp2
  go_ret
  exact ⟨congrArg (fun t => Ending.returned (.bool t)) Q3.out, rfl⟩
end Go.Proofs.YtijkkompnfpdeaaGreatDoor
