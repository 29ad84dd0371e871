/- Units and words: what is made of two numbers, and what holds of them: walked. A region that draws its order and ends in a store to a cell that it loads: the loads are taken first under S, which need not hold behind the store. No program in sight. Cores: what they are in memory; what an instruction does, closure by closure: walked. -/
import Derived.Test.YtijkkompnfpdeaaGreatDoorP03
import Derived.StillTail
import Derived.OrdersHeld
import Derived.Deep.RegionHeld3
import Derived.RegionTactic
import Derived.BigRegion
import Derived.Deep.QuietTactic
import Derived.RegionCalls
set_option linter.unusedVariables false
set_option linter.unusedSimpArgs false
namespace Go.Proofs.YtijkkompnfpdeaaGreatDoor
open Go.RowKit Go.Joins Go.Shelf
attribute [local go_sem] Oper.semAt_some

/-! ### Maps from small numbers. -/
def ents : Nat → List (Nat × Value) → List MapEntry
  | _, [] => []
  | i, (k, v) :: l => ⟨.int .u8 k, v, i⟩ :: ents (i + 1) l
abbrev Tab (m : Nat) (l : List (Nat × Value)) : Thing := Blk m (.map (ents 0 l).toArray l.length)
def tget (k : Nat) : List (Nat × Value) → Option Value
  | [] => none
  | x :: l => if x.1 = k then some x.2 else tget k l
theorem ents_app : ∀ (l : List (Nat × Value)) (i k : Nat) (v : Value), ents i (l ++ [(k, v)]) = ents i l ++ [⟨.int .u8 k, v, i + l.length⟩]
  | [], _, _, _ => rfl
  | x :: l, i, k, v => by
    have := ents_app l (i + 1) k v
    simp only [List.cons_append, ents, this, List.length_cons]
    congr 4; omega
theorem same8 (k j : Nat) : Instr.sameNow (.int .u8) (.int .u8 (k : Int)) (.int .u8 (j : Int)) = some (decide (j = k)) := by
  by_cases h : j = k
  · subst h; simp [Instr.sameNow]
  · have : ¬ ((k : Int) = (j : Int)) := by omega
    simp [Instr.sameNow, this, h]
theorem find_tab (k : Nat) : ∀ (l : List (Nat × Value)) (n i : Nat), (tget k l = none → Instr.findNow (.int .u8) (.int .u8 (k : Int)) (ents n l) i = some none) ∧ (∀ v, tget k l = some v → ∃ j, Instr.findNow (.int .u8) (.int .u8 (k : Int)) (ents n l) i = some (some (j, v)))
  | [], n, i => ⟨fun _ => rfl, fun v h => by cases h⟩
  | x :: l, n, i => by
    obtain ⟨h1, h2⟩ := find_tab k l (n + 1) (i + 1)
    by_cases h : x.1 = k
    · refine ⟨fun h' => by simp [tget, h] at h', fun v hv => ⟨i, ?_⟩⟩
      simp [tget, h] at hv
      simp [ents, Instr.findNow, same8, h, hv]
    · refine ⟨fun h' => ?_, fun v hv => ?_⟩
      · simp only [tget, if_neg h] at h'
        simp only [ents, Instr.findNow, same8, decide_eq_false h]
        exact h1 h'
      · simp only [tget, if_neg h] at hv
        obtain ⟨j, hj⟩ := h2 v hv
        exact ⟨j, by simp only [ents, Instr.findNow, same8, decide_eq_false h]; exact hj⟩
theorem tab_put {P : Program} {w0 w : World} {r : List Thing} {m : Nat} {l : List (Nat × Value)} {t kt et : TypeId} (ht : P.underlying t = some (.map kt et)) (hd : P.underlying kt = some (.int .u8)) (H : Hp w0 w (Tab m l :: r)) (kv : Value) (k : Nat) (hkv : kv = .int .u8 (k : Int)) (v : Value) (hk : tget k l = none) :
    ∃ w', (Instr.mapUpdate t (.map (some m)) kv v).run P w = .ok () w' ∧ Hp w0 w' (Tab m (l ++ [(k, v)]) :: r) := by
  subst hkv
  refine ⟨_, run_insert_fresh ht hd (blk_get H) rfl (by simpa using (find_tab k l 0 0).1 hk), ?_⟩
  have e : Obj.map ((ents 0 l).toArray.push ⟨.int .u8 k, v, l.length⟩) (l.length + 1) = .map (ents 0 (l ++ [(k, v)])).toArray (l ++ [(k, v)]).length := by rw [ents_app]; simp
  rw [e]
  exact blk_put H _
theorem tab_look {P : Program} {w0 w : World} {r : List Thing} {m : Nat} {l : List (Nat × Value)} {t kt et : TypeId} (ht : P.underlying t = some (.map kt et)) (hd : P.underlying kt = some (.int .u8)) (H : Hp w0 w (Tab m l :: r)) (kv : Value) (k : Nat) (hkv : kv = .int .u8 (k : Int)) (v : Value) (hk : tget k l = some v) :
    (Instr.lookup t (.map (some m)) kv false).run P w = .ok v w := by
  subst hkv
  obtain ⟨j, hj⟩ := (find_tab k l 0 0).2 v hk
  exact run_lookup_there ht hd (blk_get H) rfl (by simpa using hj)
theorem tab_look2 {P : Program} {w0 w : World} {r : List Thing} {m : Nat} {l : List (Nat × Value)} {t kt et : TypeId} (ht : P.underlying t = some (.map kt et)) (hd : P.underlying kt = some (.int .u8)) (H : Hp w0 w (Tab m l :: r)) (kv : Value) (k : Nat) (hkv : kv = .int .u8 (k : Int)) (v : Value) (hk : tget k l = some v) :
    (Instr.lookup t (.map (some m)) kv true).run P w = .ok (.tuple #[v, .bool true]) w := by
  subst hkv
  obtain ⟨j, hj⟩ := (find_tab k l 0 0).2 v hk
  have hb := blk_get H
  have hg : (getObj m).run P w = .ok (.map (ents 0 l).toArray l.length) w := by simp [getObj, Sem.run, hb]
  simp only [Instr.lookup, Sem.run_bind, run_underlying ht, Result.andThen, hg, MapKept.run_checkKey hd (show MapKept.IsKey (.int .u8) (.int .u8 (k : Int)) from rfl), MapKept.run_findKey hd (show Instr.findNow (.int .u8) (.int .u8 (k : Int)) (ents 0 l).toArray.toList 0 = _ by simpa using hj), Sem.run_pure]
  simp
theorem und_op : Tryz.prog.underlying 24 = some (.int .u8) := by kernel_rfl
theorem und_deeds : Tryz.prog.underlying 174 = some (.map 24 172) := by kernel_rfl
theorem und_quest : Tryz.prog.underlying 178 = some (.map 24 176) := by kernel_rfl
def DEEDS : List (Nat × Value) := [(3, fn_ 137), (4, fn_ 138), (5, fn_ 139), (6, fn_ 140), (7, fn_ 141), (8, fn_ 142), (9, fn_ 143), (10, fn_ 144)]
def QUESTS : List (Nat × Value) := [(15, fn_ 145), (16, fn_ 146), (17, fn_ 147), (18, fn_ 148)]
set_option maxHeartbeats 4000000 in
set_option maxRecDepth 20000 in
theorem deeds_c {w0 w : World} {r : List Thing} (H : Hp w0 w r) :
    Calls Tryz.prog 129 #[] w fun e w' => e = .returned (.map (some w.heap.size)) ∧ Hp w0 w' (Tab w.heap.size DEEDS :: r) := by
  have hmm := @run_makeMap Tryz.prog
  have G0 : Hp w0 (w.alloc (.map #[] 0)) (Tab w.heap.size [] :: r) := blk_new H (.map #[] 0)
  obtain ⟨w1, hr1, G1⟩ := tab_put und_deeds und_op G0 (.int .u8 3) 3 rfl (fn_ 137) rfl
  obtain ⟨w2, hr2, G2⟩ := tab_put und_deeds und_op G1 (.int .u8 4) 4 rfl (fn_ 138) rfl
  obtain ⟨w3, hr3, G3⟩ := tab_put und_deeds und_op G2 (.int .u8 5) 5 rfl (fn_ 139) rfl
  obtain ⟨w4, hr4, G4⟩ := tab_put und_deeds und_op G3 (.int .u8 6) 6 rfl (fn_ 140) rfl
  obtain ⟨w5, hr5, G5⟩ := tab_put und_deeds und_op G4 (.int .u8 7) 7 rfl (fn_ 141) rfl
  obtain ⟨w6, hr6, G6⟩ := tab_put und_deeds und_op G5 (.int .u8 8) 8 rfl (fn_ 142) rfl
  obtain ⟨w7, hr7, G7⟩ := tab_put und_deeds und_op G6 (.int .u8 9) 9 rfl (fn_ 143) rfl
  obtain ⟨w8, hr8, G8⟩ := tab_put und_deeds und_op G7 (.int .u8 10) 10 rfl (fn_ 144) rfl
  have HG : Hid (Hp w0 w8 (Tab w.heap.size DEEDS :: r)) := Lib.hid G8
  clear G0 G1 G2 G3 G4 G5 G6 G7 G8 H
  go_enter Tryz.func129, Tryz.ntmps129
  go_wp2
  go_ret
  exact ⟨rfl, HG.out⟩
set_option maxHeartbeats 4000000 in
set_option maxRecDepth 20000 in
theorem quest_c {w0 w : World} {r : List Thing} (H : Hp w0 w r) :
    Calls Tryz.prog 130 #[] w fun e w' => e = .returned (.map (some w.heap.size)) ∧ Hp w0 w' (Tab w.heap.size QUESTS :: r) := by
  have hmm := @run_makeMap Tryz.prog
  have G0 : Hp w0 (w.alloc (.map #[] 0)) (Tab w.heap.size [] :: r) := blk_new H (.map #[] 0)
  obtain ⟨w1, hr1, G1⟩ := tab_put und_quest und_op G0 (.int .u8 15) 15 rfl (fn_ 145) rfl
  obtain ⟨w2, hr2, G2⟩ := tab_put und_quest und_op G1 (.int .u8 16) 16 rfl (fn_ 146) rfl
  obtain ⟨w3, hr3, G3⟩ := tab_put und_quest und_op G2 (.int .u8 17) 17 rfl (fn_ 147) rfl
  obtain ⟨w4, hr4, G4⟩ := tab_put und_quest und_op G3 (.int .u8 18) 18 rfl (fn_ 148) rfl
  have HG : Hid (Hp w0 w4 (Tab w.heap.size QUESTS :: r)) := Lib.hid G4
  clear G0 G1 G2 G3 G4 H
  go_enter Tryz.func130, Tryz.ntmps130
  go_wp2
  go_ret
  exact ⟨rfl, HG.out⟩
/-! ### Words. -/
theorem sg_i32 (a : UInt32) : IntKind.i32.wrap (a.toNat : Int) = sg a := by
  have := a.toNat_lt
  unfold sg
  rw [IntKind.wrap_i32]
  split <;> omega
theorem sg_b (a : UInt32) : -2147483648 ≤ sg a ∧ sg a < 2147483648 := by
  have := a.toNat_lt
  unfold sg
  split <;> omega
set_option maxHeartbeats 1000000 in
theorem signed_c (a : UInt32) (w : World) : Calls Tryz.prog 34 #[wv a] w fun e w' => e = .returned (.int .i64 (sg a)) ∧ w' = w := by
  have h1 := sg_i32 a
  have h2 : IntKind.i64.wrap (sg a) = sg a := by have := sg_b a; rw [IntKind.wrap_i64]; omega
  generalize sg a = s at *
  go_enter Tryz.func34, Tryz.ntmps34
  go_wp2
  go_ret
  exact ⟨rfl, rfl⟩
theorem u32_add (a b : UInt32) : IntKind.u32.wrap ((a.toNat : Int) + (b.toNat : Int)) = ((a + b).toNat : Int) := by rw [IntKind.wrap_u32, UInt32.toNat_add]; omega
theorem u32_sub (a b : UInt32) : IntKind.u32.wrap ((a.toNat : Int) - (b.toNat : Int)) = ((a - b).toNat : Int) := by
  have := a.toNat_lt
  have := b.toNat_lt
  rw [IntKind.wrap_u32, UInt32.toNat_sub]; omega
theorem u32_mul (a b : UInt32) : IntKind.u32.wrap ((a.toNat : Int) * (b.toNat : Int)) = ((a * b).toNat : Int) := by rw [IntKind.wrap_u32, UInt32.toNat_mul]; simp
theorem u32_band (a b : UInt32) : bits .and .u32 (a.toNat : Int) (b.toNat : Int) = ((a &&& b).toNat : Int) := by rw [u32_and_nat _ _ a.toNat_lt b.toNat_lt, UInt32.toNat_and]
theorem u32_bor (a b : UInt32) : bits .or .u32 (a.toNat : Int) (b.toNat : Int) = ((a ||| b).toNat : Int) := by rw [u32_or_nat _ _ a.toNat_lt b.toNat_lt, UInt32.toNat_or]
theorem u32_bxor (a b : UInt32) : bits .xor .u32 (a.toNat : Int) (b.toNat : Int) = ((a ^^^ b).toNat : Int) := by rw [u32_xor_nat _ _ a.toNat_lt b.toNat_lt, UInt32.toNat_xor]
theorem u32_shl (a c : UInt32) (h : c.toNat < 32) : IntKind.u32.wrap ((a.toNat : Int) * 2 ^ c.toNat) = ((a <<< c).toNat : Int) := by
  rw [UInt32.toNat_shiftLeft, IntKind.wrap_u32, Nat.shiftLeft_eq, Nat.mod_eq_of_lt h]
  simp
theorem u32_shr (a c : UInt32) (h : c.toNat < 32) : (a.toNat : Int) / 2 ^ c.toNat = ((a >>> c).toNat : Int) := by
  rw [UInt32.toNat_shiftRight, Nat.shiftRight_eq_div_pow, Nat.mod_eq_of_lt h]
  simp
theorem eq_u32 (a b : UInt32) : ((a.toNat : Int) == (b.toNat : Int)) = (a == b) := by
  rw [Bool.eq_iff_iff]
  simp only [beq_iff_eq]
  exact ⟨fun h => UInt32.toNat_inj.1 (by omega), fun h => by rw [h]⟩
theorem lt_u32 (a b : UInt32) : decide ((a.toNat : Int) < (b.toNat : Int)) = decide (a.toNat < b.toNat) := by simp
theorem u32_31 (b : UInt32) : bits .and .u32 (b.toNat : Int) 31 = ((b &&& 31).toNat : Int) := u32_band b 31
theorem and31 (b : UInt32) : (b &&& 31).toNat < 32 := by
  rw [UInt32.toNat_and]
  exact Nat.lt_of_le_of_lt Nat.and_le_right (by decide)
set_option maxHeartbeats 4000000 in
set_option maxRecDepth 20000 in
theorem do_3 (a b : UInt32) (w : World) :
    Calls Tryz.prog 96 #[.int .u8 3, wv a, wv b] w fun e w' => e = .returned (.tuple #[wv (a + b), .int .i64 0]) ∧ Below w.heap.size w w' := by
  have CD := Lib.hid (deeds_c (Hp.start w))
  have L2 := Lib.hid (fun w' (H : Hp w w' [Tab w.heap.size DEEDS]) => tab_look2 und_deeds und_op H (.int .u8 3) 3 rfl _ rfl)
  have h1 := u32_add a b
  go_enter Tryz.func96, Tryz.ntmps96
  go_wp2_with fail
  refine CD.out.mono ?_; rintro e w1 ⟨rfl, H1⟩
  have LK := L2.out _ H1
  have HB := Lib.hid H1.below
  clear CD H1 L2
  go_wp2
  go_ret2
  exact ⟨rfl, HB.out⟩
set_option maxHeartbeats 4000000 in
set_option maxRecDepth 20000 in
theorem do_4 (a b : UInt32) (w : World) :
    Calls Tryz.prog 96 #[.int .u8 4, wv a, wv b] w fun e w' => e = .returned (.tuple #[wv (a - b), .int .i64 0]) ∧ Below w.heap.size w w' := by
  have CD := Lib.hid (deeds_c (Hp.start w))
  have L2 := Lib.hid (fun w' (H : Hp w w' [Tab w.heap.size DEEDS]) => tab_look2 und_deeds und_op H (.int .u8 4) 4 rfl _ rfl)
  have h1 := u32_sub a b
  go_enter Tryz.func96, Tryz.ntmps96
  go_wp2_with fail
  refine CD.out.mono ?_; rintro e w1 ⟨rfl, H1⟩
  have LK := L2.out _ H1
  have HB := Lib.hid H1.below
  clear CD H1 L2
  go_wp2
  go_ret2
  exact ⟨rfl, HB.out⟩
set_option maxHeartbeats 4000000 in
set_option maxRecDepth 20000 in
theorem do_5 (a b : UInt32) (w : World) :
    Calls Tryz.prog 96 #[.int .u8 5, wv a, wv b] w fun e w' => e = .returned (.tuple #[wv (a * b), .int .i64 0]) ∧ Below w.heap.size w w' := by
  have CD := Lib.hid (deeds_c (Hp.start w))
  have L2 := Lib.hid (fun w' (H : Hp w w' [Tab w.heap.size DEEDS]) => tab_look2 und_deeds und_op H (.int .u8 5) 5 rfl _ rfl)
  have h1 := u32_mul a b
  go_enter Tryz.func96, Tryz.ntmps96
  go_wp2_with fail
  refine CD.out.mono ?_; rintro e w1 ⟨rfl, H1⟩
  have LK := L2.out _ H1
  have HB := Lib.hid H1.below
  clear CD H1 L2
  go_wp2
  go_ret2
  exact ⟨rfl, HB.out⟩
set_option maxHeartbeats 4000000 in
set_option maxRecDepth 20000 in
theorem do_6 (a b : UInt32) (w : World) :
    Calls Tryz.prog 96 #[.int .u8 6, wv a, wv b] w fun e w' => e = .returned (.tuple #[wv (a &&& b), .int .i64 0]) ∧ Below w.heap.size w w' := by
  have CD := Lib.hid (deeds_c (Hp.start w))
  have L2 := Lib.hid (fun w' (H : Hp w w' [Tab w.heap.size DEEDS]) => tab_look2 und_deeds und_op H (.int .u8 6) 6 rfl _ rfl)
  have h1 := u32_band a b
  go_enter Tryz.func96, Tryz.ntmps96
  go_wp2_with fail
  refine CD.out.mono ?_; rintro e w1 ⟨rfl, H1⟩
  have LK := L2.out _ H1
  have HB := Lib.hid H1.below
  clear CD H1 L2
  go_wp2
  go_ret2
  exact ⟨rfl, HB.out⟩
set_option maxHeartbeats 4000000 in
set_option maxRecDepth 20000 in
theorem do_7 (a b : UInt32) (w : World) :
    Calls Tryz.prog 96 #[.int .u8 7, wv a, wv b] w fun e w' => e = .returned (.tuple #[wv (a ||| b), .int .i64 0]) ∧ Below w.heap.size w w' := by
  have CD := Lib.hid (deeds_c (Hp.start w))
  have L2 := Lib.hid (fun w' (H : Hp w w' [Tab w.heap.size DEEDS]) => tab_look2 und_deeds und_op H (.int .u8 7) 7 rfl _ rfl)
  have h1 := u32_bor a b
  go_enter Tryz.func96, Tryz.ntmps96
  go_wp2_with fail
  refine CD.out.mono ?_; rintro e w1 ⟨rfl, H1⟩
  have LK := L2.out _ H1
  have HB := Lib.hid H1.below
  clear CD H1 L2
  go_wp2
  go_ret2
  exact ⟨rfl, HB.out⟩
set_option maxHeartbeats 4000000 in
set_option maxRecDepth 20000 in
theorem do_8 (a b : UInt32) (w : World) :
    Calls Tryz.prog 96 #[.int .u8 8, wv a, wv b] w fun e w' => e = .returned (.tuple #[wv (a ^^^ b), .int .i64 0]) ∧ Below w.heap.size w w' := by
  have CD := Lib.hid (deeds_c (Hp.start w))
  have L2 := Lib.hid (fun w' (H : Hp w w' [Tab w.heap.size DEEDS]) => tab_look2 und_deeds und_op H (.int .u8 8) 8 rfl _ rfl)
  have h1 := u32_bxor a b
  go_enter Tryz.func96, Tryz.ntmps96
  go_wp2_with fail
  refine CD.out.mono ?_; rintro e w1 ⟨rfl, H1⟩
  have LK := L2.out _ H1
  have HB := Lib.hid H1.below
  clear CD H1 L2
  go_wp2
  go_ret2
  exact ⟨rfl, HB.out⟩
set_option maxHeartbeats 4000000 in
set_option maxRecDepth 20000 in
theorem do_9 (a b : UInt32) (w : World) :
    Calls Tryz.prog 96 #[.int .u8 9, wv a, wv b] w fun e w' => e = .returned (.tuple #[wv (a <<< (b &&& 31)), .int .i64 0]) ∧ Below w.heap.size w w' := by
  have CD := Lib.hid (deeds_c (Hp.start w))
  have L2 := Lib.hid (fun w' (H : Hp w w' [Tab w.heap.size DEEDS]) => tab_look2 und_deeds und_op H (.int .u8 9) 9 rfl _ rfl)
  have h1 := u32_31 b
  have h2 := and31 b
  have h3 := u32_shl a (b &&& 31) h2
  generalize b &&& 31 = c at *
  have g1 : ¬ ((c.toNat : Int) < 0) := by omega
  go_enter Tryz.func96, Tryz.ntmps96
  go_wp2_with fail
  refine CD.out.mono ?_; rintro e w1 ⟨rfl, H1⟩
  have LK := L2.out _ H1
  have HB := Lib.hid H1.below
  clear CD H1 L2
  go_wp2
  go_ret2
  exact ⟨rfl, HB.out⟩
set_option maxHeartbeats 4000000 in
set_option maxRecDepth 20000 in
theorem do_10 (a b : UInt32) (w : World) :
    Calls Tryz.prog 96 #[.int .u8 10, wv a, wv b] w fun e w' => e = .returned (.tuple #[wv (a >>> (b &&& 31)), .int .i64 0]) ∧ Below w.heap.size w w' := by
  have CD := Lib.hid (deeds_c (Hp.start w))
  have L2 := Lib.hid (fun w' (H : Hp w w' [Tab w.heap.size DEEDS]) => tab_look2 und_deeds und_op H (.int .u8 10) 10 rfl _ rfl)
  have h1 := u32_31 b
  have h2 := and31 b
  have h3 := u32_shr a (b &&& 31) h2
  generalize b &&& 31 = c at *
  have g1 : ¬ ((c.toNat : Int) < 0) := by omega
  go_enter Tryz.func96, Tryz.ntmps96
  go_wp2_with fail
  refine CD.out.mono ?_; rintro e w1 ⟨rfl, H1⟩
  have LK := L2.out _ H1
  have HB := Lib.hid H1.below
  clear CD H1 L2
  go_wp2
  go_ret2
  exact ⟨rfl, HB.out⟩
set_option maxHeartbeats 4000000 in
set_option maxRecDepth 20000 in
theorem holds_15 (a b : UInt32) (w : World) :
    Calls Tryz.prog 99 #[.int .u8 15, wv a, wv b] w fun e w' => e = .returned (.tuple #[.bool (a == b), .int .i64 0]) ∧ Below w.heap.size w w' := by
  have CD := Lib.hid (quest_c (Hp.start w))
  have L2 := Lib.hid (fun w' (H : Hp w w' [Tab w.heap.size QUESTS]) => tab_look2 und_quest und_op H (.int .u8 15) 15 rfl _ rfl)
  have h1 := eq_u32 a b
  generalize hk : (a == b) = k at *
  have HK := Lib.hid hk
  clear hk
  go_enter Tryz.func99, Tryz.ntmps99
  go_wp2_with fail
  refine CD.out.mono ?_; rintro e w1 ⟨rfl, H1⟩
  have LK := L2.out _ H1
  have HB := Lib.hid H1.below
  clear CD H1 L2
  go_wp2
  go_ret2
  exact ⟨by first | rfl | (rw [← HK.out]; first | rfl | simp [bne, h1]), HB.out⟩
set_option maxHeartbeats 4000000 in
set_option maxRecDepth 20000 in
theorem holds_16 (a b : UInt32) (w : World) :
    Calls Tryz.prog 99 #[.int .u8 16, wv a, wv b] w fun e w' => e = .returned (.tuple #[.bool (a != b), .int .i64 0]) ∧ Below w.heap.size w w' := by
  have CD := Lib.hid (quest_c (Hp.start w))
  have L2 := Lib.hid (fun w' (H : Hp w w' [Tab w.heap.size QUESTS]) => tab_look2 und_quest und_op H (.int .u8 16) 16 rfl _ rfl)
  have h1 := eq_u32 a b
  generalize hk : (a != b) = k at *
  have HK := Lib.hid hk
  clear hk
  go_enter Tryz.func99, Tryz.ntmps99
  go_wp2_with fail
  refine CD.out.mono ?_; rintro e w1 ⟨rfl, H1⟩
  have LK := L2.out _ H1
  have HB := Lib.hid H1.below
  clear CD H1 L2
  go_wp2
  go_ret2
  exact ⟨by first | rfl | (rw [← HK.out]; first | rfl | simp [bne, h1]), HB.out⟩
set_option maxHeartbeats 1000000 in
theorem qless_c (a b : UInt32) (w : World) : Calls Tryz.prog 147 #[wv a, wv b] w fun e w' => e = .returned (.bool (decide (sg a < sg b))) ∧ w' = w := by
  have SA := Lib.hid (fun w => signed_c a w)
  have SB := Lib.hid (fun w => signed_c b w)
  generalize hk : decide (sg a < sg b) = k
  have HK := Lib.hid hk
  clear hk
  generalize sg a = x at *
  generalize sg b = y at *
  go_enter Tryz.func147, Tryz.ntmps147
  go_wp2_with fail
  refine (SA.out _).mono ?_; rintro e w2 ⟨rfl, rfl⟩
  go_wp2_with fail
  refine (SB.out _).mono ?_; rintro e w3 ⟨rfl, rfl⟩
  clear SA SB
  go_wp2
  go_ret
  exact ⟨by rw [← HK.out]; rfl, rfl⟩
set_option maxHeartbeats 4000000 in
set_option maxRecDepth 20000 in
theorem holds_17 (a b : UInt32) (w : World) :
    Calls Tryz.prog 99 #[.int .u8 17, wv a, wv b] w fun e w' => e = .returned (.tuple #[.bool (decide (sg a < sg b)), .int .i64 0]) ∧ Below w.heap.size w w' := by
  have CD := Lib.hid (quest_c (Hp.start w))
  have L2 := Lib.hid (fun w' (H : Hp w w' [Tab w.heap.size QUESTS]) => tab_look2 und_quest und_op H (.int .u8 17) 17 rfl _ rfl)
  have SA := Lib.hid (fun w => qless_c a b w)
  generalize hk : (decide (sg a < sg b)) = k at *
  have HK := Lib.hid hk
  clear hk
  go_enter Tryz.func99, Tryz.ntmps99
  go_wp2_with fail
  refine CD.out.mono ?_; rintro e w1 ⟨rfl, H1⟩
  have LK := L2.out _ H1
  have HB := Lib.hid H1.below
  clear CD H1 L2
  go_wp2_with fail
  refine (SA.out _).mono ?_; rintro e w2 ⟨rfl, rfl⟩
  clear SA
  go_wp2
  go_ret2
  exact ⟨by first | rfl | (rw [← HK.out]; first | rfl | simp [bne, h1]), HB.out⟩
set_option maxHeartbeats 4000000 in
set_option maxRecDepth 20000 in
theorem holds_18 (a b : UInt32) (w : World) :
    Calls Tryz.prog 99 #[.int .u8 18, wv a, wv b] w fun e w' => e = .returned (.tuple #[.bool (decide (a.toNat < b.toNat)), .int .i64 0]) ∧ Below w.heap.size w w' := by
  have CD := Lib.hid (quest_c (Hp.start w))
  have L2 := Lib.hid (fun w' (H : Hp w w' [Tab w.heap.size QUESTS]) => tab_look2 und_quest und_op H (.int .u8 18) 18 rfl _ rfl)
  have h1 := lt_u32 a b
  generalize hk : (decide (a.toNat < b.toNat)) = k at *
  have HK := Lib.hid hk
  clear hk
  go_enter Tryz.func99, Tryz.ntmps99
  go_wp2_with fail
  refine CD.out.mono ?_; rintro e w1 ⟨rfl, H1⟩
  have LK := L2.out _ H1
  have HB := Lib.hid H1.below
  clear CD H1 L2
  go_wp2
  go_ret2
  exact ⟨by first | rfl | (rw [← HK.out]; first | rfl | simp [bne, h1]), HB.out⟩
end Go.Proofs.YtijkkompnfpdeaaGreatDoor
set_option linter.unusedVariables false
set_option linter.unusedSimpArgs false
namespace Go.Proofs.YtijkkompnfpdeaaGreatDoor

section
variable {P : Program} {ops : Array Oper} {Q : Exit → Act → World → Prop} {md : Region.Mode} {S : World → Prop} {s : Nat}

/-- Whatever order is picked from here on, and S holds behind each operation but the number s. -/
def wpAnyS (P : Program) (md : Region.Mode) (ops : Array Oper) (Q : Exit → Act → World → Prop) (S : World → Prop) (s : Nat) : Nat → Array Bool → Act → World → Prop
  | 0, listed, a, w => Region.ready md ops listed = [] ∧ Q .normal a w
  | fuel + 1, listed, a, w =>
    (Region.ready md ops listed = [] → Q .normal a w) ∧
    ∀ i ∈ Region.ready md ops listed, wpOp P ops Q i (fun a' w' => (i < s → S w') ∧ wpAnyS P md ops Q S s fuel (listed.setIfInBounds i true) a' w') a w
theorem wpAny_of_S : ∀ (fuel : Nat) (listed : Array Bool) (a : Act) (w : World), wpAnyS P md ops Q S s fuel listed a w → wpAny P md ops Q fuel listed a w
  | 0, _, _, _, h => h
  | fuel + 1, _, _, _, h => ⟨h.1, fun i hi => wpOp_mono (fun a' w' h' => wpAny_of_S fuel _ a' w' h'.2) (h.2 i hi)⟩
theorem wpAnyS_first {i : Nat} {oi : Oper} {v : Value} (hi : ops[i]? = some oi) (hsel : ∀ (j : Nat) (o : Oper) cs b, ops[j]? = some o → o.op ≠ .select cs b)
    (hQ : ∀ c a w, Q (.panic c) (a.put oi.dst v) w → Q (.panic c) a w)
    (hsk : Region.sinkB md ops s = true) (hch : Region.chainB md ops s = true) (hs : s < ops.size) (his : i < s) :
    ∀ (fuel : Nat) (listed : Array Bool) (a : Act) (w : World), HeadInv md ops s listed →
      (∀ j oj, ops[j]? = some oj → j ≠ i → listed.getD j true = false → (∀ e ∈ oj.after, Region.binds md e = true → e.on ≠ i) → oi.apart ops oj = true) →
      i ∈ Region.ready md ops listed → YieldsIf P ops S oi v a → S w →
      wpAnyS P md ops Q S s fuel (listed.setIfInBounds i true) (a.put oi.dst v) w → wpAnyS P md ops Q S s (fuel + 1) listed a w := by
  intro fuel
  induction fuel with
  | zero =>
    intro listed a w _ _ hr hy hS H
    refine ⟨fun h => (by rw [h] at hr; cases hr), fun j hj => ?_⟩
    by_cases hji : j = i
    · subst hji; exact hy.wpOp hi hS ⟨fun _ => hS, H⟩
    · have := ready_mono hj hji
      rw [H.1] at this
      cases this
  | succ fuel ih =>
    intro listed a w inv hfree hr hy hS H
    refine ⟨fun h => (by rw [h] at hr; cases hr), fun j hj => ?_⟩
    by_cases hji : j = i
    · subst hji; exact hy.wpOp hi hS ⟨fun _ => hS, H⟩
    · have hjs : j < s := by
        rcases Nat.lt_or_ge j s with h | h
        · exact h
        · exact absurd hj (tail_waits hsk hch hs inv (s - i) i rfl his (mem_ready.1 hr).1 j h)
      have h1 := H.2 j (ready_mono hj hji)
      obtain ⟨hjun, oj, hoj, hall⟩ := mem_ready.1 hj
      have hnot : ∀ e ∈ oj.after, Region.binds md e = true → e.on ≠ i := fun e he hb heq => by
        have h1 := hall e he hb
        have h0 := (mem_ready.1 hr).1
        rw [heq] at h1
        rcases Nat.lt_or_ge i listed.size with h' | h'
        · simp [h'] at h0 h1; rw [h0] at h1; cases h1
        · simp [Array.getElem?_eq_none h'] at h1
      have h2 := wpOp_putIf hoj (hfree j oj hoj hji hjun hnot) (fun cs b => hsel i oi cs b hi) (fun cs b => hsel j oj cs b hoj) hQ hy h1
      have hfree' : ∀ k ok, ops[k]? = some ok → k ≠ i → (listed.setIfInBounds j true).getD k true = false →
          (∀ e ∈ ok.after, Region.binds md e = true → e.on ≠ i) → oi.apart ops ok = true := fun k ok hk hki hun hno => by
        refine hfree k ok hk hki ?_ hno
        by_cases hjk : j = k
        · subst hjk; exact hjun
        · rw [getD_set_ne true hjk] at hun; exact hun
      refine wpOp_mono (fun a' w' h3 => ⟨h3.2.1, ih (listed.setIfInBounds j true) a' w' (inv.set hj hjs) hfree' (ready_mono hr (Ne.symm hji)) h3.1 (h3.2.1 hjs) ?_⟩) h2
      rw [Array.setIfInBounds_comm _ _ hji]
      exact h3.2.2
/-- What is listed is listed with all that it waits for; nothing from n on is. -/
def headB (md : Region.Mode) (ops : Array Oper) (n : Nat) (listed : Array Bool) : Bool :=
  listed.size == ops.size && (List.range ops.size).all (fun j => !listed.getD j false || ((ops[j]?).map (·.after.all fun e => !Region.binds md e || listed.getD e.on false)).getD true) && (List.range ops.size).all (fun t => decide (t < n) || !listed.getD t true)
theorem headB_spec {n : Nat} {listed : Array Bool} (h : headB md ops n listed = true) : HeadInv md ops n listed := by
  unfold headB at h
  simp only [Bool.and_eq_true, beq_iff_eq] at h
  refine ⟨h.1.1, fun j oj hj hl e he hb => ?_, fun t ht htl => ?_⟩
  · have hjlt : j < ops.size := (Array.getElem?_eq_some_iff.1 hj).1
    have h2 := List.all_eq_true.1 h.1.2 j (List.mem_range.2 hjlt)
    rw [hl, hj] at h2
    have h3 : oj.after.all (fun e => !Region.binds md e || listed.getD e.on false) = true := by simpa using h2
    have h4 := (Array.all_eq_true'.1 h3) e he
    simpa [hb] using h4
  · have h2 := List.all_eq_true.1 h.2 t (List.mem_range.2 htl)
    simp only [Bool.or_eq_true, decide_eq_true_eq] at h2
    rcases h2 with h2 | h2
    · omega
    · simpa using h2
theorem wpAnyS_take {i : Nat} {fuel : Nat} {listed : Array Bool} {a : Act} {w : World}
    (hsel : Region.noSelect ops = true) (hsk : Region.sinkB md ops s = true) (hch : Region.chainB md ops s = true) (hs : decide (s < ops.size) = true) (his : decide (i < s) = true) (hh : headB md ops s listed = true) (hf : Region.free md ops listed i = true) (hr : (Region.ready md ops listed).contains i = true)
    (hQ : ∀ (c : _) (a : Act) (d : Option Tmp) (v : Value) (w : World), Q (.panic c) (a.put d v) w → Q (.panic c) a w) (hS : S w)
    (h : ∀ oi, ops[i]? = some oi → ∃ v, Region.wanted oi (yielded ops a.tmps) = true ∧ (∀ w, S w → (execOp a.eval oi).run P w = .ok (.value v) w) ∧ wpAnyS P md ops Q S s fuel (listed.setIfInBounds i true) (a.put oi.dst v) w) : wpAnyS P md ops Q S s (fuel + 1) listed a w := by
  have hs' := of_decide_eq_true hs
  have his' := of_decide_eq_true his
  obtain ⟨oi, hi⟩ : ∃ oi, ops[i]? = some oi := ⟨_, Array.getElem?_eq_getElem (by omega)⟩
  obtain ⟨v, hw, hy, h⟩ := h oi hi
  exact wpAnyS_first hi (Region.noSelect_spec hsel) (fun c a w => hQ c a _ _ w) hsk hch hs' his' fuel listed a w (headB_spec hh) (Region.free_spec hi hf) (by simpa using hr) (Or.inl ⟨hw, hy⟩) hS h
/-- What is to be shown of a step. -/
def StepS (P : Program) (md : Region.Mode) (ops : Array Oper) (Q : Exit → Act → World → Prop) (S : World → Prop) (s fuel : Nat) (listed : Array Bool) (a : Act) (w : World) (i : Nat) : Prop :=
  ∀ o, ops[i]? = some o → ∀ K' : Act → World → Prop, Shut (∀ a w, (decide (i < s) = true → S w) → wpAnyS P md ops Q S s fuel (listed.setIfInBounds i true) a w → K' a w) → if Region.wanted o (yielded ops a.tmps) = true then Oper.wp P o a w K' Q else K' (a.put o.dst undef) w
theorem wpAnyS_all {rs : List Nat} {fuel : Nat} {listed : Array Bool} {a : Act} {w : World} (hr : Region.ready md ops listed = rs) (hne : rs ≠ []) (h : ∀ i ∈ rs, StepS P md ops Q S s fuel listed a w i) : wpAnyS P md ops Q S s (fuel + 1) listed a w :=
  ⟨fun h0 => absurd (hr ▸ h0) hne, fun j hj => by
    obtain ⟨_, o, ho, _⟩ := mem_ready.1 hj
    rw [hr] at hj
    exact wpOp_step ho (fun K' hK => h j hj o ho K' (fun a w hS hW => hK a w ⟨fun h => hS (decide_eq_true h), hW⟩))⟩
/-- One alone may come up. -/
theorem wpAnyS_one {i : Nat} {fuel : Nat} {listed : Array Bool} {a : Act} {w : World} (hr : Region.ready md ops listed = [i]) (h : StepS P md ops Q S s fuel listed a w i) : wpAnyS P md ops Q S s (fuel + 1) listed a w :=
  wpAnyS_all hr (by simp) (fun j hj => by rw [List.mem_singleton] at hj; subst hj; exact h)
theorem wpAnyS_two {i k : Nat} {fuel : Nat} {listed : Array Bool} {a : Act} {w : World} (hr : Region.ready md ops listed = [i, k]) (h : StepS P md ops Q S s fuel listed a w i) (h' : StepS P md ops Q S s fuel listed a w k) : wpAnyS P md ops Q S s (fuel + 1) listed a w :=
  wpAnyS_all hr (by simp) (fun j hj => by
    rcases List.mem_cons.1 hj with rfl | hj
    · exact h
    · rw [List.mem_singleton] at hj; subst hj; exact h')
theorem wpAnyS_done {listed : Array Bool} {a : Act} {w : World} (hr : Region.ready md ops listed = []) (h : Q .normal a w) : ∀ fuel, wpAnyS P md ops Q S s fuel listed a w
  | 0 => ⟨hr, h⟩
  | _ + 1 => ⟨fun _ => h, by rw [hr]; simp⟩
theorem wp_region_S {id : Nat} {a : Act} {w : World} (s : Nat) (S : World → Prop) (hm : P.follows .mixedOrders = true)
    (h : wpAnyS P .any ops Q S s ops.size (Array.replicate ops.size false) a w.drew) : (Code.region id ops true).wp P Q a w :=
  wp_region_any hm (wpAny_of_S _ _ _ _ h)
end
end Go.Proofs.YtijkkompnfpdeaaGreatDoor
set_option linter.unusedVariables false
set_option linter.unusedSimpArgs false
namespace Go.Proofs.YtijkkompnfpdeaaGreatDoor
open Go.RowKit Go.Joins Go.Shelf
attribute [local go_sem] Oper.semAt_some

/-- A core's cells. -/
def coreL (s : Cs) (rb : Nat) (vc vs : Value) : List Value := s.r.map wv ++ [.int .i64 s.at_, .pointer (some ⟨rb, 0, none⟩), vc, vs, .bool s.asked]
abbrev CB (b rb : Nat) (s : Cs) (vc vs : Value) : Thing := Blk b (.cells (coreL s rb vc vs).toArray 79 (0, 0))
abbrev OwnI4 (v : Value) (c : List I4) : Thing := Own 26 4 v c.length (ics c)
abbrev OwnU8 (v : Value) (c : List UInt8) : Thing := Own 5 1 v c.length (c.map bv)
/-- A core, of some code. -/
def CR (b : Nat) (c : List I4) (s : Cs) : Thing := Ex (fun _ : (Nat × Nat) × Value × Value => s.r.length = 8 ∧ s.mem.length ≤ 4096) (fun t => Alls [CB b t.1.1 s t.2.1 t.2.2, MB t.1.2 s.mem, RGN t.1.1 t.1.2 s.mem.length, OwnI4 t.2.1 c, OwnU8 t.2.2 s.says])
theorem cr_open {w0 w : World} {r : List Thing} {b : Nat} {c : List I4} {s : Cs} (H : Hp w0 w (CR b c s :: r)) : ∃ rb mb vc vs, s.r.length = 8 ∧ s.mem.length ≤ 4096 ∧ Hp w0 w (CB b rb s vc vs :: MB mb s.mem :: RGN rb mb s.mem.length :: OwnI4 vc c :: OwnU8 vs s.says :: r) := by
  obtain ⟨⟨⟨rb, mb⟩, vc, vs⟩, ⟨h1, h2⟩, H1⟩ := H.ex
  exact ⟨rb, mb, vc, vs, h1, h2, H1.unAlls⟩
theorem cr_shut {w0 w : World} {r : List Thing} {b rb mb : Nat} {c : List I4} {s : Cs} {vc vs : Value} (h1 : s.r.length = 8) (h2 : s.mem.length ≤ 4096) (H : Hp w0 w (CB b rb s vc vs :: MB mb s.mem :: RGN rb mb s.mem.length :: OwnI4 vc c :: OwnU8 vs s.says :: r)) : Hp w0 w (CR b c s :: r) :=
  Hp.mkEx ((rb, mb), vc, vs) ⟨h1, h2⟩ (Hp.alls (l := [_, _, _, _, _]) H)
section
variable {w0 w : World} {r : List Thing} {b rb : Nat} {s : Cs} {vc vs : Value}
theorem cb_reg (H : Hp w0 w (CB b rb s vc vs :: r)) (hl : s.r.length = 8) (k : Nat) (hk : k < 8) : w.cell? ⟨b, k, none⟩ = some (wv (s.r.getD k 0)) := by
  rw [cell_blk (blk_get H)]
  simp only [coreL, List.getElem?_toArray]
  rw [List.getElem?_append_left (by simp; omega)]
  simp [hl, hk]
theorem cb_cell (H : Hp w0 w (CB b rb s vc vs :: r)) (hl : s.r.length = 8) (k : Nat) : w.cell? ⟨b, 8 + k, none⟩ = [Value.int .i64 s.at_, .pointer (some ⟨rb, 0, none⟩), vc, vs, .bool s.asked][k]? := by
  rw [cell_blk (blk_get H)]
  simp only [coreL, List.getElem?_toArray]
  rw [List.getElem?_append_right (by simp; omega)]
  simp [hl]
theorem coreL_reg (hl : s.r.length = 8) (k : Nat) (hk : k < 8) (v : UInt32) : (coreL s rb vc vs).toArray.setIfInBounds k (wv v) = (coreL { s with r := s.r.set k v } rb vc vs).toArray := by
  simp only [coreL, List.setIfInBounds_toArray]
  rw [List.set_append_left _ _ (by simp; omega), List.map_set]
theorem coreL_at (hl : s.r.length = 8) (v : Int) : (coreL s rb vc vs).toArray.setIfInBounds 8 (.int .i64 v) = (coreL { s with at_ := v } rb vc vs).toArray := by
  simp only [coreL, List.setIfInBounds_toArray]
  rw [List.set_append_right _ _ (by simp; omega)]
  simp [hl]
theorem coreL_says (hl : s.r.length = 8) (v : Value) : (coreL s rb vc vs).toArray.setIfInBounds 11 v = (coreL s rb vc v).toArray := by
  simp only [coreL, List.setIfInBounds_toArray]
  rw [List.set_append_right _ _ (by simp; omega)]
  simp [hl]
theorem coreL_asked (hl : s.r.length = 8) (v : Bool) : (coreL s rb vc vs).toArray.setIfInBounds 12 (.bool v) = (coreL { s with asked := v } rb vc vs).toArray := by
  simp only [coreL, List.setIfInBounds_toArray]
  rw [List.set_append_right _ _ (by simp; omega)]
  simp [hl]
theorem cb_setreg (H : Hp w0 w (CB b rb s vc vs :: r)) (hl : s.r.length = 8) (k : Nat) (hk : k < 8) (v : UInt32) : Hp w0 (w.setCell ⟨b, k, none⟩ (wv v)) (CB b rb { s with r := s.r.set k v } vc vs :: r) := by
  rw [CB, ← coreL_reg hl k hk]; exact blk_set H k _
theorem cb_setat (H : Hp w0 w (CB b rb s vc vs :: r)) (hl : s.r.length = 8) (v : Int) : Hp w0 (w.setCell ⟨b, 8, none⟩ (.int .i64 v)) (CB b rb { s with at_ := v } vc vs :: r) := by
  rw [CB, ← coreL_at hl]; exact blk_set H 8 _
theorem cb_setsays (H : Hp w0 w (CB b rb s vc vs :: r)) (hl : s.r.length = 8) (v : Value) : Hp w0 (w.setCell ⟨b, 11, none⟩ v) (CB b rb s vc v :: r) := by
  rw [CB, ← coreL_says hl]; exact blk_set H 11 _
theorem cb_setasked (H : Hp w0 w (CB b rb s vc vs :: r)) (hl : s.r.length = 8) (v : Bool) : Hp w0 (w.setCell ⟨b, 12, none⟩ (.bool v)) (CB b rb { s with asked := v } vc vs :: r) := by
  rw [CB, ← coreL_asked hl]; exact blk_set H 12 _
end
theorem set_word (b c : UInt8) : bits .or .u32 (IntKind.u32.wrap ((b.toNat : Int) * 256)) (c.toNat : Int) = ((UInt32.ofNat (b.toNat * 256 + c.toNat)).toNat : Int) := by
  have h1 := b.toNat_lt
  have h2 := c.toNat_lt
  rw [or_byte _ _ (by omega) h2, UInt32.toNat_ofNat', Nat.mod_eq_of_lt (by omega)]
theorem w8_32 (b : UInt8) : IntKind.u32.wrap (b.toNat : Int) = (b.toNat : Int) := by have h1 := b.toNat_lt; rw [IntKind.wrap_u32]; omega
theorem w8_64 (b : UInt8) : IntKind.i64.wrap (b.toNat : Int) = (b.toNat : Int) := by have h1 := b.toNat_lt; rw [IntKind.wrap_i64]; omega
set_option maxHeartbeats 4000000 in
set_option maxRecDepth 20000 in
theorem op1_c {w0 w : World} {r : List Thing} {b : Nat} {c : List I4} {s : Cs} (o x y z : UInt8) (hx : x.toNat < 8) (H : Hp w0 w (CR b c s :: r)) :
    Calls Tryz.prog 80 #[.pointer (some ⟨b, 0, none⟩), i4v (o, x, y, z)] w fun e w' => e = .returned (.int .i64 0) ∧ Hp w0 w' (CR b c (wrg s x (UInt32.ofNat (y.toNat * 256 + z.toNat))) :: r) := by
  have H1 := H.alloc (.cells #[bv o, bv x, bv y, bv z] 26)
  obtain ⟨rb, mb, vc, vs, hl, hm, H2⟩ := cr_open H1
  have HH : Hid (Hp w0 (World.setCell _ ⟨b, x.toNat, none⟩ (wv (UInt32.ofNat (y.toNat * 256 + z.toNat)))) (CR b c (wrg s x (UInt32.ofNat (y.toNat * 256 + z.toNat))) :: r)) := Lib.hid (cr_shut (s := wrg s x (UInt32.ofNat (y.toNat * 256 + z.toNat))) (by simpa [wrg] using hl) hm (cb_setreg H2 hl x.toNat hx _))
  have f0 := cb_reg H2 hl x.toNat hx
  have fz := free_blk (blk_get H2) x.toNat
  have q1 := set_word y z
  have q2 := w8_32 y
  have q3 := w8_32 z
  have q4 : (x.toNat : Int) < 8 := by omega
  generalize UInt32.ofNat (y.toNat * 256 + z.toNat) = u at *
  clear H H1 H2 hl hm
  go_enter Tryz.func80, Tryz.ntmps80
  have Q := Lib.hid q1
  clear q1
  go_wp2
  go_region
  have q5 := Q.out
  rw [IntKind.wrap_u32] at q5
  rw [q5]
  clear q5 Q
  go_wp2
  go_ret
  exact ⟨rfl, HH.out.drew⟩
set_option maxHeartbeats 4000000 in
set_option maxRecDepth 20000 in
theorem op2_c {w0 w : World} {r : List Thing} {b : Nat} {c : List I4} {s : Cs} (o x y z : UInt8) (hx : x.toNat < 8) (hy : y.toNat < 8) (H : Hp w0 w (CR b c s :: r)) :
    Calls Tryz.prog 81 #[.pointer (some ⟨b, 0, none⟩), i4v (o, x, y, z)] w fun e w' => e = .returned (.int .i64 0) ∧ Hp w0 w' (CR b c (wrg s x (rg s y)) :: r) := by
  have H1 := H.alloc (.cells #[bv o, bv x, bv y, bv z] 26)
  obtain ⟨rb, mb, vc, vs, hl, hm, H2⟩ := cr_open H1
  have HH : Hid (Hp w0 (World.setCell _ ⟨b, x.toNat, none⟩ (wv (rg s y))) (CR b c (wrg s x (rg s y)) :: r)) := Lib.hid (cr_shut (s := wrg s x (rg s y)) (by simpa [wrg] using hl) hm (cb_setreg H2 hl x.toNat hx _))
  have f0 := cb_reg H2 hl x.toNat hx
  have f1 := cb_reg H2 hl y.toNat hy
  have fz := free_blk (blk_get H2) x.toNat
  rw [← rg] at f1
  have q4 : (x.toNat : Int) < 8 := by omega
  have q5 : (y.toNat : Int) < 8 := by omega
  generalize rg s y = u at *
  clear H H1 H2 hl hm
  go_enter Tryz.func81, Tryz.ntmps81
  go_wp2
  go_region
  go_wp2
  go_ret
  exact ⟨rfl, HH.out.drew⟩
set_option maxHeartbeats 4000000 in
set_option maxRecDepth 20000 in
theorem op0_c {w0 w : World} {r : List Thing} (p x : Value) (H : Hp w0 w r) (o a b c : UInt8) (hx : x = i4v (o, a, b, c)) :
    Calls Tryz.prog 79 #[p, x] w fun e w' => e = .returned (.int .i64 0) ∧ Hp w0 w' r := by
  subst hx
  have H1 := Lib.hid (H.alloc (.cells #[bv o, bv a, bv b, bv c] 26))
  clear H
  go_enter Tryz.func79, Tryz.ntmps79
  go_wp2
  go_ret
  exact ⟨rfl, H1.out⟩
set_option maxHeartbeats 4000000 in
set_option maxRecDepth 20000 in
theorem op19_c {w0 w : World} {r : List Thing} {b : Nat} {c : List I4} {s : Cs} (o x y z : UInt8) (h0 : 0 ≤ s.at_) (h1 : s.at_ < 5000) (H : Hp w0 w (CR b c s :: r)) :
    Calls Tryz.prog 93 #[.pointer (some ⟨b, 0, none⟩), i4v (o, x, y, z)] w fun e w' => e = .returned (.int .i64 ((x.toNat * 256 + y.toNat : Nat) - s.at_ - 1)) ∧ Hp w0 w' (CR b c s :: r) := by
  have H1 := H.alloc (.cells #[bv o, bv x, bv y, bv z] 26)
  obtain ⟨rb, mb, vc, vs, hl, hm, H2⟩ := cr_open H1
  have HH := Lib.hid H1
  have f0 := cb_cell H2 hl 0
  have q1 := w8_64 x
  have q2 := w8_64 y
  have hx := x.toNat_lt
  have hy := y.toNat_lt
  have q3 : IntKind.i64.wrap ((x.toNat : Int) * 256) = (x.toNat : Int) * 256 := by rw [IntKind.wrap_i64]; omega
  have q4 : IntKind.i64.wrap ((x.toNat : Int) * 256 + (y.toNat : Int)) = (x.toNat : Int) * 256 + (y.toNat : Int) := by rw [IntKind.wrap_i64]; omega
  have q5 : IntKind.i64.wrap ((x.toNat : Int) * 256 + (y.toNat : Int) - s.at_) = (x.toNat : Int) * 256 + (y.toNat : Int) - s.at_ := by rw [IntKind.wrap_i64]; omega
  have q6 : IntKind.i64.wrap ((x.toNat : Int) * 256 + (y.toNat : Int) - s.at_ - 1) = (x.toNat : Int) * 256 + (y.toNat : Int) - s.at_ - 1 := by rw [IntKind.wrap_i64]; omega
  have q8 : wrap64 ((x.toNat : Int) * 256 + (y.toNat : Int) - s.at_ - 1) = (x.toNat : Int) * 256 + (y.toNat : Int) - s.at_ - 1 := by unfold wrap64; omega
  have q7 : (((x.toNat * 256 + y.toNat : Nat) : Int) - s.at_ - 1) = (x.toNat : Int) * 256 + (y.toNat : Int) - s.at_ - 1 := by omega
  rw [q7]
  have Q8 := Lib.hid q8
  clear q8
  generalize hd : (x.toNat : Int) * 256 + (y.toNat : Int) - s.at_ - 1 = d
  have Q8 : Hid (wrap64 ((x.toNat : Int) * 256 + (y.toNat : Int) - s.at_ - 1) = d) := Lib.hid (Q8.out.trans hd)
  clear hd
  clear H H1 H2 hl hm q7 hx hy q6
  go_enter Tryz.func93, Tryz.ntmps93
  go_wp2
  go_quiet (fail)
  go_wp2
  go_ret
  refine ⟨?_, HH.out.drewN _⟩
  exact congrArg (fun t => Ending.returned (.int .i64 t)) Q8.out
/-! ### What may be at fault. -/
def PE (e : Int) : PanicEntry := { v := .iface 81 (.agg #[.int .i64 e]), recovered := false }
set_option maxHeartbeats 1000000 in
theorem must32_y (v : Value) (w : World) : Calls Tryz.prog 83 #[v, .int .i64 0] w fun e w' => e = .returned v ∧ w' = w := by
  go_enter Tryz.func83, Tryz.ntmps83
  go_wp2
  go_ret
  exact ⟨rfl, rfl⟩
set_option maxHeartbeats 1000000 in
theorem must32_n (v : Value) (w : World) : Calls Tryz.prog 83 #[v, .int .i64 4] w fun e w' => e = .panicked [PE 4] ∧ w' = w := by
  have hp : ∀ (t : TypeId) (v : Value) (w : World), (Instr.panic (.iface t v)).run Tryz.prog w = .halt (.panic (.iface t v)) w := fun _ _ _ => rfl
  go_enter Tryz.func83, Tryz.ntmps83
  go_wp2
  exact ⟨rfl, rfl, rfl⟩
set_option maxHeartbeats 1000000 in
theorem must8_y (v : Value) (w : World) : Calls Tryz.prog 86 #[v, .int .i64 0] w fun e w' => e = .returned v ∧ w' = w := by
  go_enter Tryz.func86, Tryz.ntmps86
  go_wp2
  go_ret
  exact ⟨rfl, rfl⟩
set_option maxHeartbeats 1000000 in
theorem must8_n (v : Value) (w : World) : Calls Tryz.prog 86 #[v, .int .i64 4] w fun e w' => e = .panicked [PE 4] ∧ w' = w := by
  have hp : ∀ (t : TypeId) (v : Value) (w : World), (Instr.panic (.iface t v)).run Tryz.prog w = .halt (.panic (.iface t v)) w := fun _ _ _ => rfl
  go_enter Tryz.func86, Tryz.ntmps86
  go_wp2
  exact ⟨rfl, rfl, rfl⟩
set_option maxHeartbeats 1000000 in
theorem mustb_y (v : Value) (w : World) : Calls Tryz.prog 98 #[v, .int .i64 0] w fun e w' => e = .returned v ∧ w' = w := by
  go_enter Tryz.func98, Tryz.ntmps98
  go_wp2
  go_ret
  exact ⟨rfl, rfl⟩
set_option maxHeartbeats 1000000 in
theorem mustb_n (v : Value) (w : World) : Calls Tryz.prog 98 #[v, .int .i64 4] w fun e w' => e = .panicked [PE 4] ∧ w' = w := by
  have hp : ∀ (t : TypeId) (v : Value) (w : World), (Instr.panic (.iface t v)).run Tryz.prog w = .halt (.panic (.iface t v)) w := fun _ _ _ => rfl
  go_enter Tryz.func98, Tryz.ntmps98
  go_wp2
  exact ⟨rfl, rfl, rfl⟩
theorem unit_info : (Tryz.prog.info? 111).map (·.size) = some 0 := by kernel_rfl
set_option maxHeartbeats 1000000 in
theorem mustS_y (w : World) : Calls Tryz.prog 128 #[.agg #[], .int .i64 0] w fun e w' => e = .returned (.agg #[]) ∧ Below w.heap.size w w' := by
  have H2 := Lib.hid (blk_new_at ((Hp.start w).alloc (.cells #[] 111)) (.cells #[] 111) (w.heap.size + 1) (size_alloc1 _ _))
  go_enter Tryz.func128, Tryz.ntmps128
  go_wp2
  exact bodyPost_ret (results_cell_row rfl _ _ (w.heap.size + 1) _ _ _ _ rfl (blk_get H2.out) Tryz.underlying111 rfl unit_info) rfl ⟨rfl, H2.out.below⟩
set_option maxHeartbeats 1000000 in
theorem mustS_n (w : World) : Calls Tryz.prog 128 #[.agg #[], .int .i64 4] w fun e w' => e = .panicked [PE 4] ∧ Below w.heap.size w w' := by
  have hp : ∀ (t : TypeId) (v : Value) (w : World), (Instr.panic (.iface t v)).run Tryz.prog w = .halt (.panic (.iface t v)) w := fun _ _ _ => rfl
  have HB := Lib.hid (((Hp.start w).alloc (.cells #[] 111)).alloc (.cells #[] 111)).below
  go_enter Tryz.func128, Tryz.ntmps128
  go_wp2
  exact ⟨rfl, rfl, HB.out⟩
set_option maxHeartbeats 1000000 in
theorem none_y (w : World) : Calls Tryz.prog 89 #[.int .i64 0] w fun e w' => e = .returned (.agg #[]) ∧ Below w.heap.size w w' := by
  have H2 := Lib.hid (blk_new (Hp.start w) (.cells #[] 111))
  have C := Lib.hid (mustS_y (w.alloc (.cells #[] 111)))
  go_enter Tryz.func89, Tryz.ntmps89
  go_wp2_with fail
  refine C.out.mono ?_; rintro e w1 ⟨rfl, hb⟩
  have H3 := Lib.hid (H2.out.below_read hb)
  clear hb C H2
  go_wp2
  exact bodyPost_ret (results_cell_row rfl _ _ w.heap.size _ _ _ _ rfl (blk_get H3.out) Tryz.underlying111 rfl unit_info) rfl ⟨rfl, H3.out.below⟩
set_option maxHeartbeats 1000000 in
theorem none_n (w : World) : Calls Tryz.prog 89 #[.int .i64 4] w fun e w' => e = .panicked [PE 4] ∧ Below w.heap.size w w' := by
  have H2 := Lib.hid (blk_new (Hp.start w) (.cells #[] 111))
  have C := Lib.hid (mustS_n (w.alloc (.cells #[] 111)))
  go_enter Tryz.func89, Tryz.ntmps89
  go_wp2_with fail
  refine C.out.mono ?_; rintro e w1 ⟨rfl, hb⟩
  exact ⟨rfl, rfl, (H2.out.below_read hb).below⟩
end Go.Proofs.YtijkkompnfpdeaaGreatDoor
