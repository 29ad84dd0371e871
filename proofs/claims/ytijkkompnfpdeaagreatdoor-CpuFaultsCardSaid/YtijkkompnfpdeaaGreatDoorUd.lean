/- Units and words: what is made of two numbers, and what holds of them: walked. -/
import Derived.Test.YtijkkompnfpdeaaGreatDoorUc
set_option linter.unusedVariables false
set_option linter.unusedSimpArgs false
namespace Go.Proofs.YtijkkompnfpdeaaGreatDoor
open Go.RowKit Go.Joins Go.Shelf
attribute [local go_sem] Oper.semAt_some

/-! ### Maps from small numbers. -/
def ents : Nat → List (Nat × Value) → List MapEntry
  | _, [] => []
  | i, (k, v) :: l => ⟨.int .u8 k, v, i⟩ :: ents (i + 1) l
abbrev Tab (m : Nat) (l : List (Nat × Value)) : Thing := Blk m (.map (ents 0 l).toArray l.length)
def tget (k : Nat) : List (Nat × Value) → Option Value
  | [] => none
  | x :: l => if x.1 = k then some x.2 else tget k l
theorem ents_app : ∀ (l : List (Nat × Value)) (i k : Nat) (v : Value), ents i (l ++ [(k, v)]) = ents i l ++ [⟨.int .u8 k, v, i + l.length⟩]
  | [], _, _, _ => rfl
  | x :: l, i, k, v => by
    have := ents_app l (i + 1) k v
    simp only [List.cons_append, ents, this, List.length_cons]
    congr 4; omega
theorem same8 (k j : Nat) : Instr.sameNow (.int .u8) (.int .u8 (k : Int)) (.int .u8 (j : Int)) = some (decide (j = k)) := by
  by_cases h : j = k
  · subst h; simp [Instr.sameNow]
  · have : ¬ ((k : Int) = (j : Int)) := by omega
    simp [Instr.sameNow, this, h]
theorem find_tab (k : Nat) : ∀ (l : List (Nat × Value)) (n i : Nat), (tget k l = none → Instr.findNow (.int .u8) (.int .u8 (k : Int)) (ents n l) i = some none) ∧ (∀ v, tget k l = some v → ∃ j, Instr.findNow (.int .u8) (.int .u8 (k : Int)) (ents n l) i = some (some (j, v)))
  | [], n, i => ⟨fun _ => rfl, fun v h => by cases h⟩
  | x :: l, n, i => by
    obtain ⟨h1, h2⟩ := find_tab k l (n + 1) (i + 1)
    by_cases h : x.1 = k
    · refine ⟨fun h' => by simp [tget, h] at h', fun v hv => ⟨i, ?_⟩⟩
      simp [tget, h] at hv
      simp [ents, Instr.findNow, same8, h, hv]
    · refine ⟨fun h' => ?_, fun v hv => ?_⟩
      · simp only [tget, if_neg h] at h'
        simp only [ents, Instr.findNow, same8, decide_eq_false h]
        exact h1 h'
      · simp only [tget, if_neg h] at hv
        obtain ⟨j, hj⟩ := h2 v hv
        exact ⟨j, by simp only [ents, Instr.findNow, same8, decide_eq_false h]; exact hj⟩
theorem tab_put {P : Program} {w0 w : World} {r : List Thing} {m : Nat} {l : List (Nat × Value)} {t kt et : TypeId} (ht : P.underlying t = some (.map kt et)) (hd : P.underlying kt = some (.int .u8)) (H : Hp w0 w (Tab m l :: r)) (kv : Value) (k : Nat) (hkv : kv = .int .u8 (k : Int)) (v : Value) (hk : tget k l = none) :
    ∃ w', (Instr.mapUpdate t (.map (some m)) kv v).run P w = .ok () w' ∧ Hp w0 w' (Tab m (l ++ [(k, v)]) :: r) := by
  subst hkv
  refine ⟨_, run_insert_fresh ht hd (blk_get H) rfl (by simpa using (find_tab k l 0 0).1 hk), ?_⟩
  have e : Obj.map ((ents 0 l).toArray.push ⟨.int .u8 k, v, l.length⟩) (l.length + 1) = .map (ents 0 (l ++ [(k, v)])).toArray (l ++ [(k, v)]).length := by rw [ents_app]; simp
  rw [e]
  exact blk_put H _
theorem tab_look {P : Program} {w0 w : World} {r : List Thing} {m : Nat} {l : List (Nat × Value)} {t kt et : TypeId} (ht : P.underlying t = some (.map kt et)) (hd : P.underlying kt = some (.int .u8)) (H : Hp w0 w (Tab m l :: r)) (kv : Value) (k : Nat) (hkv : kv = .int .u8 (k : Int)) (v : Value) (hk : tget k l = some v) :
    (Instr.lookup t (.map (some m)) kv false).run P w = .ok v w := by
  subst hkv
  obtain ⟨j, hj⟩ := (find_tab k l 0 0).2 v hk
  exact run_lookup_there ht hd (blk_get H) rfl (by simpa using hj)
theorem tab_look2 {P : Program} {w0 w : World} {r : List Thing} {m : Nat} {l : List (Nat × Value)} {t kt et : TypeId} (ht : P.underlying t = some (.map kt et)) (hd : P.underlying kt = some (.int .u8)) (H : Hp w0 w (Tab m l :: r)) (kv : Value) (k : Nat) (hkv : kv = .int .u8 (k : Int)) (v : Value) (hk : tget k l = some v) :
    (Instr.lookup t (.map (some m)) kv true).run P w = .ok (.tuple #[v, .bool true]) w := by
  subst hkv
  obtain ⟨j, hj⟩ := (find_tab k l 0 0).2 v hk
  have hb := blk_get H
  have hg : (getObj m).run P w = .ok (.map (ents 0 l).toArray l.length) w := by simp [getObj, Sem.run, hb]
  simp only [Instr.lookup, Sem.run_bind, run_underlying ht, Result.andThen, hg, MapKept.run_checkKey hd (show MapKept.IsKey (.int .u8) (.int .u8 (k : Int)) from rfl), MapKept.run_findKey hd (show Instr.findNow (.int .u8) (.int .u8 (k : Int)) (ents 0 l).toArray.toList 0 = _ by simpa using hj), Sem.run_pure]
  simp
theorem und_op : Tryz.prog.underlying 24 = some (.int .u8) := by kernel_rfl
theorem und_deeds : Tryz.prog.underlying 174 = some (.map 24 172) := by kernel_rfl
theorem und_quest : Tryz.prog.underlying 178 = some (.map 24 176) := by kernel_rfl
def DEEDS : List (Nat × Value) := [(3, fn_ 137), (4, fn_ 138), (5, fn_ 139), (6, fn_ 140), (7, fn_ 141), (8, fn_ 142), (9, fn_ 143), (10, fn_ 144)]
def QUESTS : List (Nat × Value) := [(15, fn_ 145), (16, fn_ 146), (17, fn_ 147), (18, fn_ 148)]
set_option maxHeartbeats 4000000 in
set_option maxRecDepth 20000 in
theorem deeds_c {w0 w : World} {r : List Thing} (H : Hp w0 w r) :
    Calls Tryz.prog 129 #[] w fun e w' => e = .returned (.map (some w.heap.size)) ∧ Hp w0 w' (Tab w.heap.size DEEDS :: r) := by
  have hmm := @run_makeMap Tryz.prog
  have G0 : Hp w0 (w.alloc (.map #[] 0)) (Tab w.heap.size [] :: r) := blk_new H (.map #[] 0)
  obtain ⟨w1, hr1, G1⟩ := tab_put und_deeds und_op G0 (.int .u8 3) 3 rfl (fn_ 137) rfl
  obtain ⟨w2, hr2, G2⟩ := tab_put und_deeds und_op G1 (.int .u8 4) 4 rfl (fn_ 138) rfl
  obtain ⟨w3, hr3, G3⟩ := tab_put und_deeds und_op G2 (.int .u8 5) 5 rfl (fn_ 139) rfl
  obtain ⟨w4, hr4, G4⟩ := tab_put und_deeds und_op G3 (.int .u8 6) 6 rfl (fn_ 140) rfl
  obtain ⟨w5, hr5, G5⟩ := tab_put und_deeds und_op G4 (.int .u8 7) 7 rfl (fn_ 141) rfl
  obtain ⟨w6, hr6, G6⟩ := tab_put und_deeds und_op G5 (.int .u8 8) 8 rfl (fn_ 142) rfl
  obtain ⟨w7, hr7, G7⟩ := tab_put und_deeds und_op G6 (.int .u8 9) 9 rfl (fn_ 143) rfl
  obtain ⟨w8, hr8, G8⟩ := tab_put und_deeds und_op G7 (.int .u8 10) 10 rfl (fn_ 144) rfl
  have HG : Hid (Hp w0 w8 (Tab w.heap.size DEEDS :: r)) := Lib.hid G8
  clear G0 G1 G2 G3 G4 G5 G6 G7 G8 H
  go_enter Tryz.func129, Tryz.ntmps129
  go_wp2
  go_ret
  exact ⟨rfl, HG.out⟩
set_option maxHeartbeats 4000000 in
set_option maxRecDepth 20000 in
theorem quest_c {w0 w : World} {r : List Thing} (H : Hp w0 w r) :
    Calls Tryz.prog 130 #[] w fun e w' => e = .returned (.map (some w.heap.size)) ∧ Hp w0 w' (Tab w.heap.size QUESTS :: r) := by
  have hmm := @run_makeMap Tryz.prog
  have G0 : Hp w0 (w.alloc (.map #[] 0)) (Tab w.heap.size [] :: r) := blk_new H (.map #[] 0)
  obtain ⟨w1, hr1, G1⟩ := tab_put und_quest und_op G0 (.int .u8 15) 15 rfl (fn_ 145) rfl
  obtain ⟨w2, hr2, G2⟩ := tab_put und_quest und_op G1 (.int .u8 16) 16 rfl (fn_ 146) rfl
  obtain ⟨w3, hr3, G3⟩ := tab_put und_quest und_op G2 (.int .u8 17) 17 rfl (fn_ 147) rfl
  obtain ⟨w4, hr4, G4⟩ := tab_put und_quest und_op G3 (.int .u8 18) 18 rfl (fn_ 148) rfl
  have HG : Hid (Hp w0 w4 (Tab w.heap.size QUESTS :: r)) := Lib.hid G4
  clear G0 G1 G2 G3 G4 H
  go_enter Tryz.func130, Tryz.ntmps130
  go_wp2
  go_ret
  exact ⟨rfl, HG.out⟩
/-! ### Words. -/
theorem sg_i32 (a : UInt32) : IntKind.i32.wrap (a.toNat : Int) = sg a := by
  have := a.toNat_lt
  unfold sg
  rw [IntKind.wrap_i32]
  split <;> omega
theorem sg_b (a : UInt32) : -2147483648 ≤ sg a ∧ sg a < 2147483648 := by
  have := a.toNat_lt
  unfold sg
  split <;> omega
set_option maxHeartbeats 1000000 in
theorem signed_c (a : UInt32) (w : World) : Calls Tryz.prog 34 #[wv a] w fun e w' => e = .returned (.int .i64 (sg a)) ∧ w' = w := by
  have h1 := sg_i32 a
  have h2 : IntKind.i64.wrap (sg a) = sg a := by have := sg_b a; rw [IntKind.wrap_i64]; omega
  generalize sg a = s at *
  go_enter Tryz.func34, Tryz.ntmps34
  go_wp2
  go_ret
  exact ⟨rfl, rfl⟩
theorem u32_add (a b : UInt32) : IntKind.u32.wrap ((a.toNat : Int) + (b.toNat : Int)) = ((a + b).toNat : Int) := by rw [IntKind.wrap_u32, UInt32.toNat_add]; omega
theorem u32_sub (a b : UInt32) : IntKind.u32.wrap ((a.toNat : Int) - (b.toNat : Int)) = ((a - b).toNat : Int) := by
  have := a.toNat_lt
  have := b.toNat_lt
  rw [IntKind.wrap_u32, UInt32.toNat_sub]; omega
theorem u32_mul (a b : UInt32) : IntKind.u32.wrap ((a.toNat : Int) * (b.toNat : Int)) = ((a * b).toNat : Int) := by rw [IntKind.wrap_u32, UInt32.toNat_mul]; simp
theorem u32_band (a b : UInt32) : bits .and .u32 (a.toNat : Int) (b.toNat : Int) = ((a &&& b).toNat : Int) := by rw [u32_and_nat _ _ a.toNat_lt b.toNat_lt, UInt32.toNat_and]
theorem u32_bor (a b : UInt32) : bits .or .u32 (a.toNat : Int) (b.toNat : Int) = ((a ||| b).toNat : Int) := by rw [u32_or_nat _ _ a.toNat_lt b.toNat_lt, UInt32.toNat_or]
theorem u32_bxor (a b : UInt32) : bits .xor .u32 (a.toNat : Int) (b.toNat : Int) = ((a ^^^ b).toNat : Int) := by rw [u32_xor_nat _ _ a.toNat_lt b.toNat_lt, UInt32.toNat_xor]
theorem u32_shl (a c : UInt32) (h : c.toNat < 32) : IntKind.u32.wrap ((a.toNat : Int) * 2 ^ c.toNat) = ((a <<< c).toNat : Int) := by
  rw [UInt32.toNat_shiftLeft, IntKind.wrap_u32, Nat.shiftLeft_eq, Nat.mod_eq_of_lt h]
  simp
theorem u32_shr (a c : UInt32) (h : c.toNat < 32) : (a.toNat : Int) / 2 ^ c.toNat = ((a >>> c).toNat : Int) := by
  rw [UInt32.toNat_shiftRight, Nat.shiftRight_eq_div_pow, Nat.mod_eq_of_lt h]
  simp
theorem eq_u32 (a b : UInt32) : ((a.toNat : Int) == (b.toNat : Int)) = (a == b) := by
  rw [Bool.eq_iff_iff]
  simp only [beq_iff_eq]
  exact ⟨fun h => UInt32.toNat_inj.1 (by omega), fun h => by rw [h]⟩
theorem lt_u32 (a b : UInt32) : decide ((a.toNat : Int) < (b.toNat : Int)) = decide (a.toNat < b.toNat) := by simp
theorem u32_31 (b : UInt32) : bits .and .u32 (b.toNat : Int) 31 = ((b &&& 31).toNat : Int) := u32_band b 31
theorem and31 (b : UInt32) : (b &&& 31).toNat < 32 := by
  rw [UInt32.toNat_and]
  exact Nat.lt_of_le_of_lt Nat.and_le_right (by decide)
set_option maxHeartbeats 4000000 in
set_option maxRecDepth 20000 in
theorem do_3 (a b : UInt32) (w : World) :
    Calls Tryz.prog 96 #[.int .u8 3, wv a, wv b] w fun e w' => e = .returned (.tuple #[wv (a + b), .int .i64 0]) ∧ Below w.heap.size w w' := by
  have CD := Lib.hid (deeds_c (Hp.start w))
  have L2 := Lib.hid (fun w' (H : Hp w w' [Tab w.heap.size DEEDS]) => tab_look2 und_deeds und_op H (.int .u8 3) 3 rfl _ rfl)
  have h1 := u32_add a b
  go_enter Tryz.func96, Tryz.ntmps96
  go_wp2_with fail
  refine CD.out.mono ?_; rintro e w1 ⟨rfl, H1⟩
  have LK := L2.out _ H1
  have HB := Lib.hid H1.below
  clear CD H1 L2
  go_wp2
  go_ret2
  exact ⟨rfl, HB.out⟩
set_option maxHeartbeats 4000000 in
set_option maxRecDepth 20000 in
theorem do_4 (a b : UInt32) (w : World) :
    Calls Tryz.prog 96 #[.int .u8 4, wv a, wv b] w fun e w' => e = .returned (.tuple #[wv (a - b), .int .i64 0]) ∧ Below w.heap.size w w' := by
  have CD := Lib.hid (deeds_c (Hp.start w))
  have L2 := Lib.hid (fun w' (H : Hp w w' [Tab w.heap.size DEEDS]) => tab_look2 und_deeds und_op H (.int .u8 4) 4 rfl _ rfl)
  have h1 := u32_sub a b
  go_enter Tryz.func96, Tryz.ntmps96
  go_wp2_with fail
  refine CD.out.mono ?_; rintro e w1 ⟨rfl, H1⟩
  have LK := L2.out _ H1
  have HB := Lib.hid H1.below
  clear CD H1 L2
  go_wp2
  go_ret2
  exact ⟨rfl, HB.out⟩
set_option maxHeartbeats 4000000 in
set_option maxRecDepth 20000 in
theorem do_5 (a b : UInt32) (w : World) :
    Calls Tryz.prog 96 #[.int .u8 5, wv a, wv b] w fun e w' => e = .returned (.tuple #[wv (a * b), .int .i64 0]) ∧ Below w.heap.size w w' := by
  have CD := Lib.hid (deeds_c (Hp.start w))
  have L2 := Lib.hid (fun w' (H : Hp w w' [Tab w.heap.size DEEDS]) => tab_look2 und_deeds und_op H (.int .u8 5) 5 rfl _ rfl)
  have h1 := u32_mul a b
  go_enter Tryz.func96, Tryz.ntmps96
  go_wp2_with fail
  refine CD.out.mono ?_; rintro e w1 ⟨rfl, H1⟩
  have LK := L2.out _ H1
  have HB := Lib.hid H1.below
  clear CD H1 L2
  go_wp2
  go_ret2
  exact ⟨rfl, HB.out⟩
set_option maxHeartbeats 4000000 in
set_option maxRecDepth 20000 in
theorem do_6 (a b : UInt32) (w : World) :
    Calls Tryz.prog 96 #[.int .u8 6, wv a, wv b] w fun e w' => e = .returned (.tuple #[wv (a &&& b), .int .i64 0]) ∧ Below w.heap.size w w' := by
  have CD := Lib.hid (deeds_c (Hp.start w))
  have L2 := Lib.hid (fun w' (H : Hp w w' [Tab w.heap.size DEEDS]) => tab_look2 und_deeds und_op H (.int .u8 6) 6 rfl _ rfl)
  have h1 := u32_band a b
  go_enter Tryz.func96, Tryz.ntmps96
  go_wp2_with fail
  refine CD.out.mono ?_; rintro e w1 ⟨rfl, H1⟩
  have LK := L2.out _ H1
  have HB := Lib.hid H1.below
  clear CD H1 L2
  go_wp2
  go_ret2
  exact ⟨rfl, HB.out⟩
set_option maxHeartbeats 4000000 in
set_option maxRecDepth 20000 in
theorem do_7 (a b : UInt32) (w : World) :
    Calls Tryz.prog 96 #[.int .u8 7, wv a, wv b] w fun e w' => e = .returned (.tuple #[wv (a ||| b), .int .i64 0]) ∧ Below w.heap.size w w' := by
  have CD := Lib.hid (deeds_c (Hp.start w))
  have L2 := Lib.hid (fun w' (H : Hp w w' [Tab w.heap.size DEEDS]) => tab_look2 und_deeds und_op H (.int .u8 7) 7 rfl _ rfl)
  have h1 := u32_bor a b
  go_enter Tryz.func96, Tryz.ntmps96
  go_wp2_with fail
  refine CD.out.mono ?_; rintro e w1 ⟨rfl, H1⟩
  have LK := L2.out _ H1
  have HB := Lib.hid H1.below
  clear CD H1 L2
  go_wp2
  go_ret2
  exact ⟨rfl, HB.out⟩
set_option maxHeartbeats 4000000 in
set_option maxRecDepth 20000 in
theorem do_8 (a b : UInt32) (w : World) :
    Calls Tryz.prog 96 #[.int .u8 8, wv a, wv b] w fun e w' => e = .returned (.tuple #[wv (a ^^^ b), .int .i64 0]) ∧ Below w.heap.size w w' := by
  have CD := Lib.hid (deeds_c (Hp.start w))
  have L2 := Lib.hid (fun w' (H : Hp w w' [Tab w.heap.size DEEDS]) => tab_look2 und_deeds und_op H (.int .u8 8) 8 rfl _ rfl)
  have h1 := u32_bxor a b
  go_enter Tryz.func96, Tryz.ntmps96
  go_wp2_with fail
  refine CD.out.mono ?_; rintro e w1 ⟨rfl, H1⟩
  have LK := L2.out _ H1
  have HB := Lib.hid H1.below
  clear CD H1 L2
  go_wp2
  go_ret2
  exact ⟨rfl, HB.out⟩
set_option maxHeartbeats 4000000 in
set_option maxRecDepth 20000 in
theorem do_9 (a b : UInt32) (w : World) :
    Calls Tryz.prog 96 #[.int .u8 9, wv a, wv b] w fun e w' => e = .returned (.tuple #[wv (a <<< (b &&& 31)), .int .i64 0]) ∧ Below w.heap.size w w' := by
  have CD := Lib.hid (deeds_c (Hp.start w))
  have L2 := Lib.hid (fun w' (H : Hp w w' [Tab w.heap.size DEEDS]) => tab_look2 und_deeds und_op H (.int .u8 9) 9 rfl _ rfl)
  have h1 := u32_31 b
  have h2 := and31 b
  have h3 := u32_shl a (b &&& 31) h2
  generalize b &&& 31 = c at *
  have g1 : ¬ ((c.toNat : Int) < 0) := by omega
  go_enter Tryz.func96, Tryz.ntmps96
  go_wp2_with fail
  refine CD.out.mono ?_; rintro e w1 ⟨rfl, H1⟩
  have LK := L2.out _ H1
  have HB := Lib.hid H1.below
  clear CD H1 L2
  go_wp2
  go_ret2
  exact ⟨rfl, HB.out⟩
set_option maxHeartbeats 4000000 in
set_option maxRecDepth 20000 in
theorem do_10 (a b : UInt32) (w : World) :
    Calls Tryz.prog 96 #[.int .u8 10, wv a, wv b] w fun e w' => e = .returned (.tuple #[wv (a >>> (b &&& 31)), .int .i64 0]) ∧ Below w.heap.size w w' := by
  have CD := Lib.hid (deeds_c (Hp.start w))
  have L2 := Lib.hid (fun w' (H : Hp w w' [Tab w.heap.size DEEDS]) => tab_look2 und_deeds und_op H (.int .u8 10) 10 rfl _ rfl)
  have h1 := u32_31 b
  have h2 := and31 b
  have h3 := u32_shr a (b &&& 31) h2
  generalize b &&& 31 = c at *
  have g1 : ¬ ((c.toNat : Int) < 0) := by omega
  go_enter Tryz.func96, Tryz.ntmps96
  go_wp2_with fail
  refine CD.out.mono ?_; rintro e w1 ⟨rfl, H1⟩
  have LK := L2.out _ H1
  have HB := Lib.hid H1.below
  clear CD H1 L2
  go_wp2
  go_ret2
  exact ⟨rfl, HB.out⟩
set_option maxHeartbeats 4000000 in
set_option maxRecDepth 20000 in
theorem holds_15 (a b : UInt32) (w : World) :
    Calls Tryz.prog 99 #[.int .u8 15, wv a, wv b] w fun e w' => e = .returned (.tuple #[.bool (a == b), .int .i64 0]) ∧ Below w.heap.size w w' := by
  have CD := Lib.hid (quest_c (Hp.start w))
  have L2 := Lib.hid (fun w' (H : Hp w w' [Tab w.heap.size QUESTS]) => tab_look2 und_quest und_op H (.int .u8 15) 15 rfl _ rfl)
  have h1 := eq_u32 a b
  generalize hk : (a == b) = k at *
  have HK := Lib.hid hk
  clear hk
  go_enter Tryz.func99, Tryz.ntmps99
  go_wp2_with fail
  refine CD.out.mono ?_; rintro e w1 ⟨rfl, H1⟩
  have LK := L2.out _ H1
  have HB := Lib.hid H1.below
  clear CD H1 L2
  go_wp2
  go_ret2
  exact ⟨by first | rfl | (rw [← HK.out]; first | rfl | simp [bne, h1]), HB.out⟩
set_option maxHeartbeats 4000000 in
set_option maxRecDepth 20000 in
theorem holds_16 (a b : UInt32) (w : World) :
    Calls Tryz.prog 99 #[.int .u8 16, wv a, wv b] w fun e w' => e = .returned (.tuple #[.bool (a != b), .int .i64 0]) ∧ Below w.heap.size w w' := by
  have CD := Lib.hid (quest_c (Hp.start w))
  have L2 := Lib.hid (fun w' (H : Hp w w' [Tab w.heap.size QUESTS]) => tab_look2 und_quest und_op H (.int .u8 16) 16 rfl _ rfl)
  have h1 := eq_u32 a b
  generalize hk : (a != b) = k at *
  have HK := Lib.hid hk
  clear hk
  go_enter Tryz.func99, Tryz.ntmps99
  go_wp2_with fail
  refine CD.out.mono ?_; rintro e w1 ⟨rfl, H1⟩
  have LK := L2.out _ H1
  have HB := Lib.hid H1.below
  clear CD H1 L2
  go_wp2
  go_ret2
  exact ⟨by first | rfl | (rw [← HK.out]; first | rfl | simp [bne, h1]), HB.out⟩
set_option maxHeartbeats 1000000 in
theorem qless_c (a b : UInt32) (w : World) : Calls Tryz.prog 147 #[wv a, wv b] w fun e w' => e = .returned (.bool (decide (sg a < sg b))) ∧ w' = w := by
  have SA := Lib.hid (fun w => signed_c a w)
  have SB := Lib.hid (fun w => signed_c b w)
  generalize hk : decide (sg a < sg b) = k
  have HK := Lib.hid hk
  clear hk
  generalize sg a = x at *
  generalize sg b = y at *
  go_enter Tryz.func147, Tryz.ntmps147
  go_wp2_with fail
  refine (SA.out _).mono ?_; rintro e w2 ⟨rfl, rfl⟩
  go_wp2_with fail
  refine (SB.out _).mono ?_; rintro e w3 ⟨rfl, rfl⟩
  clear SA SB
  go_wp2
  go_ret
  exact ⟨by rw [← HK.out]; rfl, rfl⟩
set_option maxHeartbeats 4000000 in
set_option maxRecDepth 20000 in
theorem holds_17 (a b : UInt32) (w : World) :
    Calls Tryz.prog 99 #[.int .u8 17, wv a, wv b] w fun e w' => e = .returned (.tuple #[.bool (decide (sg a < sg b)), .int .i64 0]) ∧ Below w.heap.size w w' := by
  have CD := Lib.hid (quest_c (Hp.start w))
  have L2 := Lib.hid (fun w' (H : Hp w w' [Tab w.heap.size QUESTS]) => tab_look2 und_quest und_op H (.int .u8 17) 17 rfl _ rfl)
  have SA := Lib.hid (fun w => qless_c a b w)
  generalize hk : (decide (sg a < sg b)) = k at *
  have HK := Lib.hid hk
  clear hk
  go_enter Tryz.func99, Tryz.ntmps99
  go_wp2_with fail
  refine CD.out.mono ?_; rintro e w1 ⟨rfl, H1⟩
  have LK := L2.out _ H1
  have HB := Lib.hid H1.below
  clear CD H1 L2
  go_wp2_with fail
  refine (SA.out _).mono ?_; rintro e w2 ⟨rfl, rfl⟩
  clear SA
  go_wp2
  go_ret2
  exact ⟨by first | rfl | (rw [← HK.out]; first | rfl | simp [bne, h1]), HB.out⟩
set_option maxHeartbeats 4000000 in
set_option maxRecDepth 20000 in
theorem holds_18 (a b : UInt32) (w : World) :
    Calls Tryz.prog 99 #[.int .u8 18, wv a, wv b] w fun e w' => e = .returned (.tuple #[.bool (decide (a.toNat < b.toNat)), .int .i64 0]) ∧ Below w.heap.size w w' := by
  have CD := Lib.hid (quest_c (Hp.start w))
  have L2 := Lib.hid (fun w' (H : Hp w w' [Tab w.heap.size QUESTS]) => tab_look2 und_quest und_op H (.int .u8 18) 18 rfl _ rfl)
  have h1 := lt_u32 a b
  generalize hk : (decide (a.toNat < b.toNat)) = k at *
  have HK := Lib.hid hk
  clear hk
  go_enter Tryz.func99, Tryz.ntmps99
  go_wp2_with fail
  refine CD.out.mono ?_; rintro e w1 ⟨rfl, H1⟩
  have LK := L2.out _ H1
  have HB := Lib.hid H1.below
  clear CD H1 L2
  go_wp2
  go_ret2
  exact ⟨by first | rfl | (rw [← HK.out]; first | rfl | simp [bne, h1]), HB.out⟩
end Go.Proofs.YtijkkompnfpdeaaGreatDoor
