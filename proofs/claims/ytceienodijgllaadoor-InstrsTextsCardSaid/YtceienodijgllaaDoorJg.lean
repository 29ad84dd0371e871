/- Instructions: some answers that the document fixes (alive): the program's text. -/
import Derived.Test.YtceienodijgllaaDoorJf
set_option linter.unusedVariables false
set_option linter.unusedSimpArgs false
namespace Go.Proofs.YtceienodijgllaaDoor
open Go.RowKit Go.Joins Go.Shelf
attribute [local go_sem] Oper.semAt_some

set_option maxHeartbeats 4000000 in
set_option maxRecDepth 20000 in
theorem is_c {w0 w : World} {r : List Thing} (L : Lf w0) (s : List UInt8) (hs : s.length < 4294967281) {op : Nat} {a b c : Int} (hb : By3 a b c) (hk : ck op a b c = true) (ht : txo op a b c = s) (H : Hp w0 w r) :
    Calls Tryd.prog 29 #[strv s, inS op a b c] w fun e w' => e = .returned (.bool true) ∧ Hp w0 w' r := by
  obtain ⟨bs, h1, h2⟩ := prs_of hb hk
  rw [ht] at h1
  have H1 := Lib.hid (blk_new H (.cells #[.int .u8 op, .int .u8 a, .int .u8 b, .int .u8 c] 24))
  have hp := parse_c L s hs H1.out
  rw [h1] at hp
  have hp2 : Calls Tryd.prog 16 #[strv s] _ fun e w' => e = .returned (.tuple #[inS op a b c, .int .i64 0]) ∧ Hp w0 w' _ := hp.mono (fun e w' ⟨he, hw⟩ => ⟨by rw [he, ← h2]; rfl, hw⟩)
  have HP := Lib.hid hp2
  clear hp hp2 h1 h2 H H1
  go_enter Tryd.func29, Tryd.ntmps29
  go_wp2_with fail
  refine HP.out.mono ?_; rintro e w1 ⟨rfl, H2⟩
  have H3 := Lib.hid (blk_new H2 (.cells #[.int .u8 op, .int .u8 a, .int .u8 b, .int .u8 c] 24))
  have x0 := cell_blk (blk_get (H3.out.pull 1 rfl))
  have y0 : (w1.alloc (.cells #[.int .u8 op, .int .u8 a, .int .u8 b, .int .u8 c] 24)).cell? ⟨w.heap.size, 0, none⟩ = some (.int .u8 op) := x0 0
  have y1 : (w1.alloc (.cells #[.int .u8 op, .int .u8 a, .int .u8 b, .int .u8 c] 24)).cell? ⟨w.heap.size, 1, none⟩ = some (.int .u8 a) := x0 1
  have y2 : (w1.alloc (.cells #[.int .u8 op, .int .u8 a, .int .u8 b, .int .u8 c] 24)).cell? ⟨w.heap.size, 2, none⟩ = some (.int .u8 b) := x0 2
  have y3 : (w1.alloc (.cells #[.int .u8 op, .int .u8 a, .int .u8 b, .int .u8 c] 24)).cell? ⟨w.heap.size, 3, none⟩ = some (.int .u8 c) := x0 3
  have ht2 := text_c (op := op) L H3.out hb
  rw [hk, ht] at ht2
  have ht3 : Calls Tryd.prog 14 #[inS op a b c] _ fun e w' => e = .returned (.tuple #[strv s, .int .i64 0]) ∧ Hp w0 w' _ := ht2
  have HT := Lib.hid ht3
  clear H2 HP x0 ht2 ht3
  go_upto_region 2 with fail
  generalize (w1.alloc (.cells #[.int .u8 op, .int .u8 a, .int .u8 b, .int .u8 c] 24)) = w2 at *
  generalize w1.heap.size = yb at *
  generalize w.heap.size = xb at *
  go_wp2_with fail
  refine HT.out.mono ?_; rintro e w3 ⟨rfl, H4⟩
  have H5 := Lib.hid H4
  clear y0 y1 y2 y3 HT H3
  have x0 := cell_blk (blk_get (H5.out.pull 1 rfl))
  have x1 := cell_blk (blk_get H5.out)
  have y0 : w3.cell? ⟨xb, 0, none⟩ = some (.int .u8 op) := x0 0
  have y1 : w3.cell? ⟨xb, 1, none⟩ = some (.int .u8 a) := x0 1
  have y2 : w3.cell? ⟨xb, 2, none⟩ = some (.int .u8 b) := x0 2
  have y3 : w3.cell? ⟨xb, 3, none⟩ = some (.int .u8 c) := x0 3
  have z0 : w3.cell? ⟨yb, 0, none⟩ = some (.int .u8 op) := x1 0
  have z1 : w3.cell? ⟨yb, 1, none⟩ = some (.int .u8 a) := x1 1
  have z2 : w3.cell? ⟨yb, 2, none⟩ = some (.int .u8 b) := x1 2
  have z3 : w3.cell? ⟨yb, 3, none⟩ = some (.int .u8 c) := x1 3
  clear x0 x1 H4
  go_wp2
  go_ret
  exact ⟨rfl, H5.out.tail.tail⟩

/-! ### The texts. -/
theorem itoa_lit (n : Nat) : Lib.itoa (n : Int) = Lib.decDigits n := by unfold Lib.itoa; rw [if_neg (by omega)]; rfl
theorem dec_small {n : Nat} (h : n < 10) : Lib.decDigits n = [UInt8.ofNat (48 + n)] := by rw [Lib.decDigits, dif_pos h]
theorem dec_big {n : Nat} (h : ¬ n < 10) : Lib.decDigits n = Lib.decDigits (n / 10) ++ [UInt8.ofNat (48 + n % 10)] := by rw [Lib.decDigits, dif_neg h]
theorem i1 {n : Nat} (h : n < 10) : Lib.itoa (n : Int) = [UInt8.ofNat (48 + n)] := (itoa_lit n).trans (dec_small h)
theorem i2 {n : Nat} (h : ¬ n < 10) (h2 : n / 10 < 10) : Lib.itoa (n : Int) = [UInt8.ofNat (48 + n / 10), UInt8.ofNat (48 + n % 10)] := by rw [itoa_lit, dec_big h, dec_small h2]; rfl
theorem i3 {n : Nat} (h : ¬ n < 10) (h2 : ¬ n / 10 < 10) (h3 : n / 10 / 10 < 10) : Lib.itoa (n : Int) = [UInt8.ofNat (48 + n / 10 / 10), UInt8.ofNat (48 + n / 10 % 10), UInt8.ofNat (48 + n % 10)] := by rw [itoa_lit, dec_big h, dec_big h2, dec_small h3]; rfl
theorem txo_eq {op : Nat} {a b c : Int} {l : List Int} (h : flds op a b c = some l) : txo op a b c = txt op l := by unfold txo; rw [h]
theorem t_set : txo 1 1 1 44 = [115, 101, 116, 32, 114, 49, 32, 51, 48, 48] := by
  rw [txo_eq (l := [1, 300]) (by decide)]
  show wl 1 ++ ((32 :: (114 :: Lib.itoa ((1 : Nat) : Int))) ++ ((32 :: Lib.itoa ((300 : Nat) : Int)) ++ [])) = _
  rw [i1 (by decide), i3 (by decide) (by decide) (by decide)]; rfl
theorem t_same : txo 15 1 2 253 = [115, 97, 109, 101, 32, 114, 49, 32, 114, 50, 32, 45, 51] := by
  rw [txo_eq (l := [1, 2, 253]) (by decide)]
  show wl 15 ++ ((32 :: (114 :: Lib.itoa ((1 : Nat) : Int))) ++ ((32 :: (114 :: Lib.itoa ((2 : Nat) : Int))) ++ ((32 :: Lib.itoa (-3)) ++ []))) = _
  have : Lib.itoa (-3) = 45 :: Lib.itoa ((3 : Nat) : Int) := rfl
  rw [this, i1 (by decide), i1 (by decide), i1 (by decide)]; rfl
theorem t_go : txo 19 1 0 0 = [103, 111, 32, 50, 53, 54] := by
  rw [txo_eq (l := [256]) (by decide)]
  show wl 19 ++ ((32 :: Lib.itoa ((256 : Nat) : Int)) ++ []) = _
  rw [i3 (by decide) (by decide) (by decide)]; rfl
theorem t_ask : txo 21 20 0 0 = [97, 115, 107, 32, 50, 48] := by
  rw [txo_eq (l := [20]) (by decide)]
  show wl 21 ++ ((32 :: Lib.itoa ((20 : Nat) : Int)) ++ []) = _
  rw [i2 (by decide) (by decide)]; rfl
theorem t_load : txo 11 7 0 255 = [108, 111, 97, 100, 32, 114, 55, 32, 114, 48, 32, 50, 53, 53] := by
  rw [txo_eq (l := [7, 0, 255]) (by decide)]
  show wl 11 ++ ((32 :: (114 :: Lib.itoa ((7 : Nat) : Int))) ++ ((32 :: (114 :: Lib.itoa ((0 : Nat) : Int))) ++ ((32 :: Lib.itoa ((255 : Nat) : Int)) ++ []))) = _
  rw [i1 (by decide), i1 (by decide), i3 (by decide) (by decide) (by decide)]; rfl
theorem t_nop : txo 0 0 0 0 = [110, 111, 112] := by
  rw [txo_eq (l := []) (by decide)]; rfl
theorem no_same : prs [115, 97, 109, 101, 32, 114, 48, 32, 114, 48, 32, 45, 48] = none := by
  apply prs_none
  have hs : spl [115, 97, 109, 101, 32, 114, 48, 32, 114, 48, 32, 45, 48] = [[115, 97, 109, 101], [114, 48], [114, 48], [45, 48]] := by decide
  rw [hs]
  intro o ho
  by_cases h15 : o = 15
  · subst h15
    have e0 : Lib.itoa ((0 : Nat) : Int) = [48] := i1 (by decide)
    have n0 : nS [48] = some 0 := by have := nS_itoa (n := ((0 : Nat) : Int)) (by decide) (by decide); rw [e0] at this; exact this
    have p0 : pk 114 [114, 48] = some 0 := n0
    have p1 : pk 115 [45, 48] = none := by show pkS (nS [48]) true = none; rw [n0]; rfl
    show rd [114, 114, 115] [[114, 48], [114, 48], [45, 48]] = none
    simp only [rd, p0, p1]
    rfl
  · unfold pat
    rw [if_neg]
    rintro ⟨h1, _⟩
    have := wl_inj (a := o) (b := 15) (by omega) (by omega) h1
    exact h15 this
theorem no_move : prs [109, 111, 118, 101, 32, 114, 49, 32, 32, 114, 50] = none := by
  apply prs_none
  have hs : spl [109, 111, 118, 101, 32, 114, 49, 32, 32, 114, 50] = [[109, 111, 118, 101], [114, 49], [], [114, 50]] := by decide
  rw [hs]
  intro o ho
  unfold pat
  rw [if_neg]
  rintro ⟨h1, h2⟩
  have := wl_inj (a := o) (b := 2) (by omega) (by omega) h1
  subst this
  exact absurd h2 (by decide)
theorem by3 {a b c : Int} (h : (decide (0 ≤ a) && decide (a < 256) && (decide (0 ≤ b) && decide (b < 256)) && (decide (0 ≤ c) && decide (c < 256))) = true) : By3 a b c := by
  simp only [Bool.and_eq_true, decide_eq_true_eq] at h
  exact ⟨h.1.1, h.1.2, h.2⟩
theorem parse_no {w0 w : World} {r : List Thing} (L : Lf w0) (s : List UInt8) (hs : s.length < 4294967281) (h : prs s = none) (H : Hp w0 w r) :
    Calls Tryd.prog 16 #[strv s] w fun e w' => e = .returned (.tuple #[.agg zS, .int .i64 14]) ∧ Hp w0 w' r := by
  have := parse_c L s hs H
  rw [h] at this
  exact this
set_option maxHeartbeats 4000000 in
set_option maxRecDepth 20000 in
theorem alive_c {w0 w : World} {r : List Thing} (L : Lf w0) (H : Hp w0 w r) :
    Calls Tryd.prog 18 #[] w fun e w' => e = .returned (.bool true) ∧ Hp w0 w' r := by
  have HH := Lib.hid H
  clear H
  go_enter Tryd.func18, Tryd.ntmps18
  go_wp2_with fail
  refine (get_no (op := 23) (a := 0) (b := 0) (c := 0) HH.out (by3 (by decide)) (by decide)).mono ?_; rintro e w1 ⟨rfl, H1⟩
  have G1 := Lib.hid (H1.alloc (.cells zS 24))
  clear H1
  go_wp2_with fail
  refine (get_no (op := 0) (a := 1) (b := 0) (c := 0) G1.out (by3 (by decide)) (by decide)).mono ?_; rintro e w2 ⟨rfl, H2⟩
  have G2 := Lib.hid (H2.alloc (.cells zS 24))
  clear H2 G1
  go_wp2_with fail
  refine (get_no (op := 3) (a := 8) (b := 0) (c := 0) G2.out (by3 (by decide)) (by decide)).mono ?_; rintro e w3 ⟨rfl, H3⟩
  have G3 := Lib.hid (H3.alloc (.cells zS 24))
  clear H3 G2
  go_wp2_with fail
  refine (text_no_w L (op := 21) (a := 0) (b := 0) (c := 0) G3.out (by3 (by decide)) (by decide)).mono ?_; rintro e w4 ⟨rfl, H4⟩
  have G4 := Lib.hid H4
  clear H4 G3
  go_wp2_with fail
  refine (parse_no L [115, 97, 109, 101, 32, 114, 48, 32, 114, 48, 32, 45, 48] (by decide) no_same G4.out).mono ?_; rintro e w5 ⟨rfl, H5⟩
  have G5 := Lib.hid (H5.alloc (.cells zS 24))
  clear H5 G4
  go_wp2_with fail
  refine (parse_no L [109, 111, 118, 101, 32, 114, 49, 32, 32, 114, 50] (by decide) no_move G5.out).mono ?_; rintro e w6 ⟨rfl, H6⟩
  have G6 := Lib.hid (H6.alloc (.cells zS 24))
  clear H6 G5
  go_wp2_with fail
  refine (is_c L [115, 101, 116, 32, 114, 49, 32, 51, 48, 48] (by decide) (op := 1) (a := 1) (b := 1) (c := 44) (by3 (by decide)) (by decide) t_set G6.out).mono ?_; rintro e w7 ⟨rfl, H7⟩
  have G7 := Lib.hid H7
  clear H7 G6
  go_wp2_with fail
  refine (is_c L [115, 97, 109, 101, 32, 114, 49, 32, 114, 50, 32, 45, 51] (by decide) (op := 15) (a := 1) (b := 2) (c := 253) (by3 (by decide)) (by decide) t_same G7.out).mono ?_; rintro e w8 ⟨rfl, H8⟩
  have G8 := Lib.hid H8
  clear H8 G7
  go_wp2_with fail
  refine (is_c L [103, 111, 32, 50, 53, 54] (by decide) (op := 19) (a := 1) (b := 0) (c := 0) (by3 (by decide)) (by decide) t_go G8.out).mono ?_; rintro e w9 ⟨rfl, H9⟩
  have G9 := Lib.hid H9
  clear H9 G8
  go_wp2_with fail
  refine (is_c L [97, 115, 107, 32, 50, 48] (by decide) (op := 21) (a := 20) (b := 0) (c := 0) (by3 (by decide)) (by decide) t_ask G9.out).mono ?_; rintro e wa ⟨rfl, HA⟩
  have GA := Lib.hid HA
  clear HA G9
  go_wp2_with fail
  refine (is_c L [108, 111, 97, 100, 32, 114, 55, 32, 114, 48, 32, 50, 53, 53] (by decide) (op := 11) (a := 7) (b := 0) (c := 255) (by3 (by decide)) (by decide) t_load GA.out).mono ?_; rintro e wb ⟨rfl, HB⟩
  have GB := Lib.hid HB
  clear HB GA
  go_wp2_with fail
  refine (is_c L [110, 111, 112] (by decide) (op := 0) (a := 0) (b := 0) (c := 0) (by3 (by decide)) (by decide) t_nop GB.out).mono ?_; rintro e wc ⟨rfl, HC⟩
  have GC := Lib.hid HC
  clear HC GB
  go_wp2
  go_ret
  exact ⟨rfl, GC.out⟩
end Go.Proofs.YtceienodijgllaaDoor
