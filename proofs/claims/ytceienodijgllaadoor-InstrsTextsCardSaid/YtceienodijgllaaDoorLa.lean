/- InstrsTexts: the law's text. -/
import Derived.Test.YtceienodijgllaaDoorJg
import Derived.Test.YtceienodijgllaaDoorJy
import Derived.Test.YtceienodijgllaaDoorJz
set_option linter.unusedVariables false
set_option linter.unusedSimpArgs false
namespace Go.Proofs.YtceienodijgllaaDoor
open Go.RowKit Go.Joins Go.Shelf
attribute [local go_sem] Oper.semAt_some

abbrev BI (b : Nat) (op : Nat) (x y z : Int) : Thing := Blk b (.cells #[.int .u8 op, .int .u8 x, .int .u8 y, .int .u8 z] 24 (0, 0))
theorem bi_cells {w0 w : World} {r : List Thing} {b op : Nat} {x y z : Int} (H : Hp w0 w (BI b op x y z :: r)) :
    w.cell? ⟨b, 0, none⟩ = some (.int .u8 op) ∧ w.cell? ⟨b, 1, none⟩ = some (.int .u8 x) ∧ w.cell? ⟨b, 2, none⟩ = some (.int .u8 y) ∧ w.cell? ⟨b, 3, none⟩ = some (.int .u8 z) :=
  ⟨cell_blk (blk_get H) 0, cell_blk (blk_get H) 1, cell_blk (blk_get H) 2, cell_blk (blk_get H) 3⟩
set_option maxHeartbeats 2000000 in
set_option maxRecDepth 20000 in
/-- Is it more than is gone through? -/
theorem beyond_c {w0 w : World} {r : List Thing} {g : Nat} (n : Nat) (hn : n < 9223372036854775808) (H : Hp w0 w (Blk g (.cells #[.int .i64 n] 3 (0, 0)) :: r)) :
    Calls Tryd.prog 13 #[.slice (some ⟨g, 0, none⟩) 1 1] w fun e w' => e = .returned (.bool (decide (1048576 < n))) ∧ Hp w0 w' r := by
  have hc : w.cell? ⟨g, 0, none⟩ = some (.int .i64 n) := cell_blk (blk_get H) 0
  have HH := Lib.hid H.tail
  clear H
  go_enter Tryd.func13, Tryd.ntmps13
  go_wp2
  go_loop [3, 4] (fun s i => (s = .int .i64 0 ∧ i = .int .i64 0) ∨ (s = .int .i64 n ∧ i = .int .i64 1 ∧ ¬ (1048576 : Int) < (n : Int))) (fun _ i => 2 - (intOf i).toNat)
  case atStart => exact Or.inl ⟨rfl, rfl⟩
  case round =>
    obtain ⟨rfl, rfl⟩ | ⟨rfl, rfl, hle⟩ := hrel
    · have hw : IntKind.i64.wrap (n : Int) = n := by rw [IntKind.wrap_i64]; omega
      by_cases h : 1048576 < n
      · have h' : (1048576 : Int) < (n : Int) := by omega
        have hd : decide (1048576 < n) = true := by simp [h]
        go_wp2
        go_ret
        exact ⟨rfl, HH.out⟩
      · have h' : ¬ (1048576 : Int) < (n : Int) := by omega
        clear h hn
        go_wp2
        go_round
        case rel => exact Or.inr ⟨rfl, rfl, h'⟩
        case measure => simp [intOf]
    · have hd : decide (1048576 < n) = false := by simp; omega
      go_wp2
      go_ret
      exact ⟨rfl, HH.out⟩
set_option maxHeartbeats 4000000 in
set_option maxRecDepth 20000 in
theorem rtext_no {w0 w : World} {r : List Thing} {op : Nat} {a b c : Int} (H : Hp w0 w r) (hb : By3 a b c) (hop : op < 256) (hk : ck op a b c = false) :
    Calls Tryd.prog 15 #[inS op a b c] w fun e w' => e = .returned (.tuple #[strv [], .int .i64 1]) ∧ Hp w0 w' r := by
  have HX := Lib.hid (blk_new H (.cells #[.int .u8 op, .int .u8 a, .int .u8 b, .int .u8 c] 24))
  have HC := rcheck_c (op := op) HX.out hb hop
  rw [hk] at HC
  have HCK := Lib.hid HC
  clear H HC hk
  go_enter Tryd.func15, Tryd.ntmps15
  go_wp2_with fail
  refine HCK.out.mono ?_; rintro e w2 ⟨rfl, H2⟩
  have H3 := Lib.hid H2
  clear H2 HCK HX
  go_wp2
  go_ret2
  exact ⟨rfl, H3.out.tail⟩
theorem rtext_c {w0 w : World} {r : List Thing} {op : Nat} {a b c : Int} (H : Hp w0 w r) (hb : By3 a b c) (hop : op < 256) :
    Calls Tryd.prog 15 #[inS op a b c] w fun e w' => e = .returned (.tuple #[strv (txo op a b c), .int .i64 (if ck op a b c then 0 else 1)]) ∧ Hp w0 w' r := by
  cases hk : ck op a b c with
  | true => exact rtext_yes H hb hop hk
  | false =>
    have h2 : flds op a b c = none := by have := flds_ck (op := op) hb; rw [hk] at this; simpa using this
    have : txo op a b c = [] := by unfold txo; rw [h2]
    rw [this]
    exact rtext_no H hb hop hk
theorem pvv_agg2 (o : Option (Nat × List Int)) : ∃ (u0 : Nat) (u1 u2 u3 : Int), pvv o = .agg #[.int .u8 u0, .int .u8 u1, .int .u8 u2, .int .u8 u3] := by
  cases o with
  | none => exact ⟨0, 0, 0, 0, rfl⟩
  | some ob => obtain ⟨o, bs⟩ := ob; exact ⟨_, _, _, _, rfl⟩
set_option maxHeartbeats 8000000 in
set_option maxRecDepth 20000 in
theorem texts_c (w : World) (L : Lf w) (op a b c : Nat) (s : List UInt8) (hsl : s.length < 9223372036854775808) (hop : op < 256) (ha : a < 256) (hb : b < 256) (hc : c < 256) :
    Calls Tryd.prog 4 #[inS op a b c, strv s] w fun e w' => e = .returned (.bool true) ∧ Below w.heap.size w w' := by
  have h3 : By3 (a : Int) b c := ⟨by omega, by omega, by omega⟩
  have H1 := Lib.hid (blk_new_at (blk_new (Hp.start w) (.cells #[.int .u8 op, .int .u8 a, .int .u8 b, .int .u8 c] 24)) (.cells #[.int .i64 s.length] 3) (w.heap.size + 1) (size_alloc1 _ _))
  have HBY := Lib.hid (beyond_c s.length hsl H1.out)
  have HTX : Hid (∀ (W : World) (r : List Thing), Hp w W r → Calls Tryd.prog 14 #[inS op a b c] W fun e w' => e = .returned (.tuple #[strv (txo op a b c), .int .i64 (if ck op a b c then 0 else 1)]) ∧ Hp w w' r) := Lib.hid (fun W r h => text_c (op := op) L h h3)
  have HTY : Hid (∀ (W : World) (r : List Thing), Hp w W r → Calls Tryd.prog 15 #[inS op a b c] W fun e w' => e = .returned (.tuple #[strv (txo op a b c), .int .i64 (if ck op a b c then 0 else 1)]) ∧ Hp w w' r) := Lib.hid (fun W r h => rtext_c (op := op) h h3 hop)
  have L' := Lib.hid L
  clear L hsl h3
  go_enter Tryd.func4, Tryd.ntmps4
  go_wp2_with fail
  refine HBY.out.mono ?_
  by_cases hbig : 1048576 < s.length
  · have hd : decide (1048576 < s.length) = true := by simp [hbig]
    rw [hd]
    rintro e w3 ⟨rfl, H6⟩
    have H7 := Lib.hid H6
    clear H6 H1 HBY
    go_wp2
    go_ret
    exact ⟨rfl, H7.out.below⟩
  have hd : decide (1048576 < s.length) = false := by simp [hbig]
  rw [hd]
  have HPA : Hid (∀ (W : World) (r : List Thing), Hp w W r → Calls Tryd.prog 16 #[strv s] W fun e w' => e = .returned (.tuple #[pvv (prs s), .int .i64 (if (prs s).isSome then 0 else 14)]) ∧ Hp w w' r) := Lib.hid (fun W r h => parse_c L'.out s (by omega) h)
  have HPB : Hid (∀ (W : World) (r : List Thing), Hp w W r → Calls Tryd.prog 17 #[strv s] W fun e w' => e = .returned (.tuple #[pvv (prs s), .int .i64 (if (prs s).isSome then 0 else 14)]) ∧ Hp w w' r) := Lib.hid (fun W r h => rparse_c s (by omega) h)
  generalize (if (prs s).isSome then (0 : Int) else 14) = er at *
  obtain ⟨u0, u1, u2, u3, hu⟩ := pvv_agg2 (prs s)
  rw [hu] at HPA HPB
  generalize txo op a b c = t at *
  generalize (if ck op a b c = true then (0 : Int) else 1) = et at *
  rintro e w3 ⟨rfl, H6⟩
  have H7 := Lib.hid H6
  have bx := blk_get H6
  have x0 : w3.cell? ⟨w.heap.size, 0, none⟩ = some (.int .u8 op) := cell_blk bx 0
  have x1 : w3.cell? ⟨w.heap.size, 1, none⟩ = some (.int .u8 a) := cell_blk bx 1
  have x2 : w3.cell? ⟨w.heap.size, 2, none⟩ = some (.int .u8 b) := cell_blk bx 2
  have x3 : w3.cell? ⟨w.heap.size, 3, none⟩ = some (.int .u8 c) := cell_blk bx 3
  clear H6 H1 HBY hbig hd hu bx
  go_wp2_with fail
  refine (HTX.out _ _ H7.out).mono ?_; rintro e w4 ⟨rfl, H8⟩
  have H9 := Lib.hid H8
  have bx := blk_get H8
  clear x0 x1 x2 x3 H7 H8 HTX
  have x0 : w4.cell? ⟨w.heap.size, 0, none⟩ = some (.int .u8 op) := cell_blk bx 0
  have x1 : w4.cell? ⟨w.heap.size, 1, none⟩ = some (.int .u8 a) := cell_blk bx 1
  have x2 : w4.cell? ⟨w.heap.size, 2, none⟩ = some (.int .u8 b) := cell_blk bx 2
  have x3 : w4.cell? ⟨w.heap.size, 3, none⟩ = some (.int .u8 c) := cell_blk bx 3
  clear bx
  go_wp2_with fail
  refine (HTY.out _ _ H9.out).mono ?_; rintro e w5 ⟨rfl, HA⟩
  have HB := Lib.hid HA
  clear x0 x1 x2 x3 H9 HA HTY
  go_wp2_with fail
  refine (HPA.out _ _ HB.out).mono ?_; rintro e w6 ⟨rfl, HC⟩
  have HD := Lib.hid (blk_new HC (.cells #[.int .u8 u0, .int .u8 u1, .int .u8 u2, .int .u8 u3] 24))
  clear HC HB HPA
  go_wp2_with fail
  refine (HPB.out _ _ HD.out).mono ?_; rintro e w7 ⟨rfl, HE⟩
  have HF := Lib.hid (blk_new HE (.cells #[.int .u8 u0, .int .u8 u1, .int .u8 u2, .int .u8 u3] 24))
  clear HE HD HPB
  obtain ⟨z0, z1, z2, z3⟩ := bi_cells HF.out
  obtain ⟨y0, y1, y2, y3⟩ := bi_cells (HF.out.pull 1 rfl)
  go_wp2
  go_ret
  exact ⟨by first | rfl | simp, HF.out.below⟩
end Go.Proofs.YtceienodijgllaaDoor
