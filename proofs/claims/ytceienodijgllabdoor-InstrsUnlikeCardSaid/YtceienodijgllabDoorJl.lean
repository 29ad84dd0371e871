/- InstrsUnlike: the law's text. -/
import Derived.Test.YtceienodijgllabDoorJg
set_option linter.unusedVariables false
set_option linter.unusedSimpArgs false
namespace Go.Proofs.YtceienodijgllabDoor
open Go.RowKit Go.Joins Go.Shelf
attribute [local go_sem] Oper.semAt_some

abbrev BI (b : Nat) (op : Nat) (x y z : Int) : Thing := Blk b (.cells #[.int .u8 op, .int .u8 x, .int .u8 y, .int .u8 z] 24 (0, 0))
theorem bi_cells {w0 w : World} {r : List Thing} {b op : Nat} {x y z : Int} (H : Hp w0 w (BI b op x y z :: r)) :
    w.cell? ⟨b, 0, none⟩ = some (.int .u8 op) ∧ w.cell? ⟨b, 1, none⟩ = some (.int .u8 x) ∧ w.cell? ⟨b, 2, none⟩ = some (.int .u8 y) ∧ w.cell? ⟨b, 3, none⟩ = some (.int .u8 z) :=
  ⟨cell_blk (blk_get H) 0, cell_blk (blk_get H) 1, cell_blk (blk_get H) 2, cell_blk (blk_get H) 3⟩
set_option maxHeartbeats 4000000 in
set_option maxRecDepth 20000 in
theorem unlike_c (w : World) (L : Lf w) (op a b c op' a' b' c' : Nat) (hop : op < 256) (ha : a < 256) (hb : b < 256) (hc : c < 256) (hop' : op' < 256) (ha' : a' < 256) (hb' : b' < 256) (hc' : c' < 256) :
    Calls Tryd.prog 4 #[inS op a b c, inS op' a' b' c'] w fun e w' => e = .returned (.bool true) ∧ Below w.heap.size w w' := by
  have h3 : By3 (a : Int) b c := ⟨by omega, by omega, by omega⟩
  have h3' : By3 (a' : Int) b' c' := ⟨by omega, by omega, by omega⟩
  have H1 := blk_new (Hp.start w) (.cells #[.int .u8 op, .int .u8 a, .int .u8 b, .int .u8 c] 24)
  have H2 := Lib.hid (blk_new_at H1 (.cells #[.int .u8 op', .int .u8 a', .int .u8 b', .int .u8 c'] 24) (w.heap.size + 1) (size_alloc1 _ _))
  have HAL : Hid (∀ (W : World) (r : List Thing), Hp w W r → Calls Tryd.prog 7 #[] W fun e w' => e = .returned (.bool true) ∧ Hp w w' r) := Lib.hid (fun W r h => alive_c L h)
  have HTX : Hid (∀ (W : World) (r : List Thing), ck op a b c = true → Hp w W r → Calls Tryd.prog 9 #[inS op a b c] W fun e w' => e = .returned (.tuple #[strv (txo op a b c), .int .i64 0]) ∧ Hp w w' r) := Lib.hid (fun W r hk h => by have := text_c (op := op) L h h3; rw [hk] at this; exact this)
  have HTY : Hid (∀ (W : World) (r : List Thing), ck op' a' b' c' = true → Hp w W r → Calls Tryd.prog 9 #[inS op' a' b' c'] W fun e w' => e = .returned (.tuple #[strv (txo op' a' b' c'), .int .i64 0]) ∧ Hp w w' r) := Lib.hid (fun W r hk h => by have := text_c (op := op') L h h3'; rw [hk] at this; exact this)
  have HIJ : Hid (ck op a b c = true → ck op' a' b' c' = true → (txo op a b c = txo op' a' b' c' ↔ (op = op' ∧ a = a' ∧ b = b' ∧ c = c'))) := Lib.hid (fun k1 k2 => ⟨fun h => by have := txo_inj h3 h3' k1 k2 h; omega, by rintro ⟨rfl, rfl, rfl, rfl⟩; rfl⟩)
  have HCX : Hid (∀ (W : World) (r : List Thing), Hp w W r → Calls Tryd.prog 8 #[inS op a b c] W fun e w' => e = .returned (.bool (ck op a b c)) ∧ Hp w w' r) := Lib.hid (fun W r h => check_c h h3)
  have HCY : Hid (∀ (W : World) (r : List Thing), Hp w W r → Calls Tryd.prog 8 #[inS op' a' b' c'] W fun e w' => e = .returned (.bool (ck op' a' b' c')) ∧ Hp w w' r) := Lib.hid (fun W r h => check_c h h3')
  clear H1 L h3 h3' hop ha hb hc hop' ha' hb' hc'
  go_enter Tryd.func4, Tryd.ntmps4
  go_upto_region 1 with fail
  generalize ((w.alloc (.cells #[.int .u8 op, .int .u8 a, .int .u8 b, .int .u8 c] 24)).alloc (.cells #[.int .u8 op', .int .u8 a', .int .u8 b', .int .u8 c'] 24)) = w1 at *
  generalize hxb : w.heap.size = xb at *
  clear hxb
  go_wp2_with fail
  refine (HAL.out _ _ H2.out).mono ?_; rintro e w2 ⟨rfl, H3⟩
  obtain ⟨y0, y1, y2, y3⟩ := bi_cells H3
  obtain ⟨x0, x1, x2, x3⟩ := bi_cells (H3.pull 1 rfl)
  have H4 := Lib.hid H3
  clear H3 H2
  go_wp2_with fail
  refine (HCX.out _ _ H4.out).mono ?_
  clear x0 x1 x2 x3 y0 y1 y2 y3 HCX
  cases hk : ck op a b c with
  | false =>
    rintro e w3 ⟨rfl, H5⟩
    have H6 := Lib.hid H5
    clear H5 H4
    go_wp2_with fail
    refine (HAL.out _ _ H6.out).mono ?_; rintro e w4 ⟨rfl, H7⟩
    have H8 := Lib.hid H7
    clear H7 H6
    go_wp2
    go_ret
    exact ⟨rfl, H8.out.below⟩
  | true =>
    rintro e w3 ⟨rfl, H5⟩
    have H6 := Lib.hid H5
    obtain ⟨y0, y1, y2, y3⟩ := bi_cells H5
    clear H5 H4
    go_wp2_with fail
    refine (HCY.out _ _ H6.out).mono ?_
    clear y0 y1 y2 y3 HCY
    cases hk' : ck op' a' b' c' with
    | false =>
      rintro e w4 ⟨rfl, H7⟩
      have H8 := Lib.hid H7
      clear H7 H6
      go_wp2_with fail
      refine (HAL.out _ _ H8.out).mono ?_; rintro e w5 ⟨rfl, H9⟩
      have HA := Lib.hid H9
      clear H9 H8
      go_wp2
      go_ret
      exact ⟨rfl, HA.out.below⟩
    | true =>
      rintro e w4 ⟨rfl, H7⟩
      have H8 := Lib.hid H7
      obtain ⟨x0, x1, x2, x3⟩ := bi_cells (H7.pull 1 rfl)
      have hij := Lib.hid (HIJ.out hk hk')
      clear H7 H6 HIJ
      go_wp2_with fail
      refine (HTX.out _ _ hk H8.out).mono ?_; rintro e w5 ⟨rfl, H9⟩
      have HA := Lib.hid H9
      obtain ⟨y0, y1, y2, y3⟩ := bi_cells H9
      clear H9 H8 x0 x1 x2 x3 HTX hk
      go_wp2_with fail
      refine (HTY.out _ _ hk' HA.out).mono ?_; rintro e w6 ⟨rfl, HB⟩
      have HC := Lib.hid HB
      clear y0 y1 y2 y3 HTY HA hk'
      obtain ⟨y0, y1, y2, y3⟩ := bi_cells HB
      obtain ⟨x0, x1, x2, x3⟩ := bi_cells (HB.pull 1 rfl)
      clear HB
      by_cases heq : op = op' ∧ a = a' ∧ b = b' ∧ c = c'
      · obtain ⟨rfl, rfl, rfl, rfl⟩ := heq
        go_wp2
        go_ret
        exact ⟨by simp, HC.out.below⟩
      · have hne : (txo op a b c == txo op' a' b' c') = false := by rw [beq_eq_false_iff_ne]; exact fun h => heq (hij.out.1 h)
        generalize txo op a b c = t1 at *
        generalize txo op' a' b' c' = t2 at *
        go_wp2
        all_goals go_ret
        all_goals exact ⟨by first | rfl | simp, HC.out.below⟩
end Go.Proofs.YtceienodijgllabDoor
