/- InstrsBack: the law's text. -/
import Derived.Test.YtceienodijgllabDoorJg
import Derived.Test.YtceienodijgllabDoorJm
set_option linter.unusedVariables false
set_option linter.unusedSimpArgs false
namespace Go.Proofs.YtceienodijgllabDoor
open Go.RowKit Go.Joins Go.Shelf
attribute [local go_sem] Oper.semAt_some

abbrev BI (b : Nat) (op : Nat) (x y z : Int) : Thing := Blk b (.cells #[.int .u8 op, .int .u8 x, .int .u8 y, .int .u8 z] 24 (0, 0))
theorem bi_cells {w0 w : World} {r : List Thing} {b op : Nat} {x y z : Int} (H : Hp w0 w (BI b op x y z :: r)) :
    w.cell? ⟨b, 0, none⟩ = some (.int .u8 op) ∧ w.cell? ⟨b, 1, none⟩ = some (.int .u8 x) ∧ w.cell? ⟨b, 2, none⟩ = some (.int .u8 y) ∧ w.cell? ⟨b, 3, none⟩ = some (.int .u8 z) :=
  ⟨cell_blk (blk_get H) 0, cell_blk (blk_get H) 1, cell_blk (blk_get H) 2, cell_blk (blk_get H) 3⟩
set_option maxHeartbeats 2000000 in
set_option maxRecDepth 20000 in
/-- Is it more than is gone through? -/
theorem beyond_c {w0 w : World} {r : List Thing} {g : Nat} (n : Nat) (hn : n < 9223372036854775808) (H : Hp w0 w (Blk g (.cells #[.int .i64 n] 3 (0, 0)) :: r)) :
    Calls Tryd.prog 11 #[.slice (some ⟨g, 0, none⟩) 1 1] w fun e w' => e = .returned (.bool (decide (1048576 < n))) ∧ Hp w0 w' r := by
  have hc : w.cell? ⟨g, 0, none⟩ = some (.int .i64 n) := cell_blk (blk_get H) 0
  have HH := Lib.hid H.tail
  clear H
  go_enter Tryd.func11, Tryd.ntmps11
  go_wp2
  go_loop [3, 4] (fun s i => (s = .int .i64 0 ∧ i = .int .i64 0) ∨ (s = .int .i64 n ∧ i = .int .i64 1 ∧ ¬ (1048576 : Int) < (n : Int))) (fun _ i => 2 - (intOf i).toNat)
  case atStart => exact Or.inl ⟨rfl, rfl⟩
  case round =>
    obtain ⟨rfl, rfl⟩ | ⟨rfl, rfl, hle⟩ := hrel
    · have hw : IntKind.i64.wrap (n : Int) = n := by rw [IntKind.wrap_i64]; omega
      by_cases h : 1048576 < n
      · have h' : (1048576 : Int) < (n : Int) := by omega
        have hd : decide (1048576 < n) = true := by simp [h]
        go_wp2
        go_ret
        exact ⟨rfl, HH.out⟩
      · have h' : ¬ (1048576 : Int) < (n : Int) := by omega
        clear h hn
        go_wp2
        go_round
        case rel => exact Or.inr ⟨rfl, rfl, h'⟩
        case measure => simp [intOf]
    · have hd : decide (1048576 < n) = false := by simp; omega
      go_wp2
      go_ret
      exact ⟨rfl, HH.out⟩
theorem flat_len {cs : List UInt8} : ∀ {l : List Int}, mays cs l → ((txs cs l).flatMap (32 :: ·)).length ≤ 31 * cs.length := by
  induction cs with
  | nil => intro l _; simp [txs]
  | cons c cs ih =>
    intro l h
    cases l with
    | nil => exact h.elim
    | cons n ns =>
      have := tx_len h.1
      have := ih h.2
      simp [txs] at *
      omega
theorem txo_len' {op : Nat} {a b c : Int} (hb : By3 a b c) (hk : ck op a b c = true) : (txo op a b c).length ≤ 200 := by
  obtain ⟨h22, l, hm, ht, hs, hl⟩ := txo_spl hb hk
  have h1 := flat_len hm
  have h2 := wl_len op
  have h3 := fl_len op
  rw [ht]
  unfold txt jn
  rw [List.length_append]
  omega
theorem txo_len {op : Nat} {a b c : Int} (hb : By3 a b c) (hk : ck op a b c = true) : (txo op a b c).length < 4294967281 := by
  obtain ⟨h22, l, hm, ht, hs, hl⟩ := txo_spl hb hk
  have h1 := flat_len hm
  have h2 := wl_len op
  have h3 := fl_len op
  rw [ht]
  unfold txt jn
  rw [List.length_append]
  omega
set_option maxHeartbeats 8000000 in
set_option maxRecDepth 20000 in
theorem back_c (w : World) (L : Lf w) (op a b c : Nat) (s : List UInt8) (hsl : s.length < 9223372036854775808) (hop : op < 256) (ha : a < 256) (hb : b < 256) (hc : c < 256) :
    Calls Tryd.prog 6 #[inS op a b c, strv s] w fun e w' => e = .returned (.bool true) ∧ Below w.heap.size w w' := by
  have h3 : By3 (a : Int) b c := ⟨by omega, by omega, by omega⟩
  have H1 := Lib.hid (blk_new (Hp.start w) (.cells #[.int .u8 op, .int .u8 a, .int .u8 b, .int .u8 c] 24))
  have HAL : Hid (∀ (W : World) (r : List Thing), Hp w W r → Calls Tryd.prog 7 #[] W fun e w' => e = .returned (.bool true) ∧ Hp w w' r) := Lib.hid (fun W r h => alive_c L h)
  have HCX : Hid (∀ (W : World) (r : List Thing), Hp w W r → Calls Tryd.prog 8 #[inS op a b c] W fun e w' => e = .returned (.bool (ck op a b c)) ∧ Hp w w' r) := Lib.hid (fun W r h => check_c h h3)
  have HPX : Hid (∀ (W : World) (r : List Thing), Hp w W r → Calls Tryd.prog 12 #[inS op a b c] W fun e w' => e = .returned (inS op a b c) ∧ Hp w w' r) := Lib.hid (fun W r h => put_c h)
  have HGX : Hid (∀ (W : World) (r : List Thing), Hp w W r → Calls Tryd.prog 13 #[inS op a b c] W fun e w' => e = .returned (.tuple #[if ck op a b c then inS op a b c else .agg zS, .int .i64 (if ck op a b c then 0 else 14)]) ∧ Hp w w' r) := Lib.hid (fun W r h => by
    by_cases hk : ck op a b c = true
    · rw [if_pos hk, if_pos hk]; exact get_yes h h3 hk
    · rw [if_neg hk, if_neg hk]; exact get_no h h3 (by simpa using hk))
  have HTX : Hid (∀ (W : World) (r : List Thing), Hp w W r → Calls Tryd.prog 9 #[inS op a b c] W fun e w' => e = .returned (.tuple #[strv (txo op a b c), .int .i64 (if ck op a b c then 0 else 1)]) ∧ Hp w w' r) := Lib.hid (fun W r h => text_c (op := op) L h h3)
  have HPA : Hid (∀ (W : World) (r : List Thing) (t : List UInt8), t.length < 4294967281 → Hp w W r → Calls Tryd.prog 10 #[strv t] W fun e w' => e = .returned (.tuple #[pvv (prs t), .int .i64 (if (prs t).isSome then 0 else 14)]) ∧ Hp w w' r) := Lib.hid (fun W r t ht h => parse_c L t ht h)
  have HBY : Hid (∀ (W : World) (r : List Thing) (g : Nat), Hp w W (Blk g (.cells #[.int .i64 s.length] 3 (0, 0)) :: r) → Calls Tryd.prog 11 #[.slice (some ⟨g, 0, none⟩) 1 1] W fun e w' => e = .returned (.bool (decide (1048576 < s.length))) ∧ Hp w w' r) := Lib.hid (fun W r g h => beyond_c s.length hsl h)
  have L' := Lib.hid L
  clear L hsl
  go_enter Tryd.func6, Tryd.ntmps6
  go_upto_region 1 with fail
  generalize (w.alloc (.cells #[.int .u8 op, .int .u8 a, .int .u8 b, .int .u8 c] 24)) = w1 at *
  generalize hxb : w.heap.size = xb at *
  clear hxb
  go_wp2_with fail
  refine (HAL.out _ _ H1.out).mono ?_; rintro e w2 ⟨rfl, H3⟩
  have H4 := Lib.hid H3
  clear H3 H1
  have H5 := Lib.hid (blk_new H4.out (.cells #[.int .i64 s.length] 3))
  clear H4
  go_wp2_with fail
  refine (HBY.out _ _ _ H5.out).mono ?_
  have HDX : ∀ (W : World) (r : List Thing), Hid (Hp w W (BI xb op a b c :: r)) → (W.cell? ⟨xb, 0, none⟩ = some (.int .u8 op) ∧ W.cell? ⟨xb, 1, none⟩ = some (.int .u8 a) ∧ W.cell? ⟨xb, 2, none⟩ = some (.int .u8 b) ∧ W.cell? ⟨xb, 3, none⟩ = some (.int .u8 c)) := fun W r h => bi_cells h.out
  by_cases hbig : 1048576 < s.length
  · have hd : decide (1048576 < s.length) = true := by simp [hbig]
    rw [hd]
    rintro e w3 ⟨rfl, H6⟩
    have H7 := Lib.hid H6
    clear H6 H5
    go_wp2_with fail
    refine (HAL.out _ _ H7.out).mono ?_; rintro e w4 ⟨rfl, H8⟩
    have H9 := Lib.hid H8
    clear H8 H7
    go_wp2
    go_ret
    exact ⟨rfl, H9.out.below⟩
  have hd : decide (1048576 < s.length) = false := by simp [hbig]
  rw [hd]
  have HSL : Hid (s.length < 4294967281) := Lib.hid (by omega)
  have HOF := Lib.hid (fun o bs (h : prs s = some (o, bs)) => of_prs h)
  rintro e w3 ⟨rfl, H6⟩
  have H7 := Lib.hid H6
  clear H6 H5 hbig hd HAL HBY
  obtain ⟨x0, x1, x2, x3⟩ := HDX _ _ H7
  go_wp2_with fail
  refine (HPX.out _ _ H7.out).mono ?_; rintro e w4 ⟨rfl, H8⟩
  have H9 := Lib.hid (blk_new H8 (.cells #[.int .u8 op, .int .u8 a, .int .u8 b, .int .u8 c] 36))
  clear H8 H7 x0 x1 x2 x3 HPX
  cases hk : ck op a b c with
  | false =>
    rw [hk] at HGX HTX HCX
    simp only [Bool.false_eq_true, if_false] at HGX HTX
    have x0 := cell_blk (blk_get H9.out) 0
    have x1 := cell_blk (blk_get H9.out) 1
    have x2 := cell_blk (blk_get H9.out) 2
    have x3 := cell_blk (blk_get H9.out) 3
    simp at x0 x1 x2 x3
    go_wp2_with fail
    refine (HGX.out _ _ H9.out).mono ?_; rintro e w5 ⟨rfl, HA⟩
    have HB := Lib.hid (blk_new HA (.cells zS 24))
    clear HA H9 x0 x1 x2 x3 HGX
    obtain ⟨x0, x1, x2, x3⟩ := HDX _ _ (Lib.hid (HB.out.pull 2 rfl))
    go_wp2_with fail
    refine (HTX.out _ _ HB.out).mono ?_; rintro e w6 ⟨rfl, HA⟩
    have HC := Lib.hid HA
    clear HA HB x0 x1 x2 x3 HTX
    have hte : txo op a b c = [] := by
      have h2 : flds op (a : Int) b c = none := by have := flds_ck (op := op) h3; rw [hk] at this; simpa using this
      unfold txo; rw [h2]
    rw [hte]
    clear hte
    obtain ⟨x0, x1, x2, x3⟩ := HDX _ _ (Lib.hid (HC.out.pull 2 rfl))
    go_wp2_with fail
    refine (HCX.out _ _ HC.out).mono ?_; rintro e w7 ⟨rfl, HA⟩
    have HN := Lib.hid HA
    clear HA HC x0 x1 x2 x3 HCX HDX h3
    go_wp2_with fail
    refine (HPA.out _ _ s HSL.out HN.out).mono ?_; rintro e wp ⟨rfl, HP⟩
    cases hps : prs s with
    | none =>
      rw [hps] at HOF
      have HQ := Lib.hid (blk_new HP (.cells zS 24))
      clear HP HN
      have z0 := cell_blk (blk_get HQ.out) 0
      have z1 := cell_blk (blk_get HQ.out) 1
      have z2 := cell_blk (blk_get HQ.out) 2
      have z3 := cell_blk (blk_get HQ.out) 3
      simp at z0 z1 z2 z3
      simp only [pvv, Option.isSome_none, Bool.false_eq_true, if_false]
      go_wp2
      go_ret
      exact ⟨rfl, HQ.out.below⟩
    | some ob =>
      obtain ⟨o, bs⟩ := ob
      obtain ⟨a', b', c', hb', hr, hk', ht', h22⟩ := HOF.out o bs hps
      have hv : pvv (some (o, bs)) = inS o a' b' c' := hr
      have HQ := Lib.hid (blk_new HP (.cells #[.int .u8 o, .int .u8 a', .int .u8 b', .int .u8 c'] 24))
      have HT2 := Lib.hid (text_c (op := o) L'.out HQ.out hb')
      rw [hk', ht'] at HT2
      rw [hv]
      clear HP HN hps hr
      simp only [Option.isSome_some, if_true]
      obtain ⟨z0, z1, z2, z3⟩ := bi_cells HQ.out
      go_wp2_with fail
      refine HT2.out.mono ?_; rintro e wt ⟨rfl, HR⟩
      have HS := Lib.hid HR
      clear HT2 z0 z1 z2 z3 HQ
      obtain ⟨z0, z1, z2, z3⟩ := bi_cells HR
      have HC2 := Lib.hid (check_c (op := o) HR hb')
      rw [hk'] at HC2
      clear HR
      simp only [if_true]
      go_wp2_with fail
      refine HC2.out.mono ?_; rintro e wu ⟨rfl, HU⟩
      have HV := Lib.hid HU
      clear HC2 HU HS z0 z1 z2 z3
      go_wp2
      go_ret
      exact ⟨by simp, HV.out.below⟩
  | true =>
    rw [hk] at HGX HTX HCX
    simp only [if_true] at HGX HTX
    obtain ⟨bs0, hp1, hp2⟩ := prs_of h3 hk
    have hpx : pvv (prs (txo op a b c)) = inS op a b c := by rw [hp1]; exact hp2
    have hpi : (prs (txo op a b c)).isSome = true := by rw [hp1]; rfl
    have HTL : Hid ((txo op a b c).length < 4294967281) := Lib.hid (txo_len h3 hk)
    clear hp1 hp2
    have x0 := cell_blk (blk_get H9.out) 0
    have x1 := cell_blk (blk_get H9.out) 1
    have x2 := cell_blk (blk_get H9.out) 2
    have x3 := cell_blk (blk_get H9.out) 3
    simp at x0 x1 x2 x3
    go_wp2_with fail
    refine (HGX.out _ _ H9.out).mono ?_; rintro e w5 ⟨rfl, HA⟩
    have HB := Lib.hid (blk_new HA (.cells #[.int .u8 op, .int .u8 a, .int .u8 b, .int .u8 c] 24))
    clear HA H9 x0 x1 x2 x3 HGX
    obtain ⟨x0, x1, x2, x3⟩ := HDX _ _ (Lib.hid (HB.out.pull 2 rfl))
    go_wp2_with fail
    refine (HTX.out _ _ HB.out).mono ?_; rintro e w6 ⟨rfl, HA⟩
    have HC := Lib.hid HA
    clear HA HB x0 x1 x2 x3 HTX
    obtain ⟨x0, x1, x2, x3⟩ := HDX _ _ (Lib.hid (HC.out.pull 2 rfl))
    go_wp2_with fail
    refine (HCX.out _ _ HC.out).mono ?_; rintro e w7 ⟨rfl, HA⟩
    have HD := Lib.hid HA
    clear HA HC x0 x1 x2 x3 HCX h3
    go_wp2_with fail
    refine (HPA.out _ _ _ HTL.out HD.out).mono ?_; rintro e w8 ⟨rfl, HA⟩
    rw [hpx, hpi]
    have HN := Lib.hid (blk_new HA (.cells #[.int .u8 op, .int .u8 a, .int .u8 b, .int .u8 c] 24))
    clear HA HD hpx hpi HTL
    simp only [if_true]
    obtain ⟨x0, x1, x2, x3⟩ := HDX _ _ (Lib.hid (HN.out.pull 3 rfl))
    obtain ⟨y0, y1, y2, y3⟩ := bi_cells (HN.out.pull 1 rfl)
    obtain ⟨z0, z1, z2, z3⟩ := bi_cells HN.out
    go_wp2_with fail
    clear x0 x1 x2 x3 y0 y1 y2 y3 z0 z1 z2 z3
    refine (HPA.out _ _ s HSL.out HN.out).mono ?_; rintro e wp ⟨rfl, HP⟩
    cases hps : prs s with
    | none =>
      rw [hps] at HOF
      have HQ := Lib.hid (blk_new HP (.cells zS 24))
      clear HP HN
      have z0 := cell_blk (blk_get HQ.out) 0
      have z1 := cell_blk (blk_get HQ.out) 1
      have z2 := cell_blk (blk_get HQ.out) 2
      have z3 := cell_blk (blk_get HQ.out) 3
      simp at z0 z1 z2 z3
      simp only [pvv, Option.isSome_none, Bool.false_eq_true, if_false]
      go_wp2
      go_ret
      exact ⟨rfl, HQ.out.below⟩
    | some ob =>
      obtain ⟨o, bs⟩ := ob
      obtain ⟨a', b', c', hb', hr, hk', ht', h22⟩ := HOF.out o bs hps
      have hv : pvv (some (o, bs)) = inS o a' b' c' := hr
      have HQ := Lib.hid (blk_new HP (.cells #[.int .u8 o, .int .u8 a', .int .u8 b', .int .u8 c'] 24))
      have HT2 := Lib.hid (text_c (op := o) L'.out HQ.out hb')
      rw [hk', ht'] at HT2
      rw [hv]
      clear HP HN hps hr
      simp only [Option.isSome_some, if_true]
      obtain ⟨z0, z1, z2, z3⟩ := bi_cells HQ.out
      go_wp2_with fail
      refine HT2.out.mono ?_; rintro e wt ⟨rfl, HR⟩
      have HS := Lib.hid HR
      clear HT2 z0 z1 z2 z3 HQ
      obtain ⟨z0, z1, z2, z3⟩ := bi_cells HR
      have HC2 := Lib.hid (check_c (op := o) HR hb')
      rw [hk'] at HC2
      clear HR
      simp only [if_true]
      go_wp2_with fail
      refine HC2.out.mono ?_; rintro e wu ⟨rfl, HU⟩
      have HV := Lib.hid HU
      clear HC2 HU HS z0 z1 z2 z3
      go_wp2
      go_ret
      exact ⟨by simp, HV.out.below⟩
end Go.Proofs.YtceienodijgllabDoor
