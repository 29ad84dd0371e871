/- InstrsOdd: the law's text. -/
import Derived.Test.YtceienodijgllabDoorJp
import Derived.Laws.IdiomStrings
set_option linter.unusedVariables false
set_option linter.unusedSimpArgs false
namespace Go.Proofs.YtceienodijgllabDoor
open Go.RowKit Go.Joins Go.Shelf
attribute [local go_sem] Oper.semAt_some

theorem conv1 (W : World) (n x : Nat) (hx : x < 256) (hn : n = W.heap.size) : (convert 32 9 (.slice (some ⟨n, 0, none⟩) 1 1)).run Tryd.prog (W.alloc (.cells #[.int .u8 x] 5)) = .ok (strv [UInt8.ofNat x]) (W.alloc (.cells #[.int .u8 x] 5)) := by
  subst hn
  refine Go.run_convert_bytes_back _ _ _ 5 ⟨W.heap.size, 0, none⟩ 1 [UInt8.ofNat x] Tryd.underlying32 Tryd.underlying5 Tryd.underlying9 (fun j hj => ?_)
  obtain rfl : j = 0 := by simpa using hj
  have := cell_blk (blk_alloc_new W (.cells #[.int .u8 x] 5 (0, 0))) 0
  rw [show (⟨W.heap.size, 0, none⟩ : Addr).add 0 = ⟨W.heap.size, 0, none⟩ from rfl, this]
  have hx8 : (UInt8.ofNat x).toNat = x := by simp; omega
  simp only [List.getElem_cons_zero, hx8]; rfl
theorem pvv_agg (o : Option (Nat × List Int)) : ∃ u0 u1 u2 u3 : Int, pvv o = .agg #[.int .u8 u0, .int .u8 u1, .int .u8 u2, .int .u8 u3] := by
  cases o with
  | none => exact ⟨0, 0, 0, 0, rfl⟩
  | some ob => obtain ⟨o, bs⟩ := ob; exact ⟨_, _, _, _, rfl⟩
set_option maxHeartbeats 8000000 in
set_option maxRecDepth 20000 in
theorem odd_c (w : World) (L : Lf w) (op a b c x : Nat) (hop : op < 256) (ha : a < 256) (hb : b < 256) (hc : c < 256) (hx : x < 256) :
    Calls Tryd.prog 3 #[inS op a b c, .int .u8 x] w fun e w' => e = .returned (.bool true) ∧ Below w.heap.size w w' := by
  have h3 : By3 (a : Int) b c := ⟨by omega, by omega, by omega⟩
  have H1 := Lib.hid (blk_new (Hp.start w) (.cells #[.int .u8 op, .int .u8 a, .int .u8 b, .int .u8 c] 24))
  have HAL : Hid (∀ (W : World) (r : List Thing), Hp w W r → Calls Tryd.prog 7 #[] W fun e w' => e = .returned (.bool true) ∧ Hp w w' r) := Lib.hid (fun W r h => alive_c L h)
  have HCX : Hid (∀ (W : World) (r : List Thing), Hp w W r → Calls Tryd.prog 8 #[inS op a b c] W fun e w' => e = .returned (.bool (ck op a b c)) ∧ Hp w w' r) := Lib.hid (fun W r h => check_c h h3)
  have HTX : Hid (∀ (W : World) (r : List Thing), Hp w W r → Calls Tryd.prog 9 #[inS op a b c] W fun e w' => e = .returned (.tuple #[strv (txo op a b c), .int .i64 (if ck op a b c then 0 else 1)]) ∧ Hp w w' r) := Lib.hid (fun W r h => text_c (op := op) L h h3)
  have HPA : Hid (∀ (W : World) (r : List Thing) (t : List UInt8), t.length < 4294967281 → Hp w W r → Calls Tryd.prog 10 #[strv t] W fun e w' => e = .returned (.tuple #[pvv (prs t), .int .i64 (if (prs t).isSome then 0 else 14)]) ∧ Hp w w' r) := Lib.hid (fun W r t ht h => parse_c L t ht h)
  have L' := Lib.hid L
  clear L
  go_enter Tryd.func3, Tryd.ntmps3
  go_upto_region 1 with fail
  generalize (w.alloc (.cells #[.int .u8 op, .int .u8 a, .int .u8 b, .int .u8 c] 24)) = w1 at *
  generalize hxb : w.heap.size = xb at *
  clear hxb
  have HDX : ∀ (W : World) (r : List Thing), Hid (Hp w W (BI xb op a b c :: r)) → (W.cell? ⟨xb, 0, none⟩ = some (.int .u8 op) ∧ W.cell? ⟨xb, 1, none⟩ = some (.int .u8 a) ∧ W.cell? ⟨xb, 2, none⟩ = some (.int .u8 b) ∧ W.cell? ⟨xb, 3, none⟩ = some (.int .u8 c)) := fun W r h => bi_cells h.out
  go_wp2_with fail
  refine (HAL.out _ _ H1.out).mono ?_; rintro e w2 ⟨rfl, H3⟩
  have H4 := Lib.hid H3
  clear H3 H1
  obtain ⟨x0, x1, x2, x3⟩ := HDX _ _ H4
  go_wp2_with fail
  refine (HCX.out _ _ H4.out).mono ?_
  clear x0 x1 x2 x3 HCX
  cases hk : ck op a b c with
  | false =>
    rintro e w3 ⟨rfl, H5⟩
    have H6 := Lib.hid H5
    clear H5 H4
    go_wp2_with fail
    refine (HAL.out _ _ H6.out).mono ?_; rintro e w4 ⟨rfl, H7⟩
    have H8 := Lib.hid H7
    clear H7 H6
    go_wp2
    go_ret
    exact ⟨rfl, H8.out.below⟩
  | true =>
    rintro e w3 ⟨rfl, H5⟩
    have H6 := Lib.hid H5
    clear H5 H4 HAL
    rw [hk] at HTX
    simp only [if_true] at HTX
    obtain ⟨x0, x1, x2, x3⟩ := HDX _ _ H6
    have hlen := txo_len' h3 hk
    have hx8 : (UInt8.ofNat x).toNat = x := by simp; omega
    have e1 : prs (32 :: txo op a b c) = none := prs_blank _
    have e2 : prs (txo op a b c ++ 32 :: []) = none := prs_more h3 hk []
    have e3 := prs_ahead h3 hk (UInt8.ofNat x)
    have e3' : (decide (op = 7) && decide ((UInt8.ofNat x) = 120)) = (decide (op = 7) && decide (x = 120)) := by
      congr 1
      rw [Bool.eq_iff_iff]
      simp only [decide_eq_true_eq, ← UInt8.toNat_inj, hx8]
      exact Iff.rfl
    rw [e3'] at e3
    have e4 : ∀ o bs, prs (txo op a b c ++ [UInt8.ofNat x]) = some (o, bs) → o = op ∧ 48 ≤ x ∧ x ≤ 57 := fun o bs h => by
      have := prs_behind h3 hk (UInt8.ofNat x) h
      rwa [hx8] at this
    have E1 := Lib.hid e1
    have E2 := Lib.hid e2
    have E3 := Lib.hid e3
    have E4 := Lib.hid e4
    have E5 : Hid (∀ o bs, prs (txo op a b c ++ [UInt8.ofNat x]) = some (o, bs) → ∃ a' b' c' : Int, By3 a' b' c' ∧ rv o (some bs) = inS o a' b' c' ∧ ck o a' b' c' = true ∧ txo o a' b' c' = txo op a b c ++ [UInt8.ofNat x] ∧ o ≤ 22) := Lib.hid (fun o bs h => of_prs h)
    clear e1 e2 e3 e3' e4
    go_wp2_with fail
    refine (HTX.out _ _ H6.out).mono ?_; rintro e w4 ⟨rfl, H7⟩
    have H8 := Lib.hid H7
    clear H7 H6 x0 x1 x2 x3 HTX hk h3
    generalize txo op a b c = t at *
    have HLN := Lib.hid hlen
    have hl1 : ¬ 9223372036854775807 < 1 + t.length := by omega
    have hl2 : ¬ 9223372036854775807 < t.length + 1 := by omega
    have P1 := HPA.out _ _ (32 :: t) (by simp; omega) H8.out
    rw [E1.out] at P1
    have P1' := Lib.hid P1
    clear P1 hlen
    go_wp2_with fail
    rw [show (⟨#[32]⟩ : ByteArray) ++ ⟨t.toArray⟩ = ⟨(32 :: t).toArray⟩ from str_app2 [32] t]
    refine P1'.out.mono ?_; rintro e w5 ⟨rfl, H9⟩
    have HA := Lib.hid (H9.alloc (.cells zS 24))
    clear H9 H8 P1'
    have P1 := HPA.out _ _ (t ++ 32 :: []) (by simp; have := HLN.out; omega) HA.out
    rw [E2.out] at P1
    have P1' := Lib.hid P1
    clear P1
    simp only [pvv, Option.isSome_none, Bool.false_eq_true, if_false]
    go_wp2_with fail
    rw [str_app2]
    refine P1'.out.mono ?_; rintro e w6 ⟨rfl, H9⟩
    have HB := Lib.hid (H9.alloc (.cells zS 24))
    clear H9 HA P1'
    simp only [pvv, Option.isSome_none, Bool.false_eq_true, if_false]
    have kc := conv1 (w6.alloc (.cells zS 24)) (w6.heap.size + 1) x hx (by simp)
    go_wp2_with fail
    rw [show (⟨#[UInt8.ofNat x]⟩ : ByteArray) ++ ⟨t.toArray⟩ = ⟨(UInt8.ofNat x :: t).toArray⟩ from str_app2 [UInt8.ofNat x] t]
    have P1 := HPA.out _ _ (UInt8.ofNat x :: t) (by simp; have := HLN.out; omega) (HB.out.alloc (.cells #[.int .u8 x] 5))
    rw [E3.out] at P1
    obtain ⟨u0, u1, u2, u3, hu⟩ := pvv_agg (prs (UInt8.ofNat x :: t))
    rw [hu] at P1
    clear hu kc E3 E1 E2
    have HX := Lib.hid hx
    have hcs : (op = 7 ∧ x = 120) ∨ op ≠ 7 ∨ (op = 7 ∧ x ≠ 120) := by omega
    obtain ⟨er, her, hcs2⟩ : ∃ er : Int, (if (decide (op = 7) && decide (x = 120)) = true then (0 : Int) else 14) = er ∧ ((op = 7 ∧ x = 120 ∧ er = 0) ∨ (op ≠ 7 ∧ er = 14) ∨ (op = 7 ∧ x ≠ 120 ∧ er = 14)) := by
      rcases hcs with ⟨rfl, rfl⟩ | h | ⟨rfl, h⟩
      · exact ⟨0, by simp, Or.inl ⟨rfl, rfl, rfl⟩⟩
      · exact ⟨14, by simp [h], Or.inr (Or.inl ⟨h, rfl⟩)⟩
      · exact ⟨14, by simp [h], Or.inr (Or.inr ⟨rfl, h, rfl⟩)⟩
    rw [her] at P1
    have HCS := Lib.hid hcs2
    clear her hcs2 hcs hx hx8
    refine P1.mono ?_; rintro e w7 ⟨rfl, H9⟩
    have HC := Lib.hid (blk_new H9 (.cells #[.int .u8 u0, .int .u8 u1, .int .u8 u2, .int .u8 u3] 24))
    clear H9 HB P1
    have kc := conv1 (w7.alloc (.cells #[.int .u8 u0, .int .u8 u1, .int .u8 u2, .int .u8 u3] 24)) (w7.heap.size + 1) x HX.out (by simp)
    go_wp2_with fail
    rw [show (⟨t.toArray⟩ : ByteArray) ++ ⟨#[UInt8.ofNat x]⟩ = ⟨(t ++ [UInt8.ofNat x]).toArray⟩ from str_app2 t [UInt8.ofNat x]]
    have P1 := HPA.out _ _ (t ++ [UInt8.ofNat x]) (by simp; have := HLN.out; omega) (HC.out.alloc (.cells #[.int .u8 x] 5))
    clear kc HPA
    cases hps : prs (t ++ [UInt8.ofNat x]) with
    | none =>
      rw [hps] at P1
      refine P1.mono ?_; rintro e w8 ⟨rfl, H9⟩
      have HD := Lib.hid (H9.alloc (.cells zS 24))
      obtain ⟨x0, x1, x2, x3⟩ := HDX _ _ (Lib.hid (HD.out.pull 1 rfl))
      clear H9 HC P1 hps E4 E5
      simp only [pvv, Option.isSome_none, Bool.false_eq_true, if_false]
      rcases HCS.out with ⟨rfl, rfl, rfl⟩ | ⟨h, rfl⟩ | ⟨rfl, h, rfl⟩
      · go_wp2
        go_ret
        exact ⟨rfl, HD.out.below⟩
      · have hi : ¬ (op : Int) = 7 := by omega
        have hib : ((op : Int) == 7) = false := by rw [beq_eq_false_iff_ne]; omega
        clear h
        go_wp2
        go_ret
        exact ⟨rfl, HD.out.below⟩
      · have hi : ¬ (x : Int) = 120 := by omega
        have hib : ((x : Int) == 120) = false := by rw [beq_eq_false_iff_ne]; omega
        clear h
        go_wp2
        go_ret
        exact ⟨rfl, HD.out.below⟩
    | some ob =>
      obtain ⟨o, bs⟩ := ob
      obtain ⟨rfl, d1, d2⟩ := E4.out o bs hps
      obtain ⟨a', b', c', hb', hr, hk', ht', h22⟩ := E5.out o bs hps
      have hv : pvv (some (o, bs)) = inS o a' b' c' := hr
      rw [hps, hv] at P1
      refine P1.mono ?_; rintro e w8 ⟨rfl, H9⟩
      have HD := Lib.hid (blk_new H9 (.cells #[.int .u8 o, .int .u8 a', .int .u8 b', .int .u8 c'] 24))
      have HT2 := text_c (op := o) L'.out HD.out hb'
      rw [hk', ht'] at HT2
      have HT3 := Lib.hid HT2
      obtain ⟨x0, x1, x2, x3⟩ := HDX _ _ (Lib.hid (HD.out.pull 2 rfl))
      obtain ⟨y0, y1, y2, y3⟩ := bi_cells HD.out
      clear H9 HC P1 hps E4 E5 HT2 hr hv hk' ht'
      simp only [Option.isSome_some, if_true]
      have i1 : (48 : Int) ≤ (x : Int) := by omega
      have i2 : (x : Int) ≤ 57 := by omega
      have hi : ¬ (x : Int) = 120 := by omega
      have hib : ((x : Int) == 120) = false := by rw [beq_eq_false_iff_ne]; omega
      rcases HCS.out with ⟨rfl, rfl, rfl⟩ | ⟨h, rfl⟩ | ⟨rfl, h, rfl⟩
      · omega
      · have hj : ¬ (o : Int) = 7 := by omega
        have hjb : ((o : Int) == 7) = false := by rw [beq_eq_false_iff_ne]; omega
        clear h d1 d2
        go_wp2_with fail
        refine HT3.out.mono ?_; rintro e w9 ⟨rfl, H9⟩
        have HE := Lib.hid H9
        clear H9 HT3 x0 x1 x2 x3 y0 y1 y2 y3 HD
        obtain ⟨x0, x1, x2, x3⟩ := HDX _ _ (Lib.hid (HE.out.pull 2 rfl))
        obtain ⟨y0, y1, y2, y3⟩ := bi_cells HE.out
        have kc := conv1 w9 w9.heap.size x HX.out rfl
        have ks : (⟨t.toArray⟩ : ByteArray) ++ ⟨#[UInt8.ofNat x]⟩ = ⟨(t ++ [UInt8.ofNat x]).toArray⟩ := str_app2 t [UInt8.ofNat x]
        go_wp2
        go_ret
        exact ⟨by first | rfl | simp, (HE.out.alloc _).below⟩
      · clear h d1 d2
        simp at x0 y0
        go_wp2_with fail
        refine HT3.out.mono ?_; rintro e w9 ⟨rfl, H9⟩
        have HE := Lib.hid H9
        clear H9 HT3 x0 x1 x2 x3 y0 y1 y2 y3 HD
        obtain ⟨x0, x1, x2, x3⟩ := HDX _ _ (Lib.hid (HE.out.pull 2 rfl))
        obtain ⟨y0, y1, y2, y3⟩ := bi_cells HE.out
        simp at x0 y0
        have kc := conv1 w9 w9.heap.size x HX.out rfl
        have ks : (⟨t.toArray⟩ : ByteArray) ++ ⟨#[UInt8.ofNat x]⟩ = ⟨(t ++ [UInt8.ofNat x]).toArray⟩ := str_app2 t [UInt8.ofNat x]
        go_wp2
        go_ret
        exact ⟨by first | rfl | simp, (HE.out.alloc _).below⟩
end Go.Proofs.YtceienodijgllabDoor
