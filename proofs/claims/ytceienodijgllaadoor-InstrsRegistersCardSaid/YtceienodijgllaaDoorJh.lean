/- InstrsRegisters: the law's text. -/
import Derived.Test.YtceienodijgllaaDoorJg
set_option linter.unusedVariables false
set_option linter.unusedSimpArgs false
namespace Go.Proofs.YtceienodijgllaaDoor
open Go.RowKit Go.Joins Go.Shelf
attribute [local go_sem] Oper.semAt_some

/-- What the law wants. -/
def want (op a b c : Nat) : Bool :=
  if op = 0 ∨ op = 22 then decide (a = 0) && decide (b = 0) && decide (c = 0)
  else if op = 1 then decide (a ≤ 7)
  else if op = 2 then decide (a ≤ 7) && decide (b ≤ 7) && decide (c = 0)
  else if 3 ≤ op ∧ op ≤ 10 then decide (a ≤ 7) && decide (b ≤ 7) && decide (c ≤ 7)
  else if 11 ≤ op ∧ op ≤ 18 then decide (a ≤ 7) && decide (b ≤ 7)
  else if op = 19 then decide (c = 0)
  else if op = 20 then decide (a ≤ 7) && decide (b = 0) && decide (c = 0)
  else if op = 21 then decide (1 ≤ a) && decide (a ≤ 20) && decide (b = 0) && decide (c = 0)
  else false
theorem op_cases {op : Nat} (h : op < 256) : op = 0 ∨ op = 1 ∨ op = 2 ∨ op = 3 ∨ op = 4 ∨ op = 5 ∨ op = 6 ∨ op = 7 ∨ op = 8 ∨ op = 9 ∨ op = 10 ∨ op = 11 ∨ op = 12 ∨ op = 13 ∨ op = 14 ∨ op = 15 ∨ op = 16 ∨ op = 17 ∨ op = 18 ∨ op = 19 ∨ op = 20 ∨ op = 21 ∨ op = 22 ∨ 22 < op := by omega
theorem ck_want {op a b c : Nat} (hop : op < 256) : ck op a b c = want op a b c := by
  rcases op_cases hop with rfl | rfl | rfl | rfl | rfl | rfl | rfl | rfl | rfl | rfl | rfl | rfl | rfl | rfl | rfl | rfl | rfl | rfl | rfl | rfl | rfl | rfl | rfl | h
  all_goals try (rw [Bool.eq_iff_iff]; simp [ck, want, fl, rck]; done)
  all_goals try (rw [Bool.eq_iff_iff]; simp [ck, want, fl, rck]; omega)
  · have h1 : ¬ op ≤ 22 := by omega
    have h2 : want op a b c = false := by
      unfold want
      rw [if_neg (by omega), if_neg (by omega), if_neg (by omega), if_neg (by omega), if_neg (by omega), if_neg (by omega), if_neg (by omega), if_neg (by omega)]
    rw [h2]; simp [ck, h1]
set_option maxHeartbeats 8000000 in
set_option maxRecDepth 20000 in
theorem registers_c (w : World) (L : Lf w) (op a b c : Nat) (hop : op < 256) (ha : a < 256) (hb : b < 256) (hc : c < 256) :
    Calls Tryd.prog 5 #[.int .u8 op, .agg #[.int .u8 a, .int .u8 b, .int .u8 c]] w fun e w' => e = .returned (.bool true) ∧ Below w.heap.size w w' := by
  have hb3 : By3 (a : Int) b c := ⟨by omega, by omega, by omega⟩
  have H1 := Lib.hid (blk_new (Hp.start w) (.cells #[.int .u8 a, .int .u8 b, .int .u8 c] 37))
  go_enter Tryd.func5, Tryd.ntmps5
  go_upto_region 1 with fail
  have x0 : (w.alloc (.cells #[.int .u8 a, .int .u8 b, .int .u8 c] 37)).cell? ⟨w.heap.size, 0, none⟩ = some (.int .u8 a) := cell_blk (blk_get H1.out) 0
  have x1 : (w.alloc (.cells #[.int .u8 a, .int .u8 b, .int .u8 c] 37)).cell? ⟨w.heap.size, 1, none⟩ = some (.int .u8 b) := cell_blk (blk_get H1.out) 1
  have x2 : (w.alloc (.cells #[.int .u8 a, .int .u8 b, .int .u8 c] 37)).cell? ⟨w.heap.size, 2, none⟩ = some (.int .u8 c) := cell_blk (blk_get H1.out) 2
  generalize hw1 : (w.alloc (.cells #[.int .u8 a, .int .u8 b, .int .u8 c] 37)) = w1 at *
  clear hw1
  generalize hxb : w.heap.size = xb at *
  clear hxb
  have H2 := Lib.hid (blk_new H1.out (.cells #[.int .u8 op, .int .u8 a, .int .u8 b, .int .u8 c] 24))
  have AL := Lib.hid (alive_c L H2.out)
  clear H1 H2 L
  go_upto_region 2 with fail
  have y0 : (w1.alloc (.cells #[.int .u8 op, .int .u8 a, .int .u8 b, .int .u8 c] 24)).cell? ⟨xb, 0, none⟩ = some (.int .u8 a) := cell_alloc_l' _ x0
  have y1 : (w1.alloc (.cells #[.int .u8 op, .int .u8 a, .int .u8 b, .int .u8 c] 24)).cell? ⟨xb, 1, none⟩ = some (.int .u8 b) := cell_alloc_l' _ x1
  have y2 : (w1.alloc (.cells #[.int .u8 op, .int .u8 a, .int .u8 b, .int .u8 c] 24)).cell? ⟨xb, 2, none⟩ = some (.int .u8 c) := cell_alloc_l' _ x2
  clear x0 x1 x2
  generalize (w1.alloc (.cells #[.int .u8 op, .int .u8 a, .int .u8 b, .int .u8 c] 24)) = w2 at *
  generalize w1.heap.size = yb at *
  have HK : Hid (∀ X, want op a b c = X → ck op a b c = X) := Lib.hid (fun X h => (ck_want (a := a) (b := b) (c := c) hop).trans h)
  have CK : Hid (∀ W, Hp w W [Blk yb (.cells #[.int .u8 op, .int .u8 a, .int .u8 b, .int .u8 c] 24 (0, 0)), Blk xb (.cells #[.int .u8 a, .int .u8 b, .int .u8 c] 37 (0, 0))] → Calls Tryd.prog 9 #[inS op a b c] W fun e w' => e = .returned (.bool (ck op a b c)) ∧ Hp w w' [Blk yb (.cells #[.int .u8 op, .int .u8 a, .int .u8 b, .int .u8 c] 24 (0, 0)), Blk xb (.cells #[.int .u8 a, .int .u8 b, .int .u8 c] 37 (0, 0))]) := Lib.hid (fun W h => check_c h hb3)
  clear ha hb hc hb3
  generalize ck op a b c = K at *
  have grp : op = 0 ∨ op = 22 ∨ op = 1 ∨ op = 2 ∨ op = 19 ∨ op = 20 ∨ op = 21 ∨ (3 ≤ op ∧ op ≤ 10) ∨ (11 ≤ op ∧ op ≤ 18) ∨ 22 < op := by omega
  rcases grp with rfl | rfl | rfl | rfl | rfl | rfl | rfl | ⟨hg, hg'⟩ | ⟨hg, hg'⟩ | hg
  case' inr.inr.inr.inr.inr.inr.inr.inl => have n0 : ¬ op = 0 := by omega
  case' inr.inr.inr.inr.inr.inr.inr.inl => have n0i : ¬ (op : Int) = 0 := by omega
  case' inr.inr.inr.inr.inr.inr.inr.inl => have n0b : ((op : Int) == 0) = false := by rw [beq_eq_false_iff_ne]; omega
  case' inr.inr.inr.inr.inr.inr.inr.inl => have n1 : ¬ op = 1 := by omega
  case' inr.inr.inr.inr.inr.inr.inr.inl => have n1i : ¬ (op : Int) = 1 := by omega
  case' inr.inr.inr.inr.inr.inr.inr.inl => have n1b : ((op : Int) == 1) = false := by rw [beq_eq_false_iff_ne]; omega
  case' inr.inr.inr.inr.inr.inr.inr.inl => have n2 : ¬ op = 2 := by omega
  case' inr.inr.inr.inr.inr.inr.inr.inl => have n2i : ¬ (op : Int) = 2 := by omega
  case' inr.inr.inr.inr.inr.inr.inr.inl => have n2b : ((op : Int) == 2) = false := by rw [beq_eq_false_iff_ne]; omega
  case' inr.inr.inr.inr.inr.inr.inr.inl => have n3 : ¬ op = 22 := by omega
  case' inr.inr.inr.inr.inr.inr.inr.inl => have n3i : ¬ (op : Int) = 22 := by omega
  case' inr.inr.inr.inr.inr.inr.inr.inl => have n3b : ((op : Int) == 22) = false := by rw [beq_eq_false_iff_ne]; omega
  case' inr.inr.inr.inr.inr.inr.inr.inl => have n4 : (3 : Int) ≤ (op : Int) := by omega
  case' inr.inr.inr.inr.inr.inr.inr.inl => have n5 : (op : Int) ≤ 10 := by omega
  case' inr.inr.inr.inr.inr.inr.inr.inr.inl => have n0 : ¬ op = 0 := by omega
  case' inr.inr.inr.inr.inr.inr.inr.inr.inl => have n0i : ¬ (op : Int) = 0 := by omega
  case' inr.inr.inr.inr.inr.inr.inr.inr.inl => have n0b : ((op : Int) == 0) = false := by rw [beq_eq_false_iff_ne]; omega
  case' inr.inr.inr.inr.inr.inr.inr.inr.inl => have n1 : ¬ op = 1 := by omega
  case' inr.inr.inr.inr.inr.inr.inr.inr.inl => have n1i : ¬ (op : Int) = 1 := by omega
  case' inr.inr.inr.inr.inr.inr.inr.inr.inl => have n1b : ((op : Int) == 1) = false := by rw [beq_eq_false_iff_ne]; omega
  case' inr.inr.inr.inr.inr.inr.inr.inr.inl => have n2 : ¬ op = 2 := by omega
  case' inr.inr.inr.inr.inr.inr.inr.inr.inl => have n2i : ¬ (op : Int) = 2 := by omega
  case' inr.inr.inr.inr.inr.inr.inr.inr.inl => have n2b : ((op : Int) == 2) = false := by rw [beq_eq_false_iff_ne]; omega
  case' inr.inr.inr.inr.inr.inr.inr.inr.inl => have n3 : ¬ op = 22 := by omega
  case' inr.inr.inr.inr.inr.inr.inr.inr.inl => have n3i : ¬ (op : Int) = 22 := by omega
  case' inr.inr.inr.inr.inr.inr.inr.inr.inl => have n3b : ((op : Int) == 22) = false := by rw [beq_eq_false_iff_ne]; omega
  case' inr.inr.inr.inr.inr.inr.inr.inr.inl => have n4 : (3 : Int) ≤ (op : Int) := by omega
  case' inr.inr.inr.inr.inr.inr.inr.inr.inl => have n5 : ¬ (op : Int) ≤ 10 := by omega
  case' inr.inr.inr.inr.inr.inr.inr.inr.inl => have n6 : (11 : Int) ≤ (op : Int) := by omega
  case' inr.inr.inr.inr.inr.inr.inr.inr.inl => have n7 : (op : Int) ≤ 18 := by omega
  case' inr.inr.inr.inr.inr.inr.inr.inr.inr => have n0 : ¬ op = 0 := by omega
  case' inr.inr.inr.inr.inr.inr.inr.inr.inr => have n0i : ¬ (op : Int) = 0 := by omega
  case' inr.inr.inr.inr.inr.inr.inr.inr.inr => have n0b : ((op : Int) == 0) = false := by rw [beq_eq_false_iff_ne]; omega
  case' inr.inr.inr.inr.inr.inr.inr.inr.inr => have n1 : ¬ op = 1 := by omega
  case' inr.inr.inr.inr.inr.inr.inr.inr.inr => have n1i : ¬ (op : Int) = 1 := by omega
  case' inr.inr.inr.inr.inr.inr.inr.inr.inr => have n1b : ((op : Int) == 1) = false := by rw [beq_eq_false_iff_ne]; omega
  case' inr.inr.inr.inr.inr.inr.inr.inr.inr => have n2 : ¬ op = 2 := by omega
  case' inr.inr.inr.inr.inr.inr.inr.inr.inr => have n2i : ¬ (op : Int) = 2 := by omega
  case' inr.inr.inr.inr.inr.inr.inr.inr.inr => have n2b : ((op : Int) == 2) = false := by rw [beq_eq_false_iff_ne]; omega
  case' inr.inr.inr.inr.inr.inr.inr.inr.inr => have n3 : ¬ op = 22 := by omega
  case' inr.inr.inr.inr.inr.inr.inr.inr.inr => have n3i : ¬ (op : Int) = 22 := by omega
  case' inr.inr.inr.inr.inr.inr.inr.inr.inr => have n3b : ((op : Int) == 22) = false := by rw [beq_eq_false_iff_ne]; omega
  case' inr.inr.inr.inr.inr.inr.inr.inr.inr => have n4 : (3 : Int) ≤ (op : Int) := by omega
  case' inr.inr.inr.inr.inr.inr.inr.inr.inr => have n5 : ¬ (op : Int) ≤ 10 := by omega
  case' inr.inr.inr.inr.inr.inr.inr.inr.inr => have n6 : (11 : Int) ≤ (op : Int) := by omega
  case' inr.inr.inr.inr.inr.inr.inr.inr.inr => have n7 : ¬ (op : Int) ≤ 18 := by omega
  case' inr.inr.inr.inr.inr.inr.inr.inr.inr => have n8 : ¬ op = 19 := by omega
  case' inr.inr.inr.inr.inr.inr.inr.inr.inr => have n8i : ¬ (op : Int) = 19 := by omega
  case' inr.inr.inr.inr.inr.inr.inr.inr.inr => have n8b : ((op : Int) == 19) = false := by rw [beq_eq_false_iff_ne]; omega
  case' inr.inr.inr.inr.inr.inr.inr.inr.inr => have n9 : ¬ op = 20 := by omega
  case' inr.inr.inr.inr.inr.inr.inr.inr.inr => have n9i : ¬ (op : Int) = 20 := by omega
  case' inr.inr.inr.inr.inr.inr.inr.inr.inr => have n9b : ((op : Int) == 20) = false := by rw [beq_eq_false_iff_ne]; omega
  case' inr.inr.inr.inr.inr.inr.inr.inr.inr => have na : ¬ op = 21 := by omega
  case' inr.inr.inr.inr.inr.inr.inr.inr.inr => have nai : ¬ (op : Int) = 21 := by omega
  case' inr.inr.inr.inr.inr.inr.inr.inr.inr => have nab : ((op : Int) == 21) = false := by rw [beq_eq_false_iff_ne]; omega
  case' inr.inr.inr.inr.inr.inr.inr.inl => rw [show want op a b c = (decide (a ≤ 7) && decide (b ≤ 7) && decide (c ≤ 7)) by unfold want; rw [if_neg (by omega), if_neg (by omega), if_neg (by omega), if_pos (by omega)]] at HK
  case' inr.inr.inr.inr.inr.inr.inr.inr.inl => rw [show want op a b c = (decide (a ≤ 7) && decide (b ≤ 7)) by unfold want; rw [if_neg (by omega), if_neg (by omega), if_neg (by omega), if_neg (by omega), if_pos (by omega)]] at HK
  case' inr.inr.inr.inr.inr.inr.inr.inr.inr => rw [show want op a b c = false by unfold want; rw [if_neg (by omega), if_neg (by omega), if_neg (by omega), if_neg (by omega), if_neg (by omega), if_neg (by omega), if_neg (by omega), if_neg (by omega)]] at HK
  all_goals clear hop
  all_goals
    go_wp2_with fail
    all_goals
      subst_vars
      refine AL.out.mono ?_
      rintro e w3 ⟨rfl, H3⟩
      have k := cell_blk (blk_get H3)
      have k0 := k 0
      have k1 := k 1
      have k2 := k 2
      have k3 := k 3
      simp at k0 k1 k2 k3
      have CK3 := Lib.hid (CK.out _ H3)
      clear k H3 AL CK
      go_wp2_with fail
      refine CK3.out.mono ?_
      rintro e w4 ⟨rfl, H4⟩
      have H5 := Lib.hid H4
      clear H4 CK3
      go_wp2
      go_ret
      refine ⟨?_, H5.out.below⟩
      show Ending.returned (Value.bool _) = Ending.returned (Value.bool true)
      refine congrArg (fun z => Ending.returned (Value.bool z)) ?_
      first
        | (exfalso; omega)
        | (rw [beq_iff_eq]; refine HK.out _ ?_; simp [want, *]; done)
        | (rw [beq_iff_eq]; refine HK.out _ ?_; rw [Bool.eq_iff_iff]; simp [want, *]; done)
        | (rw [beq_iff_eq]; refine HK.out _ ?_; rw [Bool.eq_iff_iff]; simp [want, *]; omega)
        | (rw [HK.out false ?_] <;> first | rfl | (simp [want]; done) | (simp [*]; done) | (rw [← Bool.not_eq_true]; simp [want]; done) | (rw [← Bool.not_eq_true]; simp [want]; intros; omega))
        | (rw [HK.out true ?_] <;> first | rfl | (simp [want]; done) | (simp [*]; done) | (simp [want]; omega))
end Go.Proofs.YtceienodijgllaaDoor
