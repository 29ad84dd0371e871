/- InstrsFields: the law's text. -/
import Derived.Test.YtceienodijgllabDoorJp
set_option linter.unusedVariables false
set_option linter.unusedSimpArgs false
namespace Go.Proofs.YtceienodijgllabDoor
open Go.RowKit Go.Joins Go.Shelf
attribute [local go_sem] Oper.semAt_some

/-- Where the last blank stands; -1: there is none. -/
def LastAt (t : List UInt8) (k : Nat) (v : Int) : Prop := (v = -1 ∧ ∀ j (h : j < t.length), j < k → t[j] ≠ 32) ∨ ∃ m : Nat, v = m ∧ m < k ∧ (∃ h : m < t.length, t[m] = 32) ∧ ∀ j (h : j < t.length), m < j → j < k → t[j] ≠ 32
theorem last_no {t : List UInt8} {v : Int} (h : LastAt t t.length v) (h0 : (32 : UInt8) ∉ t) : v = -1 := by
  rcases h with ⟨h, _⟩ | ⟨m, _, _, ⟨h1, h2⟩, _⟩
  · exact h
  · exact absurd (by rw [← h2]; exact List.getElem_mem h1) h0
theorem last_at {s t : List UInt8} {v : Int} (h : LastAt (s ++ 32 :: t) (s ++ 32 :: t).length v) (h0 : (32 : UInt8) ∉ t) : v = s.length := by
  rcases h with ⟨_, h⟩ | ⟨m, rfl, _, ⟨h1, h2⟩, h3⟩
  · exact absurd (by simp) (h s.length (by simp) (by simp))
  · by_cases hm : m < s.length
    · exact absurd (by simp) (h3 s.length (by simp) hm (by simp))
    · by_cases hm2 : m = s.length
      · rw [hm2]
      · exfalso
        obtain ⟨j, rfl⟩ : ∃ j, m = s.length + 1 + j := ⟨m - s.length - 1, by omega⟩
        have h2' : (s ++ 32 :: t)[s.length + 1 + j]? = some 32 := by rw [List.getElem?_eq_getElem h1, h2]
        rw [List.getElem?_append_right (by omega), show s.length + 1 + j - s.length = j + 1 by omega, List.getElem?_cons_succ] at h2'
        exact h0 (List.mem_of_getElem? h2')
theorem last_step {t : List UInt8} {k : Nat} {v : Int} (h : LastAt t k v) (hk : k < t.length) : LastAt t (k + 1) (if t[k] = 32 then (k : Int) else v) := by
  by_cases hc : t[k] = 32
  · rw [if_pos hc]
    exact Or.inr ⟨k, rfl, by omega, ⟨hk, hc⟩, fun j h1 h2 h3 => by omega⟩
  · rw [if_neg hc]
    rcases h with ⟨h, h'⟩ | ⟨m, h1, h2, h3, h4⟩
    · exact Or.inl ⟨h, fun j hj hjk => by
        by_cases e : j = k
        · subst e; exact hc
        · exact h' j hj (by omega)⟩
    · exact Or.inr ⟨m, h1, by omega, h3, fun j hj hjm hjk => by
        by_cases e : j = k
        · subst e; exact hc
        · exact h4 j hj hjm (by omega)⟩
theorem last_zero (t : List UInt8) : LastAt t 0 (-1) := Or.inl ⟨rfl, fun j _ h => by omega⟩
theorem ext_pre (s t : List UInt8) : (⟨(s ++ t).toArray⟩ : ByteArray).extract 0 s.length = ⟨s.toArray⟩ := by
  apply ByteArray.ext
  simp
set_option maxHeartbeats 8000000 in
set_option maxRecDepth 20000 in
theorem fields_law_c (w : World) (L : Lf w) (op a b c : Nat) (hop : op < 256) (ha : a < 256) (hb : b < 256) (hc : c < 256) :
    Calls Tryd.prog 5 #[inS op a b c] w fun e w' => e = .returned (.bool true) ∧ Below w.heap.size w w' := by
  have h3 : By3 (a : Int) b c := ⟨by omega, by omega, by omega⟩
  have H1 := Lib.hid (blk_new (Hp.start w) (.cells #[.int .u8 op, .int .u8 a, .int .u8 b, .int .u8 c] 24))
  have HAL : Hid (∀ (W : World) (r : List Thing), Hp w W r → Calls Tryd.prog 7 #[] W fun e w' => e = .returned (.bool true) ∧ Hp w w' r) := Lib.hid (fun W r h => alive_c L h)
  have HCX : Hid (∀ (W : World) (r : List Thing), Hp w W r → Calls Tryd.prog 8 #[inS op a b c] W fun e w' => e = .returned (.bool (ck op a b c)) ∧ Hp w w' r) := Lib.hid (fun W r h => check_c h h3)
  have HTX : Hid (∀ (W : World) (r : List Thing), Hp w W r → Calls Tryd.prog 9 #[inS op a b c] W fun e w' => e = .returned (.tuple #[strv (txo op a b c), .int .i64 (if ck op a b c then 0 else 1)]) ∧ Hp w w' r) := Lib.hid (fun W r h => text_c (op := op) L h h3)
  have HPA : Hid (∀ (W : World) (r : List Thing) (t : List UInt8), t.length < 4294967281 → prs t = none → Hp w W r → Calls Tryd.prog 10 #[strv t] W fun e w' => e = .returned (.tuple #[.agg zS, .int .i64 14]) ∧ Hp w w' r) := Lib.hid (fun W r t ht hn h => parse_no L t ht hn h)
  clear L
  go_enter Tryd.func5, Tryd.ntmps5
  go_upto_region 1 with fail
  generalize (w.alloc (.cells #[.int .u8 op, .int .u8 a, .int .u8 b, .int .u8 c] 24)) = w1 at *
  generalize hxb : w.heap.size = xb at *
  clear hxb
  have HDX : ∀ (W : World) (r : List Thing), Hid (Hp w W (BI xb op a b c :: r)) → (W.cell? ⟨xb, 0, none⟩ = some (.int .u8 op) ∧ W.cell? ⟨xb, 1, none⟩ = some (.int .u8 a) ∧ W.cell? ⟨xb, 2, none⟩ = some (.int .u8 b) ∧ W.cell? ⟨xb, 3, none⟩ = some (.int .u8 c)) := fun W r h => bi_cells h.out
  go_wp2_with fail
  refine (HAL.out _ _ H1.out).mono ?_; rintro e w2 ⟨rfl, H3⟩
  have H4 := Lib.hid H3
  clear H3 H1
  obtain ⟨x0, x1, x2, x3⟩ := HDX _ _ H4
  go_wp2_with fail
  refine (HCX.out _ _ H4.out).mono ?_
  clear x0 x1 x2 x3 HCX
  cases hk : ck op a b c with
  | false =>
    rintro e w3 ⟨rfl, H5⟩
    have H6 := Lib.hid H5
    clear H5 H4
    go_wp2_with fail
    refine (HAL.out _ _ H6.out).mono ?_; rintro e w4 ⟨rfl, H7⟩
    have H8 := Lib.hid H7
    clear H7 H6
    go_wp2
    go_ret
    exact ⟨rfl, H8.out.below⟩
  | true =>
    rintro e w3 ⟨rfl, H5⟩
    have H6 := Lib.hid H5
    clear H5 H4 HAL
    rw [hk] at HTX
    simp only [if_true] at HTX
    obtain ⟨x0, x1, x2, x3⟩ := HDX _ _ H6
    have hlen := txo_len' h3 hk
    have N1 := Lib.hid (prs_more h3 hk [48])
    have N2 := Lib.hid (prs_more h3 hk [114, 48])
    have hlast := Lib.hid (txo_last h3 hk)
    go_wp2_with fail
    refine (HTX.out _ _ H6.out).mono ?_; rintro e w4 ⟨rfl, H7⟩
    have H8 := Lib.hid H7
    clear H7 H6 x0 x1 x2 x3 HTX HDX hk h3
    generalize txo op a b c = t at *
    have hl1 : ¬ 9223372036854775807 < t.length + 2 := by omega
    have hl2 : ¬ 9223372036854775807 < t.length + 3 := by omega
    have HLN := Lib.hid hlen
    have hts : (⟨t.toArray⟩ : ByteArray).size = t.length := by simp [ByteArray.size]
    go_wp2
    go_loop [5, 6] (fun s5 s6 => ∃ (k : Nat) (v : Int), k ≤ t.length ∧ s6 = .int .i64 k ∧ s5 = .int .i64 v ∧ Hid (LastAt t k v)) (fun _ s6 => t.length - (intOf s6).toNat)
    case atStart => exact ⟨0, -1, Nat.zero_le _, rfl, rfl, Lib.hid (last_zero t)⟩
    case round =>
      obtain ⟨k, v, hk, rfl, rfl, hA⟩ := hrel
      by_cases hlt : k < t.length
      · have hl' : k < (⟨t.toArray⟩ : ByteArray).size := by rw [hts]; exact hlt
        have hfc : (⟨t.toArray⟩ : ByteArray)[k]'hl' = t[k] := rfl
        have hst := Lib.hid (last_step hA.out hlt)
        have hkw : IntKind.i64.wrap ((k : Int) + 1) = (k : Int) + 1 := by rw [IntKind.wrap_i64]; have := HLN.out; omega
        by_cases h32 : t[k] = 32
        · have h32' : ((t[k].toNat : Nat) : Int) = 32 := by rw [h32]; rfl
          rw [if_pos h32] at hst
          generalize t[k] = ch at *
          clear hA
          go_wp2
          go_round
          case rel => exact ⟨k + 1, k, by omega, by go_num, rfl, hst⟩
          case measure => simp [intOf]; omega
        · have h32' : ¬ ((t[k].toNat : Nat) : Int) = 32 := by intro h; apply h32; rw [← UInt8.toNat_inj]; show t[k].toNat = 32; omega
          have h32b : (((t[k].toNat : Nat) : Int) == 32) = false := by rw [beq_eq_false_iff_ne]; exact h32'
          rw [if_neg h32] at hst
          generalize t[k] = ch at *
          clear hA
          go_wp2
          go_round
          case rel => exact ⟨k + 1, v, by omega, by go_num, rfl, hst⟩
          case measure => simp [intOf]; omega
      · have hke : k = t.length := by omega
        subst hke
        have hv : v = -1 ∨ ∃ s q, t = s ++ 32 :: q ∧ v = (s.length : Int) ∧ prs s = none ∧ prs (s ++ [32]) = none := by
          rcases hlast.out with ⟨_, h0⟩ | ⟨s, q, rfl, h0, h1, h2⟩
          · exact Or.inl (last_no hA.out h0)
          · exact Or.inr ⟨s, q, rfl, last_at hA.out h0, h1, h2⟩
        have HV := Lib.hid hv
        clear hv hA hlast
        have P1 := Lib.hid (HPA.out _ _ (t ++ 32 :: [48]) (by simp; have := HLN.out; omega) N1.out H8.out)
        go_wp2_with fail
        rw [str_app2]
        refine P1.out.mono ?_; rintro e w5 ⟨rfl, H9⟩
        have HA := Lib.hid (H9.alloc (.cells zS 24))
        clear H9 H8 P1
        have P2 := Lib.hid (HPA.out _ _ (t ++ 32 :: [114, 48]) (by simp; have := HLN.out; omega) N2.out HA.out)
        go_wp2_with fail
        rw [str_app2]
        refine P2.out.mono ?_; rintro e w6 ⟨rfl, H9⟩
        have HB := Lib.hid (H9.alloc (.cells zS 24))
        clear H9 HA P2
        rcases HV.out with rfl | ⟨s, q, rfl, rfl, q1, q2⟩
        · go_wp2
          go_ret
          exact ⟨rfl, HB.out.below⟩
        · have Q1 := Lib.hid (HPA.out _ _ s (by have := HLN.out; simp at this; omega) q1 HB.out)
          have Q2 : Hid (∀ (W : World) (r : List Thing), Hp w W r → Calls Tryd.prog 10 #[strv (s ++ [32])] W fun e w' => e = .returned (.tuple #[.agg zS, .int .i64 14]) ∧ Hp w w' r) := Lib.hid (fun W r h => HPA.out _ _ (s ++ [32]) (by have := HLN.out; simp at this; simp; omega) q2 h)
          clear HV q1 q2
          have hx : (⟨(s ++ 32 :: q).toArray⟩ : ByteArray).extract 0 s.length = ⟨s.toArray⟩ := ext_pre _ _
          have hl3 : ¬ 9223372036854775807 < s.length + 1 := by have := HLN.out; simp at this; omega
          go_wp2_with fail
          refine Q1.out.mono ?_; rintro e w7 ⟨rfl, H9⟩
          have HC := Lib.hid (H9.alloc (.cells zS 24))
          clear H9 HB Q1
          go_wp2_with fail
          rw [str_app2]
          refine (Q2.out _ _ HC.out).mono ?_; rintro e w8 ⟨rfl, H9⟩
          have HD := Lib.hid (H9.alloc (.cells zS 24))
          clear H9 HC Q2
          go_wp2
          go_ret
          exact ⟨rfl, HD.out.below⟩
end Go.Proofs.YtceienodijgllabDoor
