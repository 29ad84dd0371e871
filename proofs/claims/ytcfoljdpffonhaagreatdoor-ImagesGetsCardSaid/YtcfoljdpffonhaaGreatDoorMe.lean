/- Images: lines that are none: plain; ImagesOdd, walked. -/
import Derived.Test.YtcfoljdpffonhaaGreatDoorMd
set_option linter.unusedVariables false
set_option linter.unusedSimpArgs false
namespace Go.Proofs.YtcfoljdpffonhaaGreatDoor
open Go.RowKit Go.Joins Go.Shelf
attribute [local go_sem] Oper.semAt_some

def odd14 : List (List UInt8) := [[115, 105, 122, 101], [100, 97, 116, 97, 32], [100, 97, 116, 97, 32, 48], [100, 97, 116, 97, 32, 48, 71], [100, 97, 116, 97, 32, 65, 66], [110, 111, 112, 32], [32, 110, 111, 112], [97, 100, 100, 32, 114, 49, 32, 114, 50], [115, 105, 122, 101, 32, 48, 49], [115, 105, 122, 101, 32, 50, 49, 52, 55, 52, 56, 51, 54, 52, 56], [115, 105, 122, 101, 32, 45, 49], [83, 105, 122, 101, 32, 49], [100, 97, 116, 97, 32, 48, 48, 32, 48, 48], [97, 115, 107, 32, 48]]
abbrev ODDS : Array Value := #[.string ⟨#[115, 105, 122, 101]⟩, .string ⟨#[100, 97, 116, 97, 32]⟩, .string ⟨#[100, 97, 116, 97, 32, 48]⟩, .string ⟨#[100, 97, 116, 97, 32, 48, 71]⟩, .string ⟨#[100, 97, 116, 97, 32, 65, 66]⟩, .string ⟨#[110, 111, 112, 32]⟩, .string ⟨#[32, 110, 111, 112]⟩, .string ⟨#[97, 100, 100, 32, 114, 49, 32, 114, 50]⟩, .string ⟨#[115, 105, 122, 101, 32, 48, 49]⟩, .string ⟨#[115, 105, 122, 101, 32, 50, 49, 52, 55, 52, 56, 51, 54, 52, 56]⟩, .string ⟨#[115, 105, 122, 101, 32, 45, 49]⟩, .string ⟨#[83, 105, 122, 101, 32, 49]⟩, .string ⟨#[100, 97, 116, 97, 32, 48, 48, 32, 48, 48]⟩, .string ⟨#[97, 115, 107, 32, 48]⟩]
theorem odds_eq : ODDS = (odd14.map strv).toArray := rfl
theorem dec_zero : ∀ (n : Nat) (r : List UInt8), Lib.decDigits n = 48 :: r → r = [] := by
  intro n
  induction n using Nat.strongRecOn with
  | _ n ih =>
    intro r h
    by_cases h10 : n < 10
    · rw [dec_small h10] at h; injection h with _ h; exact h.symm
    · rw [dec_big h10] at h
      cases hd : Lib.decDigits (n / 10) with
      | nil => exact absurd hd (dec_ne _)
      | cons x r' =>
        rw [hd, List.cons_append] at h
        injection h with hx hr
        subst hx
        have e := ih (n / 10) (by omega) r' hd
        subst e
        by_cases h1 : n / 10 < 10
        · rw [dec_small h1] at hd
          injection hd with hd _
          have : (UInt8.ofNat (48 + n / 10)).toNat = 48 + n / 10 := by simp; omega
          rw [hd] at this
          simp at this
          omega
        · rw [dec_big h1] at hd
          have := congrArg List.length hd
          rw [List.length_append] at this
          have h2 := List.length_pos_iff.2 (dec_ne (n / 10 / 10))
          simp at this
          exact absurd this (dec_ne _)
theorem nB_no_of {s : List UInt8} (h : ∀ n : Nat, Lib.decDigits n ≠ s) : nB s = false := by
  unfold nB
  cases hs : nS s with
  | none => rfl
  | some v =>
    obtain ⟨h0, h1⟩ := nS_some hs
    rw [itoa_nat h0] at h1
    exact absurd h1 (h _)
theorem szok_no {s : List UInt8} (h : nB s = false) (z : Bool) : szok z s = false := by unfold szok; rw [h]; rfl
theorem lp_size {s re : List UInt8} (h : Lib.cut s [32] = ([115, 105, 122, 101], re, true)) (hn : ∀ z, szok z re = false) (t : Rs) : (lineP t s).2 = false := by rw [line_size h]; exact hn _
theorem lp_data {s re : List UInt8} (h : Lib.cut s [32] = ([100, 97, 116, 97], re, true)) (hn : dok re = false) (t : Rs) : (lineP t s).2 = false := by
  unfold lineP; rw [h]; simp only; rw [if_neg (by decide), if_pos trivial, if_pos trivial, hn]
theorem lp_inst {s : List UInt8} (h1 : (Lib.cut s [32]).1 ≠ [115, 105, 122, 101]) (h2 : (Lib.cut s [32]).1 ≠ [100, 97, 116, 97]) (h : prs s = none) (t : Rs) : (lineP t s).2 = false := by
  unfold lineP; rw [if_neg h1, if_neg h2, inst_none h]; rfl
theorem nB_01 : nB [48, 49] = false := nB_no_of (fun n h => by have := dec_zero n _ h; cases this)
theorem nB_neg1 : nB [45, 49] = false := nB_no_of (fun n h => by have := dec_digits n 45 (by rw [h]; simp); simp at this)
theorem dec_big31 : Lib.decDigits 2147483648 = [50, 49, 52, 55, 52, 56, 51, 54, 52, 56] := by
  rw [dec_big (n := 2147483648) (by decide), dec_big (n := 2147483648 / 10) (by decide), dec_big (n := 2147483648 / 10 / 10) (by decide), dec_big (n := 2147483648 / 10 / 10 / 10) (by decide), dec_big (n := 2147483648 / 10 / 10 / 10 / 10) (by decide), dec_big (n := 2147483648 / 10 / 10 / 10 / 10 / 10) (by decide), dec_big (n := 2147483648 / 10 / 10 / 10 / 10 / 10 / 10) (by decide), dec_big (n := 2147483648 / 10 / 10 / 10 / 10 / 10 / 10 / 10) (by decide), dec_big (n := 2147483648 / 10 / 10 / 10 / 10 / 10 / 10 / 10 / 10) (by decide), dec_small (by decide)]
  decide
theorem szok_31 (z : Bool) : szok z [50, 49, 52, 55, 52, 56, 51, 54, 52, 56] = false := by
  obtain ⟨h1, h2⟩ := num_of (n := 2147483648) (s := [50, 49, 52, 55, 52, 56, 51, 54, 52, 56]) ((itoa_lit _).trans dec_big31) (by decide)
  unfold szok
  rw [h1, h2]
  cases z <;> decide
theorem t_nop0 : txo 0 0 0 0 = [110, 111, 112] := by
  rw [txo_eq (l := []) (by decide)]; rfl
theorem no_nop1 : prs [110, 111, 112, 32] = none := by
  have := prs_more (op := 0) (a := 0) (b := 0) (c := 0) ⟨by decide, by decide, by decide⟩ (by decide) []
  rw [t_nop0] at this
  exact this
theorem no_add : prs [97, 100, 100, 32, 114, 49, 32, 114, 50] = none := by
  rw [prs_word (op := 3) (ps := [[114, 49], [114, 50]]) (by decide) (by decide), if_neg (by decide)]
theorem no_Size : prs [83, 105, 122, 101, 32, 49] = none := prs_noword (w := [83, 105, 122, 101]) (ps := [[49]]) (by decide) (by decide)
theorem no_ask : prs [97, 115, 107, 32, 48] = none := by
  rw [prs_word (op := 21) (ps := [[48]]) (by decide) (by decide), if_pos (by decide)]
  have h : nS [48] = some 0 := by
    have := nS_itoa (n := ((0 : Nat) : Int)) (by decide) (by decide)
    rwa [i1 (by decide)] at this
  have h2 : pk 119 [48] = some 0 := h
  show ((rd [119] [[48]]).map _) = none
  unfold rd
  rw [h2]
  rfl
/-- None of these is a line. -/
theorem odd_bad : ∀ s ∈ odd14, (∀ t, (lineP t s).2 = false) ∧ skip s = false ∧ (10 : UInt8) ∉ s ∧ s.length ≤ 20 := by
  intro s hs
  unfold odd14 at hs
  simp only [List.mem_cons, List.not_mem_nil, or_false] at hs
  rcases hs with rfl | rfl | rfl | rfl | rfl | rfl | rfl | rfl | rfl | rfl | rfl | rfl | rfl | rfl
  · exact ⟨fun t => by unfold lineP; rw [show Lib.cut [115, 105, 122, 101] [32] = ([115, 105, 122, 101], [], false) from cut_none (by decide)]; rfl, by decide, by decide, by decide⟩
  · exact ⟨lp_data (re := []) (by decide) (by decide), by decide, by decide, by decide⟩
  · exact ⟨lp_data (re := [48]) (by decide) (by decide), by decide, by decide, by decide⟩
  · exact ⟨lp_data (re := [48, 71]) (by decide) (by decide), by decide, by decide, by decide⟩
  · exact ⟨lp_data (re := [65, 66]) (by decide) (by decide), by decide, by decide, by decide⟩
  · exact ⟨lp_inst (by decide) (by decide) no_nop1, by decide, by decide, by decide⟩
  · exact ⟨lp_inst (by decide) (by decide) (prs_blank _), by decide, by decide, by decide⟩
  · exact ⟨lp_inst (by decide) (by decide) no_add, by decide, by decide, by decide⟩
  · exact ⟨lp_size (re := [48, 49]) (by decide) (szok_no nB_01), by decide, by decide, by decide⟩
  · exact ⟨lp_size (re := [50, 49, 52, 55, 52, 56, 51, 54, 52, 56]) (by decide) szok_31, by decide, by decide, by decide⟩
  · exact ⟨lp_size (re := [45, 49]) (by decide) (szok_no nB_neg1), by decide, by decide, by decide⟩
  · exact ⟨lp_inst (by decide) (by decide) no_Size, by decide, by decide, by decide⟩
  · exact ⟨lp_data (re := [48, 48, 32, 48, 48]) (by decide) (by decide), by decide, by decide, by decide⟩
  · exact ⟨lp_inst (by decide) (by decide) no_ask, by decide, by decide, by decide⟩

/-! ### The text that is built. -/
def built (ls : List (List UInt8)) (od : List UInt8) (k i : Nat) : List (List UInt8) := if i ≤ k then ls.take i else ls.take k ++ od :: (ls.take i).drop k
theorem built_lt {ls : List (List UInt8)} {od : List UInt8} {k i : Nat} (hne : i ≠ k) (h : i < ls.length) : built ls od k (i + 1) = built ls od k i ++ [ls[i]] := by
  unfold built
  by_cases h1 : i < k
  · rw [if_pos (by omega), if_pos (by omega), List.take_succ_eq_append_getElem h]
  · rw [if_neg (by omega), if_neg (by omega), List.take_succ_eq_append_getElem h, List.drop_append_of_le_length (by rw [List.length_take]; omega)]
    simp
theorem built_end {ls : List (List UInt8)} {od : List UInt8} {k i : Nat} (hk : k < i) (h : ls.length ≤ i) : built ls od k (i + 1) = built ls od k i := by
  unfold built
  rw [if_neg (by omega), if_neg (by omega), show ls.take (i + 1) = ls from List.take_of_length_le (by omega), show ls.take i = ls from List.take_of_length_le h]
theorem built_at {ls : List (List UInt8)} {od : List UInt8} {k : Nat} (h : k < ls.length) : built ls od k (k + 1) = built ls od k k ++ [od, ls[k]] := by
  unfold built
  rw [if_neg (by omega), if_pos (Nat.le_refl _), List.take_succ_eq_append_getElem h, List.drop_append_of_le_length (by rw [List.length_take]; omega), List.drop_of_length_le (by rw [List.length_take]; omega)]
  simp
theorem built_last {ls : List (List UInt8)} {od : List UInt8} {k : Nat} (h : ls.length ≤ k) : built ls od k (k + 1) = built ls od k k ++ [od] := by
  unfold built
  rw [if_neg (by omega), if_pos (Nat.le_refl _), show ls.take (k + 1) = ls from List.take_of_length_le (by omega), show ls.take k = ls from List.take_of_length_le h, List.drop_of_length_le h]
theorem nls_app (a b : List (List UInt8)) : nls (a ++ b) = nls a ++ nls b := by simp [nls]
/-- The first line that is none tells. -/
theorem odd_parse {ls : List (List UInt8)} {t1 : Rs} {od : List UInt8} {k : Nat} (hr : Runs rs0 ls t1) (hk : k ≤ ls.length) (ho : od ∈ odd14) : parseL rs0 (lns (nls (built ls od k (ls.length + 1)) ++ od)) 0 = .inr k := by
  obtain ⟨h1, h2, h3, _⟩ := odd_bad od ho
  have hb : built ls od k (ls.length + 1) = ls.take k ++ od :: ls.drop k := by
    unfold built
    rw [if_neg (by omega), show ls.take (ls.length + 1) = ls from List.take_of_length_le (by omega)]
  have hten := hr.ten
  rw [hb, lns_nls od _ (fun l hl => by
    rw [List.mem_append, List.mem_cons] at hl
    rcases hl with hl | rfl | hl
    · exact hten l (List.mem_of_mem_take hl)
    · exact h3
    · exact hten l (List.mem_of_mem_drop hl))]
  obtain ⟨t2, h4⟩ := hr.take k
  rw [List.append_assoc, h4.parse, List.cons_append, pl_none h2 (h1 t2), List.length_take, Nat.zero_add, Nat.min_eq_left hk]
theorem siz_len {n : Nat} (h : n ≤ 4096) : (siz n).length ≤ 20 := by
  have := dec_length n (by omega)
  unfold siz
  rw [List.length_append]
  simp only [List.length_cons, List.length_nil]
  omega
end Go.Proofs.YtcfoljdpffonhaaGreatDoor
