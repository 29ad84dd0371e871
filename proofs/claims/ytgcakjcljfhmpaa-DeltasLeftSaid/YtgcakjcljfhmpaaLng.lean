/- DeltasLong of timekeeperlaw10: the walk. -/
import Derived.Test.YtgcakjcljfhmpaaAlv
set_option linter.unusedVariables false
set_option linter.unusedSimpArgs false
namespace Go.Proofs.Ytgcakjcljfhmpaa
open Go.RowKit Go.Shelf
attribute [local go_sem] Oper.semAt_some

theorem Hp.below_read {w0 w w' : World} {r : List Thing} (h : Hp w0 w r) (hb : Below w.heap.size w w') : Hp w0 w' r := h.read ⟨hb.os, hb.tape, hb.output, hb.size, fun k hk _ => hb.block k hk⟩
theorem okone (who m : Int) (h1 : 1 ≤ m) (h2 : m ≤ 1073741824) : Ok [(who, m)] := ⟨by simp, by simp; omega, by simp⟩
theorem less_one (who m : Int) (h : m ≠ 1) : less [(who, m)] = [(who, m - 1)] ∧ wake [(who, m)] = [] := by simp [less, wake, h]

set_option maxHeartbeats 4000000 in
theorem long_c (a n : Int) (h1 : 0 ≤ a) (h2 : a < 4294967296) (h3 : 0 ≤ n) (h4 : n < 256) (w : World) :
    Calls Try.prog 7 #[.int .u32 a, .int .u8 n] w fun e w' => e = .returned (.bool true) ∧ Below w.heap.size w w' := by
  go_enter Try.func7, Try.ntmps7
  have hw1 : IntKind.i64.wrap a = a := by rw [IntKind.wrap_i64]; omega
  have hw2 : IntKind.i64.wrap (1073741824 - a) = 1073741824 - a := by rw [IntKind.wrap_i64]; omega
  have hw3 : IntKind.i64.wrap n = n := by rw [IntKind.wrap_i64]; omega
  have hw4 : IntKind.i64.wrap (1073741825 + a) = 1073741825 + a := by rw [IntKind.wrap_i64]; omega
  go_wp2_with fail
  refine (new_h (Hp.start w)).mono ?_; rintro e w1 ⟨b, rfl, H1⟩
  by_cases hn : 1073741824 - a < 1
  · go_wp2_with fail
    refine (put_arg_h 3 (1073741824 - a) H1 (by omega)).mono ?_; rintro e w2 ⟨rfl, H2⟩
    go_wp2_with fail
    refine (alive_c _).mono ?_; rintro e w3 ⟨rfl, hb⟩
    go_wp2_with fail
    refine (all_h (H2.below_read hb) (by decide)).mono ?_; rintro e w4 ⟨va, rfl, H4, hv⟩
    obtain rfl := hv rfl
    go_wp2
    go_ret
    exact ⟨rfl, H4.below⟩
  · go_wp2_with fail
    refine (put_h 3 (1073741824 - a) H1 ok0 (by decide) (by decide) (by decide) (by omega) (by omega)).mono ?_; rintro e w2 ⟨rfl, H2⟩
    rw [show ins [] 3 (1073741824 - a) = [(3, 1073741824 - a)] by rfl] at H2
    go_wp2_with fail
    refine (put_arg_h 4 (1073741825 + a) H2 (by omega)).mono ?_; rintro e w3 ⟨rfl, H3⟩
    go_wp2_with fail
    obtain ⟨m, hm, m1, m2, m3⟩ : ∃ m, m = min n (1073741824 - a - 1) ∧ 0 ≤ m ∧ m ≤ n ∧ m ≤ 1073741824 - a - 1 := ⟨_, rfl, by omega, by omega, by omega⟩
    rw [← hm]
    clear hm
    go_loopw [9] (fun i wr => ∃ t : Int, 0 ≤ t ∧ t ≤ m ∧ i = .int .i64 t ∧ Hp w wr [Slp b [(3, 1073741824 - a - t)]]) (fun i _ => (m - intOf i).toNat)
    case atStart => exact ⟨0, by omega, by omega, rfl, by rw [Int.sub_zero]; exact H3⟩
    case round =>
      obtain ⟨t, t1, t2, rfl, H⟩ := hrel
      by_cases hlt : t < m
      · have hs := less_one 3 (1073741824 - a - t) (by omega)
        go_wp2_with fail
        refine (tick_h H (okone _ _ (by omega) (by omega)) (by simp)).mono ?_; rintro e w4 ⟨v, rfl, H4, hv⟩
        obtain rfl := hv hs.2
        rw [hs.1] at H4
        have hw5 : IntKind.i64.wrap (t + 1) = t + 1 := by rw [IntKind.wrap_i64]; omega
        have H5 := H4.tail
        rw [show 1073741824 - a - t - 1 = 1073741824 - a - (t + 1) by omega] at H5
        clear H4 H hs
        go_wp2
        go_roundw
        case rel => exact ⟨t + 1, by omega, by omega, by go_num, H5⟩
        case measure => simp [intOf]; omega
      · have hte : t = m := by omega
        subst hte
        have hlf : lf [(3, 1073741824 - a - t)] 3 = (1073741824 - a - t, 0) := by simp [lf]
        have hw6 : IntKind.i64.wrap (1073741824 - a - t) = 1073741824 - a - t := by rw [IntKind.wrap_i64]; omega
        go_wp2_with fail
        refine (left_h 3 H (okone _ _ (by omega) (by omega)) (by simp)).mono ?_; rintro e w4 ⟨rfl, H4⟩
        rw [hlf]
        go_wp2_with fail
        refine (alive_c _).mono ?_; rintro e w5 ⟨rfl, hb⟩
        have H5 := H4.below_read hb
        clear H4 hb H
        go_wp2_with fail
        refine (all_h H5 (by simp)).mono ?_; rintro e w6 ⟨v, rfl, H6, _⟩
        go_wp2_with fail
        refine (same_h ((lit_h H6 [3] _ rfl 1).up1) (by simp) (by simp)).mono ?_; rintro e w7 ⟨rfl, H7⟩
        go_wp2
        go_ret
        exact ⟨rfl, H7.below⟩
end Go.Proofs.Ytgcakjcljfhmpaa
