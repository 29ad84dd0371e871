/- TimersEach of timekeeperlaw19: the walk. -/
import Derived.Test.YtllfkgdmneabiaaTpe
import Derived.Test.YtllfkgdmneabiaaTlv
import Derived.Test.YtllfkgdmneabiaaWf
import Derived.Deep.CutRange
set_option linter.unusedVariables false
set_option linter.unusedSimpArgs false
namespace Go.Proofs.Ytllfkgdmneabiaa
open Go.RowKit Go.Shelf Go.Maps
attribute [local go_sem] Oper.semAt_some

set_option maxHeartbeats 8000000 in
set_option maxRecDepth 20000 in
theorem each_law (a : Option Addr) (c : Nat) (xs : List Ac) (p q g : Nat) (hp : p < 256) (hq : q < 256) (hg : g < 256) (w : World) (hb : ActsIn w a xs) (hwf : ∀ z ∈ xs, AcWf z) :
    Calls Try.prog 3 #[.agg #[.int .u8 p, .int .u8 q, .slice a xs.length c, .int .u8 g]] w fun e w' => e = .returned (.bool true) ∧ Below w.heap.size w w' := by
  have hpw : IntKind.i64.wrap (p : Int) = p := by rw [IntKind.wrap_i64]; omega
  have hqw : IntKind.i64.wrap (q : Int) = q := by rw [IntKind.wrap_i64]; omega
  have hgw : IntKind.i64.wrap (g : Int) = g := by rw [IntKind.wrap_i64]; omega
  have hpw1 : IntKind.i64.wrap (1 + (p : Int)) = 1 + (p : Int) := by rw [IntKind.wrap_i64]; omega
  have hal : Al (ins (but [] 5) 5 (1 + (p : Int))) (upd (fun _ => 0) 5 (q : Int)) := al_start al_nil (by decide) (by omega) (by omega) (by omega) (by omega)
  have h0 : At5 (ins (but [] 5) 5 (1 + (p : Int))) (upd (fun _ => 0) 5 (q : Int)) p q 0 := by
    refine ⟨by simp [upd], fun _ => ?_, fun hz => ?_⟩
    · rw [ins_mem]; exact Or.inl (by rw [lv_lt (by omega)]; congr 1; omega)
    · rw [lv_lt (by omega)] at hz; omega
  have hl0 : (ins (but [] 5) 5 (1 + (p : Int))).length ≤ 1 := by rw [ins_len]; simp [but]
  go_enter Try.func3, Try.ntmps3
  by_cases hn : 100 < (xs.length : Int)
  · go_wp2_with fail
    refine (lives_c _).mono ?_; rintro e w1 ⟨rfl, hb1⟩
    go_wp2
    go_ret
    exact ⟨rfl, (((Hp.start w).alloc _).below_read hb1).below⟩
  · go_wp2_with fail
    refine (new_al ((Hp.start w).alloc _)).mono ?_; rintro e w1 ⟨b, lb, mb, rfl, H1⟩
    go_wp2_with fail
    refine (start_ok 5 (1 + (p : Int)) q H1 al_nil (by decide) (by decide) (by decide) (by decide) (by omega) (by omega) (by omega) (by omega)).mono ?_; rintro e w2 ⟨rfl, H2⟩
    obtain ⟨L0, F0, H3, hal3, h3, hl3⟩ : ∃ L0 F0, Hp w w2 [Als b lb mb, Slp lb L0, Mp mb (0 + 1) F0] ∧ Al L0 F0 ∧ At5 L0 F0 p q 0 ∧ L0.length ≤ 1 := ⟨_, _, H2, hal, h0, hl0⟩
    clear hal h0 hl0 H2 H1
    go_wp2_with fail
    go_loopw [10, 11] (fun k i wr => ∃ t : Nat, t ≤ g ∧ i = .int .i64 ((t : Int) + 1) ∧ k = .int .i64 ((min t xs.length : Nat) : Int) ∧ ∃ L F m, m ≤ t + 1 ∧ L.length ≤ t + 1 ∧ Al L F ∧ At5 L F p q t ∧ Hp w wr [Als b lb mb, Slp lb L, Mp mb m F]) (fun _ i _ => g + 1 - (intOf i).toNat)
    case atStart => exact ⟨0, Nat.zero_le _, rfl, by simp, L0, F0, _, by omega, by omega, hal3, h3, H3⟩
    case round =>
      obtain ⟨t, ht, rfl, rfl, L, F, m, hm, hL, ha, h5, H⟩ := hrel
      clear H3 hal3 h3 hl3
      by_cases hlt : t < g
      · have c1 : (t : Int) + 1 ≤ (g : Int) := by omega
        obtain ⟨k, hk, hkl⟩ : ∃ k, k = min t xs.length ∧ k ≤ xs.length := ⟨_, rfl, Nat.min_le_right _ _⟩
        rw [← hk]
        have hkk : k = min t xs.length := hk
        have HKK := Lib.hid hkk
        clear hk hkk
        go_upto_if 50 with fail
        go_cut [10, 12] from 41 to 148 (fun k10 s12 wx => k10 = .int .i64 ((min (t + 1) xs.length : Nat) : Int) ∧ ∃ L F m, m ≤ t + 2 ∧ L.length ≤ t + 2 ∧ Al L F ∧ At5 L F p q t ∧ Hp w wx [Als b lb mb, Slp lb L, Mp mb m F])
        case first =>
          by_cases hkn : k < xs.length
          · obtain ⟨ga, offa, rfl, d0, d1, d2, d3⟩ := acts_cell H hb k hkn
            have c2 : (k : Int) < (xs.length : Int) := by omega
            have hk1 : k + 1 = min (t + 1) xs.length := by have := HKK.out; omega
            have HK := Lib.hid hk1
            have hx := hwf _ (List.getElem_mem hkn)
            clear hk1
            generalize xs[k] = x at *
            obtain ⟨xk, xi, xn, xe⟩ := x
            obtain ⟨x1, x2, x3, x4⟩ := hx
            simp only at d0 d1 d2 d3 x1 x2
            have X2 := Lib.hid x2
            have x5 := wf_u8 x1
            obtain ⟨kd, rfl⟩ : ∃ n : Nat, xk = (n : Int) := ⟨xk.toNat, by omega⟩
            have hmod : (kd : Int).tmod 2 = ((kd % 2 : Nat) : Int) := by rw [show (2 : Int) = ((2 : Nat) : Int) by rfl, Int.ofNat_tmod]
            clear x1 x2 x3 x4
            have b5 : IntKind.i64.wrap ((k : Int) + 1) = (k : Int) + 1 := by rw [IntKind.wrap_i64]; omega
            by_cases h55 : xi = 5
            · subst h55
              have d5 : ((5 : Int) != 5) = false := by decide
              go_wp2_with fail
              go_meet
              exact ⟨by rw [← HK.out]; go_num, L, F, m, by omega, by omega, ha, h5, H.alloc _⟩
            · have d5 : (xi != 5) = true := by simp [h55]
              rcases Nat.mod_two_eq_zero_or_one kd with h2 | h2
              · rw [h2] at hmod
                have HX := (blk_new H (.cells #[.int .u8 kd, .int .i64 xi, .int .i64 xn, .int .i64 xe] 31)).to1
                go_wp2_with fail
                refine (start_any xi xn xe HX ha (by omega) (by omega) X2.out).mono ?_; rintro e w4 ⟨c4', L4, F4, m4, rfl, H4, ha4, hL4, hm4, ho4⟩
                have hx := blk_get (H4.pull 3 rfl)
                have k0 : w4.cell? ⟨wr.heap.size, 0, none⟩ = some (.int .u8 kd) := by rw [cell_blk hx]; rfl
                have k1 : w4.cell? ⟨wr.heap.size, 1, none⟩ = some (.int .i64 xi) := by rw [cell_blk hx]; rfl
                go_wp2_with fail
                go_meet
                exact ⟨by rw [← HK.out]; go_num, L4, F4, m4, by omega, by omega, ha4, at5_others h5 ho4 h55, (H4.pull 3 rfl).tail⟩
              · rw [h2] at hmod
                go_wp2_with fail
                refine (stop_any xi (H.alloc _) ha (by omega) X2.out).mono ?_; rintro e w4 ⟨c4', L4, F4, rfl, H4, ha4, hL4, ho4⟩
                go_wp2_with fail
                go_meet
                exact ⟨by rw [← HK.out]; go_num, L4, F4, m, by omega, by omega, ha4, at5_others h5 ho4 h55, H4⟩
          · have c2 : ¬ (k : Int) < (xs.length : Int) := by omega
            have hk1 : k = min (t + 1) xs.length := by have := HKK.out; omega
            go_wp2_with fail
            go_meet
            exact ⟨by rw [← hk1], L, F, m, by omega, by omega, ha, h5, H⟩
        case rest =>
          obtain ⟨rfl, LT, FT, mT, hmT, hLT, haT, h5T, HT⟩ := hcut
          clear H ha h5
          go_wp2_with fail
          refine (tick_al HT haT (by omega)).mono ?_; rintro e w5 ⟨v, rfl, H5, _⟩
          have h6 := at5_tk h5T haT
          have ha6 := al_tk haT
          have hlf := at5_left h6 ha6
          have hL6 : (tk FT LT).length ≤ t + 2 := Nat.le_trans (tk_len _ _) hLT
          have hwl : (wake LT).length ≤ t + 2 := by have := wl_len LT; omega
          have hcn : cn (wake LT) (wake LT).length = if lv p q t = 1 then 1 else 0 := by
            rw [cn_all haT.ok]; simp only [at5_wake h5T haT]
          obtain ⟨av, cv, rfl⟩ := ints_slice H5
          clear HT
          generalize wake LT = ws at *
          generalize tk FT LT = L6 at *
          have HCN := Lib.hid hcn
          have HLF := Lib.hid hlf
          clear hcn hlf
          go_wp2_with fail
          go_loopw [14, 15] (fun n j wv => ∃ i : Nat, i ≤ ws.length ∧ j = .int .i64 i ∧ n = .int .i64 (cn ws i) ∧ Hp w wv [Ints (.slice av ws.length cv) ws, Als b lb mb, Slp lb L6, Mp mb mT FT]) (fun _ j _ => ws.length - (intOf j).toNat)
          case atStart => exact ⟨0, Nat.zero_le _, rfl, rfl, H5⟩
          case round =>
            obtain ⟨i, hi, rfl, rfl, H7⟩ := hrel
            clear H5
            by_cases hil : i < ws.length
            · obtain ⟨g1, off1, e1, e2, e3⟩ := ints_cell H7 i hil
              cases e2
              have hcs := cn_succ ws i hil
              have hcl := cn_le ws i
              have b1 : (i : Int) < (ws.length : Int) := by omega
              have b2 : IntKind.i64.wrap ((i : Int) + 1) = (i : Int) + 1 := by rw [IntKind.wrap_i64]; omega
              generalize ws[i] = z at *
              by_cases hz : z = 5
              · rw [if_pos hz] at hcs
                have HS := Lib.hid hcs
                clear hcs
                have b3 : IntKind.i64.wrap ((cn ws i : Int) + 1) = (cn ws i : Int) + 1 := by rw [IntKind.wrap_i64]; omega
                subst hz
                go_wp2
                go_roundw
                case rel => exact ⟨i + 1, by omega, by go_num, by rw [HS.out]; go_num, H7⟩
                case measure => simp [intOf]; omega
              · rw [if_neg hz] at hcs
                have HS := Lib.hid hcs
                clear hcs
                go_wp2
                go_roundw
                case rel => exact ⟨i + 1, by omega, by go_num, by rw [HS.out], H7⟩
                case measure => simp [intOf]; omega
            · obtain rfl : i = ws.length := by omega
              have b1 : ¬ (ws.length : Int) < (ws.length : Int) := by omega
              rw [HCN.out]
              have HA : Hp w wr [Als b lb mb, Slp lb L6, Mp mb mT FT] := H7.tail
              clear H7
              have b2 : IntKind.i64.wrap ((t : Int) + 1 + 1) = (t : Int) + 1 + 1 := by rw [IntKind.wrap_i64]; omega
              have fin : ∃ L F m, m ≤ t + 1 + 1 ∧ L.length ≤ t + 1 + 1 ∧ Al L F ∧ At5 L F p q (t + 1) ∧ Hp w wr [Als b lb mb, Slp lb L, Mp mb m F] := ⟨L6, FT, mT, by omega, by omega, ha6, h6, HA⟩
              by_cases ta : t < p
              · have d1 : ¬ lv p q t = 1 := by rw [lv_lt (by omega)]; omega
                rw [if_neg d1]
                clear d1
                obtain ⟨y, hy⟩ : ∃ y : Int, y = 1 + (p : Int) - ((t : Int) + 1) := ⟨_, rfl⟩
                have hlv : (lf L6 5).1 = y := by rw [HLF.out, lv_lt (by omega)]; omega
                have b4 : IntKind.i64.wrap (1 + (p : Int) - ((t : Int) + 1)) = y := by rw [IntKind.wrap_i64]; omega
                have c3 : ((t : Int) + 1 == 1 + (p : Int)) = false := by simp; omega
                have c3' : ¬ (t : Int) + 1 = 1 + (p : Int) := by omega
                have c4 : ¬ 1 + (p : Int) < (t : Int) + 1 := by omega
                have c5 : (t : Int) + 1 < 1 + (p : Int) := by omega
                clear hy
                by_cases hq0 : 0 < (q : Int)
                · skip
                  go_wp2_with fail
                  refine (left_al 5 HA ha6.ok (by omega)).mono ?_; rintro e w6 ⟨rfl, H8⟩
                  rw [hlv]
                  go_wp2
                  go_roundw
                  case rel => exact ⟨t + 1, by omega, by go_num, rfl, L6, FT, mT, by omega, by omega, ha6, h6, H8⟩
                  case measure => simp [intOf]; omega
                · skip
                  go_wp2_with fail
                  refine (left_al 5 HA ha6.ok (by omega)).mono ?_; rintro e w6 ⟨rfl, H8⟩
                  rw [hlv]
                  go_wp2
                  go_roundw
                  case rel => exact ⟨t + 1, by omega, by go_num, rfl, L6, FT, mT, by omega, by omega, ha6, h6, H8⟩
                  case measure => simp [intOf]; omega
              · have c5 : ¬ (t : Int) + 1 < 1 + (p : Int) := by omega
                obtain ⟨s, hs⟩ : ∃ s, s = t - p := ⟨_, rfl⟩
                have b4 : IntKind.i64.wrap ((t : Int) + 1 - (1 + (p : Int))) = s := by rw [IntKind.wrap_i64]; omega
                have hdue := lv_due p q t
                rw [← hs] at hdue
                by_cases hq0 : 0 < (q : Int)
                · have c7 : ¬ (q : Int) = 0 := by omega
                  obtain ⟨ρ, hρ⟩ : ∃ ρ, ρ = s % q := ⟨_, rfl⟩
                  have hρl : ρ < q := by rw [hρ]; exact Nat.mod_lt _ (by omega)
                  have b6 : (s : Int).tmod (q : Int) = ρ := by rw [hρ, Int.ofNat_tmod]
                  obtain ⟨y, hy⟩ : ∃ y : Int, y = (q : Int) - (ρ : Int) := ⟨_, rfl⟩
                  have hlv : (lf L6 5).1 = y := by rw [HLF.out, lv_ge (by omega) (by omega), show t + 1 - (p + 1) = s by omega, ← hρ, hy]
                  have b7 : IntKind.i64.wrap ((q : Int) - (ρ : Int)) = y := by rw [IntKind.wrap_i64]; omega
                  have b8 : IntKind.i64.wrap (ρ : Int) = ρ := by rw [IntKind.wrap_i64]; omega
                  rw [← hρ] at hdue
                  have HY := Lib.hid hy
                  clear hy hρ
                  by_cases tb : t = p
                  · have d1 : lv p q t = 1 := hdue.2 (Or.inl tb)
                    rw [if_pos d1]
                    have c3 : ((t : Int) + 1 == 1 + (p : Int)) = true := by simp; omega
                    have c4 : ¬ 1 + (p : Int) < (t : Int) + 1 := by omega
                    have TB := Lib.hid tb
                    have HSS := Lib.hid hs
                    clear tb hs hdue d1
                    go_wp2_with fail
                    refine (left_al 5 HA ha6.ok (by omega)).mono ?_; rintro e w6 ⟨rfl, H8⟩
                    rw [hlv]
                    go_wp2
                    go_roundw
                    case rel => exact ⟨t + 1, by omega, by go_num, rfl, L6, FT, mT, by omega, by omega, ha6, h6, H8⟩
                    case measure => simp [intOf]; omega
                  · have c3 : ((t : Int) + 1 == 1 + (p : Int)) = false := by simp; omega
                    have c3' : ¬ (t : Int) + 1 = 1 + (p : Int) := by omega
                    have c4 : 1 + (p : Int) < (t : Int) + 1 := by omega
                    have HSS := Lib.hid hs
                    by_cases hr0 : ρ = 0
                    · have d1 : lv p q t = 1 := hdue.2 (Or.inr ⟨by omega, by omega, hr0⟩)
                      rw [if_pos d1]
                      have hy := HY.out
                      obtain rfl : y = (q : Int) := by omega
                      subst hr0
                      clear hs hdue d1 hy HY
                      go_wp2_with fail
                      refine (left_al 5 HA ha6.ok (by omega)).mono ?_; rintro e w6 ⟨rfl, H8⟩
                      rw [hlv]
                      go_wp2
                      go_roundw
                      case rel => exact ⟨t + 1, by omega, by go_num, rfl, L6, FT, mT, by omega, by omega, ha6, h6, H8⟩
                      case measure => simp [intOf]; omega
                    · have d1 : ¬ lv p q t = 1 := fun h => by rcases hdue.1 h with h | ⟨_, _, h⟩ <;> omega
                      rw [if_neg d1]
                      have c8 : ((ρ : Int) == 0) = false := by simp; omega
                      have c8' : ¬ (ρ : Int) = 0 := by omega
                      clear hs hdue d1
                      go_wp2_with fail
                      refine (left_al 5 HA ha6.ok (by omega)).mono ?_; rintro e w6 ⟨rfl, H8⟩
                      rw [hlv]
                      go_wp2
                      go_roundw
                      case rel => exact ⟨t + 1, by omega, by go_num, rfl, L6, FT, mT, by omega, by omega, ha6, h6, H8⟩
                      case measure => simp [intOf]; omega
                · have hlv : (lf L6 5).1 = 0 := by rw [HLF.out, lv_none (by omega) (by omega)]
                  by_cases tb : t = p
                  · have d1 : lv p q t = 1 := hdue.2 (Or.inl tb)
                    rw [if_pos d1]
                    have c3 : ((t : Int) + 1 == 1 + (p : Int)) = true := by simp; omega
                    have c4 : ¬ 1 + (p : Int) < (t : Int) + 1 := by omega
                    have TB := Lib.hid tb
                    have HSS := Lib.hid hs
                    clear tb hs hdue d1
                    go_wp2_with fail
                    refine (left_al 5 HA ha6.ok (by omega)).mono ?_; rintro e w6 ⟨rfl, H8⟩
                    rw [hlv]
                    go_wp2
                    go_roundw
                    case rel => exact ⟨t + 1, by omega, by go_num, rfl, L6, FT, mT, by omega, by omega, ha6, h6, H8⟩
                    case measure => simp [intOf]; omega
                  · have c3 : ((t : Int) + 1 == 1 + (p : Int)) = false := by simp; omega
                    have c3' : ¬ (t : Int) + 1 = 1 + (p : Int) := by omega
                    have c4 : 1 + (p : Int) < (t : Int) + 1 := by omega
                    have d1 : ¬ lv p q t = 1 := fun h => by rcases hdue.1 h with h | ⟨h, _, _⟩ <;> omega
                    rw [if_neg d1]
                    have HSS := Lib.hid hs
                    clear hs hdue d1
                    go_wp2_with fail
                    refine (left_al 5 HA ha6.ok (by omega)).mono ?_; rintro e w6 ⟨rfl, H8⟩
                    rw [hlv]
                    go_wp2
                    go_roundw
                    case rel => exact ⟨t + 1, by omega, by go_num, rfl, L6, FT, mT, by omega, by omega, ha6, h6, H8⟩
                    case measure => simp [intOf]; omega
      · have c1 : ¬ (t : Int) + 1 ≤ (g : Int) := by omega
        go_wp2_with fail
        refine (lives_c _).mono ?_; rintro e w3 ⟨rfl, hb3⟩
        go_wp2
        go_ret
        exact ⟨rfl, (H.below_read hb3).below⟩
end Go.Proofs.Ytllfkgdmneabiaa
