/- DeltasLeft of timekeeperlaw10: the walk. -/
import Derived.Test.YtgcakjcljfhmpaaWke
import Derived.Test.YtgcakjcljfhmpaaPlm
set_option linter.unusedVariables false
set_option linter.unusedSimpArgs false
namespace Go.Proofs.Ytgcakjcljfhmpaa
open Go.RowKit Go.Shelf
attribute [local go_sem] Oper.semAt_some

theorem ints_cell {w0 w : World} {r : List Thing} {v : Value} {zs : List Int} (h : Hp w0 w (Ints v zs :: r)) (j : Nat) (hj : j < zs.length) : ∃ g off c, v = .slice (some ⟨g, off, none⟩) zs.length c ∧ w.cell? ⟨g, off + j, none⟩ = some (.int .i64 zs[j]) := by
  obtain ⟨S, h1, _⟩ := h.lay
  rcases h1 with ⟨rfl, rfl, _⟩ | ⟨g, off, c, o, e, _, h2, _⟩
  · simp at hj
  · exact ⟨g, off, c, e, h2 j hj⟩
theorem ints_slice {w0 w : World} {r : List Thing} {v : Value} {zs : List Int} (h : Hp w0 w (Ints v zs :: r)) : ∃ a c, v = .slice a zs.length c := by
  obtain ⟨S, h1, _⟩ := h.lay
  rcases h1 with ⟨rfl, rfl, _⟩ | ⟨g, off, c, o, e, _, h2, _⟩
  · exact ⟨_, _, rfl⟩
  · exact ⟨_, _, e⟩

set_option maxHeartbeats 8000000 in
set_option maxRecDepth 20000 in
theorem left_law (a : Option Addr) (n c : Nat) (ts : List Int) (g : Nat) (hg : g < 256) (w : World) (hb : Lib.BytesIn w a n ts) (hts : ∀ x ∈ ts, 0 ≤ x ∧ x < 256) :
    Calls Try.prog 5 #[.slice a n c, .int .u8 g] w fun e w' => e = .returned (.bool true) ∧ Below w.heap.size w w' := by
  go_enter Try.func5, Try.ntmps5
  go_wp2_with fail
  refine (alive_c w).mono ?_; rintro e w1 ⟨rfl, hb1⟩
  have H1 := (Hp.start w).below_read hb1
  have hgw : IntKind.i64.wrap (g : Int) = g := by rw [IntKind.wrap_i64]; omega
  by_cases hn : 100 < (n : Int)
  · go_wp2_with fail
    refine (alive_c w1).mono ?_; rintro e w2 ⟨rfl, hb2⟩
    go_wp2
    go_ret
    exact ⟨rfl, (H1.below_read hb2).below⟩
  · go_wp2_with fail
    refine (filled_c a n c ts H1 hb hts (by omega)).mono ?_; rintro e w2 ⟨b, rfl, H2⟩
    have hbd := getD_bd hts
    have hok := ok_fil hbd n
    have hln : ∀ t, (lessN (fil ts n) t).length ≤ n := fun t => by have := lessN_len (fil ts n) t; rw [fil_len] at this; exact this
    go_wp2_with fail
    go_loopw [6] (fun i wr => ∃ t : Nat, t ≤ g ∧ i = .int .i64 t ∧ Hp w wr [Slp b (lessN (fil ts n) t)]) (fun i _ => g - (intOf i).toNat)
    case atStart => exact ⟨0, by omega, rfl, H2⟩
    case round =>
      obtain ⟨t, ht, rfl, H⟩ := hrel
      by_cases hlt : t < g
      · have c1 : (t : Int) < (g : Int) := by omega
        go_wp2_with fail
        refine (tick_h H (ok_lessN hok t) (by have := hln t; omega)).mono ?_; rintro e w3 ⟨v, rfl, H3, _⟩
        have H4 : Hp w w3 [Slp b (lessN (fil ts n) (t + 1))] := H3.tail
        clear H3 H
        go_wp2
        go_roundw
        case rel => exact ⟨t + 1, by omega, by go_num, H4⟩
        case measure => simp [intOf]; omega
      · have hte : t = g := by omega
        subst hte
        have c1 : ¬ (t : Int) < (t : Int) := by omega
        go_wp2_with fail
        go_loopw [7, 8] (fun q i wr => ∃ k : Nat, k ≤ n ∧ i = .int .i64 k ∧ q = .int .i64 (cnt ts t k) ∧ Hp w wr [Slp b (lessN (fil ts n) t)]) (fun _ i _ => n - (intOf i).toNat)
        case atStart => exact ⟨0, by omega, rfl, rfl, H⟩
        case round =>
          obtain ⟨k, hk, rfl, rfl, H5⟩ := hrel
          by_cases hkn : k < n
          · obtain ⟨g', off', rfl, hc⟩ := bytes_cell H5 hb k hkn
            have hlf := lf_gone (g := t) hbd k hkn
            have hcs := cnt_succ ts t k
            have hcl := cnt_le ts t k
            have hx := hbd k
            have c2 : (k : Int) < (n : Int) := by omega
            generalize ts.getD k 0 = x at *
            generalize cnt ts t k = q at *
            have hw1 : IntKind.i64.wrap x = x := by rw [IntKind.wrap_i64]; omega
            have hw2 : IntKind.i64.wrap (x + 1) = x + 1 := by rw [IntKind.wrap_i64]; omega
            have hw3 : IntKind.i64.wrap (x + 1 - t) = x + 1 - t := by rw [IntKind.wrap_i64]; omega
            by_cases hp : 0 < x + 1 - (t : Int)
            · rw [if_pos hp] at hlf hcs
              have HS := Lib.hid hcs
              clear hcs
              go_wp2_with fail
              refine (left_h k H5 (ok_lessN hok t) (by have := hln t; omega)).mono ?_; rintro e w3 ⟨rfl, H6⟩
              rw [hlf]
              clear H5 H
              go_wp2
              go_roundw
              case rel => exact ⟨k + 1, by omega, by go_num, by rw [HS.out]; go_num, H6⟩
              case measure => simp [intOf]; omega
            · rw [if_neg hp] at hlf hcs
              have HS := Lib.hid hcs
              clear hcs
              have hp2 : x + 1 - (t : Int) ≤ 0 := by omega
              go_wp2_with fail
              refine (left_h k H5 (ok_lessN hok t) (by have := hln t; omega)).mono ?_; rintro e w3 ⟨rfl, H6⟩
              rw [hlf]
              clear H5 H
              go_wp2
              go_roundw
              case rel => exact ⟨k + 1, by omega, by go_num, by rw [HS.out], H6⟩
              case measure => simp [intOf]; omega
          · have hke : k = n := by omega
            subst hke
            have c2 : ¬ (k : Int) < (k : Int) := by omega
            go_wp2_with fail
            refine (all_h H5 (by have := hln t; omega)).mono ?_; rintro e w3 ⟨v, rfl, H6, _⟩
            have hlen : ((lessN (fil ts k) t).map Prod.fst).length = cnt ts t k := by rw [List.length_map, len_gone hbd]
            have hnx := gone_next hbd k t
            have hcl := cnt_le ts t k
            clear H5 H
            obtain ⟨zs, hzs⟩ : ∃ zs, zs = (lessN (fil ts k) t).map Prod.fst := ⟨_, rfl⟩
            rw [← hzs] at H6 hlen
            have hnx2 : ∀ (m : Nat) (hm : m + 1 < zs.length), ∃ i j : Nat, i < k ∧ j < k ∧ zs[m]'(by omega) = i ∧ zs[m + 1] = j ∧ (ts.getD i 0 < ts.getD j 0 ∨ (ts.getD i 0 = ts.getD j 0 ∧ i < j)) := by
              subst hzs; exact hnx
            clear hnx
            have hnx := Lib.hid hnx2
            clear hnx2 hzs
            rw [← hlen] at hcl ⊢
            clear hlen
            obtain ⟨av, cv, rfl⟩ := ints_slice H6
            go_wp2_with fail
            go_loopw [13] (fun i wr => ∃ m : Nat, (m = 0 ∨ m + 1 ≤ zs.length) ∧ i = .int .i64 ((m : Int) + 1) ∧ Hp w wr [Ints (.slice av zs.length cv) zs, Slp b (lessN (fil ts k) t)]) (fun i _ => zs.length + 1 - (intOf i).toNat)
            case atStart => exact ⟨0, Or.inl rfl, rfl, H6⟩
            case round =>
              obtain ⟨m, hm, rfl, H7⟩ := hrel
              by_cases hml : m + 1 < zs.length
              · obtain ⟨i, j, i1, j1, e1, e2, e3⟩ := hnx.out m hml
                obtain ⟨ga, offa, ca, e4, d1⟩ := ints_cell H7 m (by omega)
                obtain ⟨ga', offa', ca', e4', d2⟩ := ints_cell H7 (m + 1) (by omega)
                cases e4
                cases e4'
                obtain ⟨gb, offb, rfl, d3⟩ := bytes_cell H7 hb i i1
                obtain ⟨gb', offb', e5, d4⟩ := bytes_cell H7 hb j j1
                cases e5
                rw [e1] at d1
                rw [e2] at d2
                have hxi := hbd i
                have hxj := hbd j
                generalize ts.getD i 0 = x at *
                generalize ts.getD j 0 = y at *
                have c3 : (m : Int) + 1 < (zs.length : Int) := by omega
                have hw1 : IntKind.i64.wrap ((m : Int) + 1 + 1) = (m : Int) + 1 + 1 := by rw [IntKind.wrap_i64]; omega
                have c4 : ¬ (i : Int) < 0 := by omega
                have c5 : ¬ (j : Int) < 0 := by omega
                have c6 : (i : Int) < (k : Int) := by omega
                have c7 : (j : Int) < (k : Int) := by omega
                have c8 : x ≤ y := by omega
                clear e1 e2
                have c10 : ¬ y < x := by omega
                have c11 : ¬ (k : Int) ≤ (i : Int) := by omega
                have c12 : ¬ (k : Int) ≤ (j : Int) := by omega
                have b1 : IntKind.i64.wrap ((m : Int) + 1 - 1) = (m : Int) := by rw [IntKind.wrap_i64]; omega
                have E3 := Lib.hid e3
                by_cases hxy : x = y
                · have c9 : ¬ (j : Int) < (i : Int) := by omega
                  subst hxy
                  clear e3
                  go_wp2
                  go_quiet (fail)
                  go_wp2
                  go_roundw
                  case rel => exact ⟨m + 1, Or.inr (by omega), by go_num, H7.drewN _⟩
                  case measure => simp [intOf]; omega
                · have hxy' : (x == y) = false := by simpa using hxy
                  clear e3
                  go_wp2
                  go_quiet (fail)
                  go_wp2
                  go_roundw
                  case rel => exact ⟨m + 1, Or.inr (by omega), by go_num, H7.drewN _⟩
                  case measure => simp [intOf]; omega
              · have c3 : ¬ (m : Int) + 1 < (zs.length : Int) := by omega
                go_wp2
                go_ret
                exact ⟨rfl, H7.below⟩
end Go.Proofs.Ytgcakjcljfhmpaa
