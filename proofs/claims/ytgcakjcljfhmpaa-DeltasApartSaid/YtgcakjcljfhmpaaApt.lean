/- DeltasApart of timekeeperlaw10: the walk. -/
import Derived.Test.YtgcakjcljfhmpaaWke
import Derived.Test.YtgcakjcljfhmpaaPla
set_option linter.unusedVariables false
set_option linter.unusedSimpArgs false
namespace Go.Proofs.Ytgcakjcljfhmpaa
open Go.RowKit Go.Shelf
attribute [local go_sem] Oper.semAt_some

set_option maxHeartbeats 8000000 in
theorem apart_law (a : Option Addr) (n c : Nat) (ts : List Int) (q r : Nat) (hq : q < 256) (hr : r < 256) (w : World) (hb : Lib.BytesIn w a n ts) (hts : ∀ x ∈ ts, 0 ≤ x ∧ x < 256) :
    Calls Try.prog 6 #[.slice a n c, .int .u8 q, .int .u8 r] w fun e w' => e = .returned (.bool true) ∧ Below w.heap.size w w' := by
  obtain ⟨i0, hi, hz0, hz1, hz2⟩ := info_parts info_int
  go_enter Try.func6, Try.ntmps6
  go_wp2_with fail
  refine (alive_c w).mono ?_; rintro e w1 ⟨rfl, hb1⟩
  have H1 := (Hp.start w).below_read hb1
  have hqw : IntKind.i64.wrap (q : Int) = q := by rw [IntKind.wrap_i64]; omega
  have hrw : IntKind.i64.wrap (r : Int) = r := by rw [IntKind.wrap_i64]; omega
  by_cases hn : 60 < (n : Int) ∨ n = 0
  · have fin : ∀ w2, Below w1.heap.size w1 w2 → Below w.heap.size w w2 := fun w2 hb2 => (H1.below_read hb2).below
    rcases hn with hn | rfl
    · go_wp2_with fail
      refine (alive_c w1).mono ?_; rintro e w2 ⟨rfl, hb2⟩
      go_wp2
      go_ret
      exact ⟨rfl, fin w2 hb2⟩
    · go_wp2_with fail
      refine (alive_c w1).mono ?_; rintro e w2 ⟨rfl, hb2⟩
      go_wp2
      go_ret
      exact ⟨rfl, fin w2 hb2⟩
  · have hn1 : ¬ 60 < (n : Int) := fun h => hn (Or.inl h)
    have hn0 : ¬ (n : Int) = 0 := by omega
    have hn0' : ((n : Int) == 0) = false := by simpa using hn0
    have hn0'' : ¬ n = 0 := by omega
    have hbd := getD_bd hts
    have hmod : (q : Int).tmod (n : Int) = ((q % n : Nat) : Int) := by rw [Int.ofNat_tmod]
    obtain ⟨k, hk, hkn⟩ : ∃ k, k = q % n ∧ k < n := ⟨_, rfl, Nat.mod_lt _ (by omega)⟩
    rw [← hk] at hmod
    clear hk hn
    have hkw : IntKind.i64.wrap (k : Int) = k := by rw [IntKind.wrap_i64]; omega
    go_wp2_with fail
    refine (filled_c a n c ts H1 hb hts (by omega)).mono ?_; rintro e w2 ⟨b, rfl, H2⟩
    go_wp2_with fail
    refine (remove_h k H2 (ok_fil hbd n) (by rw [fil_len]; omega) (fil_fst.2 ⟨k, hkn, rfl⟩)).mono ?_; rintro e w3 ⟨rfl, H3⟩
    have hbl := but_len (fil ts n) k
    rw [fil_len] at hbl
    go_wp2_with fail
    refine (remove_arg_h k H3 (by omega) (but_out _ _)).mono ?_; rintro e w4 ⟨rfl, H4⟩
    by_cases h0 : 0 < (r : Int)
    · go_wp2_with fail
      refine (put_h k r H4 (ok_but (ok_fil hbd n) _) (by omega) (but_out _ _) (by omega) (by omega) (by omega)).mono ?_; rintro e w5 ⟨rfl, H5⟩
      have hap : ins (but (fil ts n) k) k r = apt ts n k r := by unfold apt; rw [if_pos (by omega)]
      rw [hap] at H5
      clear H1 H2 H3 H4 hap
      go_wp2_with fail
      go_loopw [9] (fun i wr => ∃ t : Nat, t ≤ 257 ∧ i = .int .i64 t ∧ Hp w wr [Slp b (lessN (apt ts n k r) t)]) (fun i _ => 257 - (intOf i).toNat)
      case atStart => exact ⟨0, by omega, rfl, H5⟩
      case round =>
        obtain ⟨t, ht, rfl, H⟩ := hrel
        have HH := Lib.hid H
        obtain ⟨wo, rfl⟩ : ∃ x, x = wr := ⟨_, rfl⟩
        by_cases hlt : t < 257
        · have c1 : (t : Int) ≤ 256 := by omega
          have hw0 : IntKind.i64.wrap ((t : Int) + 1) = (t : Int) + 1 := by rw [IntKind.wrap_i64]; omega
          go_wp2_with fail
          go_loopw [10, 11] (fun v i wv => ∃ j : Nat, j ≤ n ∧ i = .int .i64 j ∧ wv.ownsRow wo.heap.size 3 1 v (wtk ts k t j).length ((wtk ts k t j).map (Value.int .i64)) ∧ Below wo.heap.size wo wv) (fun _ i _ => n - (intOf i).toNat)
          case atStart => exact ⟨0, Nat.zero_le _, rfl, World.ownsRow_nil _ _ _ _, Below.refl _ _⟩
          case round =>
            obtain ⟨j, hj, rfl, hown, hB⟩ := hrel
            have hle := wtk_le ts k t j
            by_cases hjn : j < n
            · obtain ⟨g, off, rfl, hc⟩ := bytes_cell HH.out hb j hjn
              have hc2 := (hB.cell (p := ⟨g, off + j, none⟩) (World.block_lt_of_cell? _ _ hc)).trans hc
              have hs := wtk_succ ts k t j
              have hx := hbd j
              have c2 : (j : Int) < (n : Int) := by omega
              clear hc
              generalize wtk ts k t j = zs at *
              skip
              generalize ts.getD j 0 = x at *
              have hw1 : IntKind.i64.wrap x = x := by rw [IntKind.wrap_i64]; omega
              by_cases hjk : j = k
              · rw [if_neg (by omega)] at hs
                have HS := Lib.hid hs
                clear hs
                have c3 : ((j : Int) != (k : Int)) = false := by simp [hjk]
                have c3' : (j : Int) = (k : Int) := by omega
                go_wp2
                go_roundw
                case rel => exact ⟨j + 1, by omega, by go_num, by rw [HS.out]; exact hown, hB⟩
                case measure => simp [intOf]; omega
              · have c3 : ((j : Int) != (k : Int)) = true := by simp; omega
                have c3' : ¬ (j : Int) = (k : Int) := by omega
                by_cases he : x = t
                · rw [if_pos ⟨hjk, he⟩] at hs
                  have HS := Lib.hid hs
                  clear hs
                  subst he
                  go_wp2_with (at_builtin; refine wpList_append_own _ rfl (.tmp 78) (.tmp 80) 32 rfl wo.heap.size 3 i0 (.int .i64 0) 1 8 Try.underlying32 hi hz0 hz1 hz2 rfl (by decide) _ _ _ rfl (hown.alloc _) ⟨wr.heap.size, 0, none⟩ 1 1 [.int .i64 j] rfl rfl ?p11 ?p12 ?p13 ?p14 ?p15 ?_)
                  case p11 =>
                    intro j u hj
                    match j, hj with
                    | 0, hj => simp at hj; subst hj; simp [Addr.add]
                  case p12 => intro u hu; simp at hu; subst hu; rfl
                  case p13 => unfold maxLen; omega
                  case p14 => omega
                  case p15 => have := hB.size; simp; omega
                  intro v' w6 hown' hgrow _
                  have hB1 : Below wo.heap.size wo w6 := (hB.alloc hB.size _).grown hgrow (by have := hB.size; simp; omega) (fun g' e => (hown.lt g' e).1)
                  have ho2 : w6.ownsRow wo.heap.size 3 1 v' (zs ++ [(j : Int)]).length ((zs ++ [(j : Int)]).map (Value.int .i64)) := by
                    rw [List.length_append, List.map_append]; exact hown'
                  clear hown' hgrow hown hB hc2
                  go_wp2
                  go_roundw
                  case rel => exact ⟨j + 1, by omega, by go_num, by rw [HS.out]; exact ho2, hB1⟩
                  case measure => simp [intOf]; omega
                · rw [if_neg (fun h => he h.2)] at hs
                  have HS := Lib.hid hs
                  clear hs
                  go_wp2
                  go_roundw
                  case rel => exact ⟨j + 1, by omega, by go_num, by rw [HS.out]; exact hown, hB⟩
                  case measure => simp [intOf]; omega
            · have hje : j = n := by omega
              subst hje
              have c2 : ¬ (j : Int) < (j : Int) := by omega
              have hwk := wake_apt hbd j k r t
              have hln : (lessN (apt ts j k r) t).length ≤ j + 1 := Nat.le_trans (lessN_len _ _) (apt_len _ _ _ _)
              have hok := ok_lessN (ok_apt hbd j k r hr) t
              by_cases hrt : r = t + 1
              · rw [if_pos hrt] at hwk
                have c4 : ((r : Int) == (t : Int) + 1) = true := by simp; omega
                have hrt' := Lib.hid hrt
                clear hrt
                generalize wtk ts k t j = zs at *
                go_wp2_with (at_builtin; refine wpList_append_own _ rfl (.tmp 87) (.tmp 89) 32 rfl wo.heap.size 3 i0 (.int .i64 0) 1 8 Try.underlying32 hi hz0 hz1 hz2 rfl (by decide) _ _ _ rfl (hown.alloc _) ⟨wr.heap.size, 0, none⟩ 1 1 [.int .i64 k] rfl rfl (by intro j' u hj'; match j', hj' with | 0, hj' => (simp at hj'; subst hj'; simp [Addr.add])) (by intro u hu; simp at hu; subst hu; rfl) (by unfold maxLen; omega) (by omega) (by have := hB.size; simp; omega) ?_)
                intro v' w6 hown' hgrow _
                have hB1 : Below wo.heap.size wo w6 := (hB.alloc hB.size _).grown hgrow (by have := hB.size; simp; omega) (fun g' e => (hown.lt g' e).1)
                have ho2 : w6.ownsRow wo.heap.size 3 1 v' (zs ++ [(k : Int)]).length ((zs ++ [(k : Int)]).map (Value.int .i64)) := by
                  rw [List.length_append, List.map_append]; exact hown'
                have H6 := HH.out.own hB1 rfl ho2
                clear hown' hgrow hown hB ho2 hB1
                go_wp2_with fail
                refine (tick_h H6.up1 hok (by omega)).mono ?_; rintro e w7 ⟨v2, rfl, H7, _⟩
                rw [hwk] at H7
                go_wp2_with fail
                refine (same_h (H7.pull 2 rfl).up1 (by simp; omega) (by simp; omega)).mono ?_; rintro e w8 ⟨rfl, H8⟩
                rw [decide_eq_true rfl]
                have H9 : Hp w w8 [Slp b (lessN (apt ts j k r) (t + 1))] := H8.tail.tail
                clear H8 H7 H6
                go_wp2
                go_roundw
                case rel => exact ⟨t + 1, by omega, by go_num, H9⟩
                case measure => simp [intOf]; omega
              · rw [if_neg hrt] at hwk
                have c4 : ¬ (r : Int) = (t : Int) + 1 := by omega
                have H6 := HH.out.own hB rfl hown
                clear hown hB
                generalize wtk ts k t j = zs at *
                go_wp2_with fail
                refine (tick_h H6.up1 hok (by omega)).mono ?_; rintro e w7 ⟨v2, rfl, H7, _⟩
                rw [hwk] at H7
                go_wp2_with fail
                refine (same_h (H7.pull 2 rfl).up1 (by omega) (by omega)).mono ?_; rintro e w8 ⟨rfl, H8⟩
                rw [decide_eq_true rfl]
                have H9 : Hp w w8 [Slp b (lessN (apt ts j k r) (t + 1))] := H8.tail.tail
                clear H8 H7 H6
                go_wp2
                go_roundw
                case rel => exact ⟨t + 1, by omega, by go_num, H9⟩
                case measure => simp [intOf]; omega
        · have hte : t = 257 := by omega
          subst hte
          have c1 : ¬ ((257 : Nat) : Int) ≤ 256 := by omega
          go_wp2
          go_ret
          exact ⟨rfl, H.below⟩
    · have hap : but (fil ts n) k = apt ts n k r := by unfold apt; rw [if_neg (by omega)]
      rw [hap] at H4
      have H5 := H4
      clear H1 H2 H3 H4 hap
      go_wp2_with fail
      go_loopw [9] (fun i wr => ∃ t : Nat, t ≤ 257 ∧ i = .int .i64 t ∧ Hp w wr [Slp b (lessN (apt ts n k r) t)]) (fun i _ => 257 - (intOf i).toNat)
      case atStart => exact ⟨0, by omega, rfl, H5⟩
      case round =>
        obtain ⟨t, ht, rfl, H⟩ := hrel
        have HH := Lib.hid H
        obtain ⟨wo, rfl⟩ : ∃ x, x = wr := ⟨_, rfl⟩
        by_cases hlt : t < 257
        · have c1 : (t : Int) ≤ 256 := by omega
          have hw0 : IntKind.i64.wrap ((t : Int) + 1) = (t : Int) + 1 := by rw [IntKind.wrap_i64]; omega
          go_wp2_with fail
          go_loopw [10, 11] (fun v i wv => ∃ j : Nat, j ≤ n ∧ i = .int .i64 j ∧ wv.ownsRow wo.heap.size 3 1 v (wtk ts k t j).length ((wtk ts k t j).map (Value.int .i64)) ∧ Below wo.heap.size wo wv) (fun _ i _ => n - (intOf i).toNat)
          case atStart => exact ⟨0, Nat.zero_le _, rfl, World.ownsRow_nil _ _ _ _, Below.refl _ _⟩
          case round =>
            obtain ⟨j, hj, rfl, hown, hB⟩ := hrel
            have hle := wtk_le ts k t j
            by_cases hjn : j < n
            · obtain ⟨g, off, rfl, hc⟩ := bytes_cell HH.out hb j hjn
              have hc2 := (hB.cell (p := ⟨g, off + j, none⟩) (World.block_lt_of_cell? _ _ hc)).trans hc
              have hs := wtk_succ ts k t j
              have hx := hbd j
              have c2 : (j : Int) < (n : Int) := by omega
              clear hc
              generalize wtk ts k t j = zs at *
              skip
              generalize ts.getD j 0 = x at *
              have hw1 : IntKind.i64.wrap x = x := by rw [IntKind.wrap_i64]; omega
              by_cases hjk : j = k
              · rw [if_neg (by omega)] at hs
                have HS := Lib.hid hs
                clear hs
                have c3 : ((j : Int) != (k : Int)) = false := by simp [hjk]
                have c3' : (j : Int) = (k : Int) := by omega
                go_wp2
                go_roundw
                case rel => exact ⟨j + 1, by omega, by go_num, by rw [HS.out]; exact hown, hB⟩
                case measure => simp [intOf]; omega
              · have c3 : ((j : Int) != (k : Int)) = true := by simp; omega
                have c3' : ¬ (j : Int) = (k : Int) := by omega
                by_cases he : x = t
                · rw [if_pos ⟨hjk, he⟩] at hs
                  have HS := Lib.hid hs
                  clear hs
                  subst he
                  go_wp2_with (at_builtin; refine wpList_append_own _ rfl (.tmp 78) (.tmp 80) 32 rfl wo.heap.size 3 i0 (.int .i64 0) 1 8 Try.underlying32 hi hz0 hz1 hz2 rfl (by decide) _ _ _ rfl (hown.alloc _) ⟨wr.heap.size, 0, none⟩ 1 1 [.int .i64 j] rfl rfl ?p31 ?p32 ?p33 ?p34 ?p35 ?_)
                  case p31 =>
                    intro j u hj
                    match j, hj with
                    | 0, hj => simp at hj; subst hj; simp [Addr.add]
                  case p32 => intro u hu; simp at hu; subst hu; rfl
                  case p33 => unfold maxLen; omega
                  case p34 => omega
                  case p35 => have := hB.size; simp; omega
                  intro v' w6 hown' hgrow _
                  have hB1 : Below wo.heap.size wo w6 := (hB.alloc hB.size _).grown hgrow (by have := hB.size; simp; omega) (fun g' e => (hown.lt g' e).1)
                  have ho2 : w6.ownsRow wo.heap.size 3 1 v' (zs ++ [(j : Int)]).length ((zs ++ [(j : Int)]).map (Value.int .i64)) := by
                    rw [List.length_append, List.map_append]; exact hown'
                  clear hown' hgrow hown hB hc2
                  go_wp2
                  go_roundw
                  case rel => exact ⟨j + 1, by omega, by go_num, by rw [HS.out]; exact ho2, hB1⟩
                  case measure => simp [intOf]; omega
                · rw [if_neg (fun h => he h.2)] at hs
                  have HS := Lib.hid hs
                  clear hs
                  go_wp2
                  go_roundw
                  case rel => exact ⟨j + 1, by omega, by go_num, by rw [HS.out]; exact hown, hB⟩
                  case measure => simp [intOf]; omega
            · have hje : j = n := by omega
              subst hje
              have c2 : ¬ (j : Int) < (j : Int) := by omega
              have hwk := wake_apt hbd j k r t
              have hln : (lessN (apt ts j k r) t).length ≤ j + 1 := Nat.le_trans (lessN_len _ _) (apt_len _ _ _ _)
              have hok := ok_lessN (ok_apt hbd j k r hr) t
              by_cases hrt : r = t + 1
              · exact absurd hrt (by omega)
              · rw [if_neg hrt] at hwk
                have c4 : ¬ (r : Int) = (t : Int) + 1 := by omega
                have H6 := HH.out.own hB rfl hown
                clear hown hB
                generalize wtk ts k t j = zs at *
                go_wp2_with fail
                refine (tick_h H6.up1 hok (by omega)).mono ?_; rintro e w7 ⟨v2, rfl, H7, _⟩
                rw [hwk] at H7
                go_wp2_with fail
                refine (same_h (H7.pull 2 rfl).up1 (by omega) (by omega)).mono ?_; rintro e w8 ⟨rfl, H8⟩
                rw [decide_eq_true rfl]
                have H9 : Hp w w8 [Slp b (lessN (apt ts j k r) (t + 1))] := H8.tail.tail
                clear H8 H7 H6
                go_wp2
                go_roundw
                case rel => exact ⟨t + 1, by omega, by go_num, H9⟩
                case measure => simp [intOf]; omega
        · have hte : t = 257 := by omega
          subst hte
          have c1 : ¬ ((257 : Nat) : Int) ≤ 256 := by omega
          go_wp2
          go_ret
          exact ⟨rfl, H.below⟩
end Go.Proofs.Ytgcakjcljfhmpaa
