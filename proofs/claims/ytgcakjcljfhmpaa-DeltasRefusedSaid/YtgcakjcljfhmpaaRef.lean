/- DeltasRefused of timekeeperlaw10: the walk. -/
import Derived.Test.YtgcakjcljfhmpaaWke
import Derived.Test.YtgcakjcljfhmpaaPla
set_option linter.unusedVariables false
set_option linter.unusedSimpArgs false
namespace Go.Proofs.Ytgcakjcljfhmpaa
open Go.RowKit Go.Shelf
attribute [local go_sem] Oper.semAt_some

theorem but_ins : ∀ {l : List (Int × Int)} {who t : Int}, who ∉ l.map Prod.fst → but (ins l who t) who = l
  | [], who, t, _ => by simp [ins, but]
  | x :: r, who, t, h => by
    simp only [List.map_cons, List.mem_cons, not_or] at h
    have hx : (x.1 != who) = true := by simpa using fun e => h.1 e.symm
    have hr : ∀ y ∈ r, (y.1 != who) = true := fun y hy => by simpa using fun e => h.2 (List.mem_map.2 ⟨y, hy, e⟩)
    unfold ins
    split
    · unfold but
      rw [List.filter_cons, if_neg (by simp), List.filter_eq_self.2]
      intro y hy
      rcases List.mem_cons.1 hy with rfl | hy
      · exact hx
      · exact hr y hy
    · have ih := but_ins (l := r) (who := who) (t := t) h.2
      unfold but at ih ⊢
      rw [List.filter_cons, if_pos hx, ih]

set_option maxHeartbeats 8000000 in
theorem refused_law (a : Option Addr) (n c : Nat) (ts : List Int) (q r : Nat) (hq : q < 256) (hr : r < 256) (w : World) (hb : Lib.BytesIn w a n ts) (hts : ∀ x ∈ ts, 0 ≤ x ∧ x < 256) :
    Calls Try.prog 8 #[.slice a n c, .int .u8 q, .int .u8 r] w fun e w' => e = .returned (.bool true) ∧ Below w.heap.size w w' := by
  go_enter Try.func8, Try.ntmps8
  go_wp2_with fail
  refine (alive_c w).mono ?_; rintro e w1 ⟨rfl, hb1⟩
  have H1 := (Hp.start w).below_read hb1
  have hqw : IntKind.i64.wrap (q : Int) = q := by rw [IntKind.wrap_i64]; omega
  have hrw : IntKind.i64.wrap (r : Int) = r := by rw [IntKind.wrap_i64]; omega
  have hrw1 : IntKind.i64.wrap ((r : Int) + 1) = (r : Int) + 1 := by rw [IntKind.wrap_i64]; omega
  by_cases hn : 60 < (n : Int)
  · go_wp2_with fail
    refine (alive_c w1).mono ?_; rintro e w2 ⟨rfl, hb2⟩
    go_wp2
    go_ret
    exact ⟨rfl, (H1.below_read hb2).below⟩
  · have hbd := getD_bd hts
    have hok := ok_fil hbd n
    have hwl : ∀ t, (wake (lessN (fil ts n) t)).length ≤ n := fun t => by rw [wake_lessN, grp_fil hbd]; exact wt_le _ _ _
    have hln : ∀ t, (lessN (fil ts n) t).length ≤ n := fun t => by have := lessN_len (fil ts n) t; rw [fil_len] at this; exact this
    have hout : ∀ (t : Nat) (x : Int), 60 < x → x ∉ (lessN (fil ts n) t).map Prod.fst := fun t x hx hm => by
      obtain ⟨y, hy, e⟩ := List.mem_map.1 hm
      obtain ⟨i, h1, h2, rfl⟩ := (mem_gone hbd).1 hy
      simp only at e; omega
    obtain ⟨g, hgm, hg⟩ : ∃ g : Nat, (q : Int).tmod 20 = (g : Int) ∧ g < 20 := ⟨q % 20, by rw [show (20 : Int) = ((20 : Nat) : Int) by rfl, Int.ofNat_tmod], Nat.mod_lt _ (by omega)⟩
    have hgw : IntKind.i64.wrap (g : Int) = g := by rw [IntKind.wrap_i64]; omega
    go_wp2_with fail
    refine (filled_c a n c ts H1 hb hts (by omega)).mono ?_; rintro e w2 ⟨b1, rfl, H2⟩
    go_wp2_with fail
    refine (filled_c a n c ts H2 hb hts (by omega)).mono ?_; rintro e w3 ⟨b2, rfl, H3⟩
    go_wp2_with fail
    go_loopw [9] (fun i wr => ∃ t : Nat, t ≤ g ∧ i = .int .i64 t ∧ Hp w wr [Slp b2 (lessN (fil ts n) t), Slp b1 (lessN (fil ts n) t)]) (fun i _ => g - (intOf i).toNat)
    case atStart => exact ⟨0, by omega, rfl, H3⟩
    case round =>
      obtain ⟨t, ht, rfl, H⟩ := hrel
      by_cases hlt : t < g
      · have c1 : (t : Int) < (g : Int) := by omega
        go_wp2_with fail
        refine (tick_h (H.pull 1 rfl) (ok_lessN hok t) (by have := hln t; omega)).mono ?_; rintro e w4 ⟨v1, rfl, H4, _⟩
        go_wp2_with fail
        refine (tick_h (H4.pull 2 rfl) (ok_lessN hok t) (by have := hln t; omega)).mono ?_; rintro e w5 ⟨v2, rfl, H5, _⟩
        go_wp2_with fail
        refine (same_h (H5.pull 2 rfl) (by have := hwl t; omega) (by have := hwl t; omega)).mono ?_; rintro e w6 ⟨rfl, H6⟩
        rw [decide_eq_true rfl]
        have H7 : Hp w w6 [Slp b2 (lessN (fil ts n) (t + 1)), Slp b1 (lessN (fil ts n) (t + 1))] := H6.tail.tail
        clear H6 H5 H4 H
        go_wp2
        go_roundw
        case rel => exact ⟨t + 1, by omega, by go_num, H7⟩
        case measure => simp [intOf]; omega
      · have hte : t = g := by omega
        subst hte
        have c1 : ¬ (t : Int) < (t : Int) := by omega
        have hmem : (1000 : Int) ∈ (ins (lessN (fil ts n) t) 1000 ((r : Int) + 1)).map Prod.fst := List.mem_map.2 ⟨_, ins_mem.2 (Or.inl rfl), rfl⟩
        have hok2 := ok_ins (ok_lessN hok t) (hout t 1000 (by omega)) (show 1 ≤ (r : Int) + 1 by omega) (by omega)
        have hl2 : (ins (lessN (fil ts n) t) 1000 ((r : Int) + 1)).length < 99999 := by rw [ins_len]; have := hln t; omega
        have hno : (2000 : Int) ∉ (ins (lessN (fil ts n) t) 1000 ((r : Int) + 1)).map Prod.fst := fun hm => by
          obtain ⟨y, hy, e⟩ := List.mem_map.1 hm
          rcases ins_mem.1 hy with rfl | hy
          · simp at e
          · exact hout t 2000 (by omega) (List.mem_map.2 ⟨y, hy, e⟩)
        have hbi := but_ins (t := (r : Int) + 1) (hout t 1000 (by omega))
        go_wp2_with fail
        refine (put_h 1000 ((r : Int) + 1) (H.pull 1 rfl) (ok_lessN hok t) (by have := hln t; omega) (hout t 1000 (by omega)) (by omega) (by omega) (by omega)).mono ?_; rintro e w4 ⟨rfl, H4⟩
        go_wp2_with fail
        refine (put_state_h 1000 5 H4 hl2 hmem (by omega) (by omega) (by omega)).mono ?_; rintro e w5 ⟨rfl, H5⟩
        go_wp2_with fail
        refine (put_arg_h 2000 0 H5 (by omega)).mono ?_; rintro e w6 ⟨rfl, H6⟩
        go_wp2_with fail
        refine (put_arg_h (-3) 5 H6 (by omega)).mono ?_; rintro e w7 ⟨rfl, H7⟩
        go_wp2_with fail
        refine (remove_arg_h 2000 H7 hl2 hno).mono ?_; rintro e w8 ⟨rfl, H8⟩
        go_wp2_with fail
        refine (remove_h 1000 H8 hok2 hl2 hmem).mono ?_; rintro e w9 ⟨rfl, H9⟩
        rw [hbi] at H9
        clear H4 H5 H6 H7 H8 hok2 hl2 hno hmem
        go_wp2_with fail
        refine (all_h H9 (by have := hln t; omega)).mono ?_; rintro e w10 ⟨v1, rfl, H10, _⟩
        go_wp2_with fail
        refine (all_h (H10.pull 2 rfl) (by have := hln t; omega)).mono ?_; rintro e w11 ⟨v2, rfl, H11, _⟩
        go_wp2_with fail
        refine (same_h (H11.pull 2 rfl) (by rw [List.length_map]; have := hln t; omega) (by rw [List.length_map]; have := hln t; omega)).mono ?_; rintro e w12 ⟨rfl, H12⟩
        rw [decide_eq_true rfl]
        have H13 : Hp w w12 [Slp b2 (lessN (fil ts n) t), Slp b1 (lessN (fil ts n) t)] := H12.tail.tail
        clear H12 H11 H10 H9 H H3 H2
        go_wp2_with fail
        go_loopw [10] (fun i wr => ∃ s : Nat, s ≤ 257 ∧ i = .int .i64 s ∧ Hp w wr [Slp b2 (lessN (fil ts n) (t + s)), Slp b1 (lessN (fil ts n) (t + s))]) (fun i _ => 257 - (intOf i).toNat)
        case atStart => exact ⟨0, by omega, rfl, H13⟩
        case round =>
          obtain ⟨s, hs, rfl, H⟩ := hrel
          by_cases hlt : s < 257
          · have c2 : (s : Int) ≤ 256 := by omega
            go_wp2_with fail
            refine (tick_h (H.pull 1 rfl) (ok_lessN hok _) (by have := hln (t + s); omega)).mono ?_; rintro e w4 ⟨v1, rfl, H4, _⟩
            go_wp2_with fail
            refine (tick_h (H4.pull 2 rfl) (ok_lessN hok _) (by have := hln (t + s); omega)).mono ?_; rintro e w5 ⟨v2, rfl, H5, _⟩
            go_wp2_with fail
            refine (same_h (H5.pull 2 rfl) (by have := hwl (t + s); omega) (by have := hwl (t + s); omega)).mono ?_; rintro e w6 ⟨rfl, H6⟩
            rw [decide_eq_true rfl]
            have H7 : Hp w w6 [Slp b2 (lessN (fil ts n) (t + (s + 1))), Slp b1 (lessN (fil ts n) (t + (s + 1)))] := H6.tail.tail
            clear H6 H5 H4 H
            go_wp2
            go_roundw
            case rel => exact ⟨s + 1, by omega, by go_num, H7⟩
            case measure => simp [intOf]; omega
          · have hse : s = 257 := by omega
            subst hse
            have c2 : ¬ ((257 : Nat) : Int) ≤ 256 := by omega
            have hnil := lessN_nil hok (t + 257) (fun y hy => by obtain ⟨i, h1, rfl⟩ := fil_mem.1 hy; have := hbd i; simp only; omega)
            rw [hnil] at H
            go_wp2_with fail
            refine (all_h (H.pull 1 rfl) (by simp)).mono ?_; rintro e w4 ⟨v2, rfl, H4, hv⟩
            obtain rfl := hv rfl
            go_wp2
            go_ret
            exact ⟨rfl, H4.below⟩
end Go.Proofs.Ytgcakjcljfhmpaa
