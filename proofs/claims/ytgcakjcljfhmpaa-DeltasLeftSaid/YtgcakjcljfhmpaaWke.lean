/- DeltasWake of timekeeperlaw10: the walk. -/
import Derived.Test.YtgcakjcljfhmpaaFil
import Derived.Test.YtgcakjcljfhmpaaLng
set_option linter.unusedVariables false
set_option linter.unusedSimpArgs false
namespace Go.Proofs.Ytgcakjcljfhmpaa
open Go.RowKit Go.Shelf
attribute [local go_sem] Oper.semAt_some

theorem Hp.own {w0 w w' : World} {r : List Thing} {v : Value} {zs : List Int} {n : Nat} {t : TypeId} (h : Hp w0 w r) (hb : Below w.heap.size w w') (hn : n = zs.length) (ho : w'.ownsRow w.heap.size t 1 v n (zs.map (Value.int .i64))) : Hp w0 w' (Ints v zs :: r) := by
  subst hn
  obtain ⟨U, u1, u2⟩ := ints_of_owns ho
  exact h.add ⟨hb.os, hb.tape, hb.output, hb.size, fun k hk _ => hb.block k hk⟩ u1 u2

set_option maxHeartbeats 4000000 in
theorem wake_c (a : Option Addr) (n c : Nat) (ts : List Int) (w : World) (hb : Lib.BytesIn w a n ts) (hts : ∀ x ∈ ts, 0 ≤ x ∧ x < 256) :
    Calls Try.prog 4 #[.slice a n c] w fun e w' => e = .returned (.bool true) ∧ Below w.heap.size w w' := by
  obtain ⟨i0, hi, hz0, hz1, hz2⟩ := info_parts info_int
  go_enter Try.func4, Try.ntmps4
  go_wp2_with fail
  refine (alive_c w).mono ?_; rintro e w1 ⟨rfl, hb1⟩
  have H1 := (Hp.start w).below_read hb1
  by_cases hn : 100 < (n : Int)
  · go_wp2_with fail
    refine (alive_c w1).mono ?_; rintro e w2 ⟨rfl, hb2⟩
    go_wp2
    go_ret
    exact ⟨rfl, (H1.below_read hb2).below⟩
  · go_wp2_with fail
    refine (filled_c a n c ts H1 hb hts (by omega)).mono ?_; rintro e w2 ⟨b, rfl, H2⟩
    have hok := ok_fil (getD_bd hts) n
    have hbd : ∀ y ∈ fil ts n, y.2 ≤ (257 : Nat) := fun y hy => by
      obtain ⟨i, h1, rfl⟩ := fil_mem.1 hy
      have := getD_bd hts i
      simp only; omega
    have hwk : ∀ t : Nat, wake (lessN (fil ts n) t) = wt ts t n := fun t => by rw [wake_lessN, grp_fil (getD_bd hts)]
    have hln : ∀ t, (lessN (fil ts n) t).length ≤ n := fun t => by have := lessN_len (fil ts n) t; rw [fil_len] at this; exact this
    go_wp2_with fail
    go_loopw [4] (fun i wr => ∃ t : Nat, t ≤ 257 ∧ i = .int .i64 t ∧ Hp w wr [Slp b (lessN (fil ts n) t)]) (fun i _ => 257 - (intOf i).toNat)
    case atStart => exact ⟨0, by omega, rfl, H2⟩
    case round =>
      obtain ⟨t, ht, rfl, H⟩ := hrel
      have HH := Lib.hid H
      obtain ⟨wo, rfl⟩ : ∃ x, x = wr := ⟨_, rfl⟩
      by_cases hlt : t < 257
      · have c1 : (t : Int) ≤ 256 := by omega
        go_wp2_with fail
        go_loopw [5, 6] (fun v i wv => ∃ k : Nat, k ≤ n ∧ i = .int .i64 k ∧ wv.ownsRow wo.heap.size 3 1 v (wt ts t k).length ((wt ts t k).map (Value.int .i64)) ∧ Below wo.heap.size wo wv) (fun _ i _ => n - (intOf i).toNat)
        case atStart => exact ⟨0, Nat.zero_le _, rfl, World.ownsRow_nil _ _ _ _, Below.refl _ _⟩
        case round =>
          obtain ⟨k, hk, rfl, hown, hB⟩ := hrel
          by_cases hkn : k < n
          · obtain ⟨g, off, rfl, hc⟩ := bytes_cell HH.out hb k hkn
            have hc2 := (hB.cell (p := ⟨g, off + k, none⟩) (World.block_lt_of_cell? _ _ hc)).trans hc
            have hs := wt_succ ts t k
            have hle := wt_le ts t k
            have hx := getD_bd hts k
            have c2 : (k : Int) < (n : Int) := by omega
            clear hc
            generalize wt ts t k = zs at *
            generalize ts.getD k 0 = x at *
            have hw1 : IntKind.i64.wrap x = x := by rw [IntKind.wrap_i64]; omega
            by_cases he : x = t
            · rw [if_pos he] at hs
              have HS := Lib.hid hs
              clear hs
              subst he
              go_wp2_with (at_builtin; refine wpList_append_own _ rfl (.tmp 36) (.tmp 38) 32 rfl wo.heap.size 3 i0 (.int .i64 0) 1 8 Try.underlying32 hi hz0 hz1 hz2 rfl (by decide) _ _ _ rfl (hown.alloc _) ⟨wr.heap.size, 0, none⟩ 1 1 [.int .i64 k] rfl rfl ?c1 ?c2 ?c3 ?c4 ?c5 ?_)
              case c1 =>
                intro j u hj
                match j, hj with
                | 0, hj => simp at hj; subst hj; simp [Addr.add]
              case c2 => intro u hu; simp at hu; subst hu; rfl
              case c3 => unfold maxLen; omega
              case c4 => omega
              case c5 => have := hB.size; simp; omega
              intro v' w3 hown' hgrow _
              have hB1 : Below wo.heap.size wo w3 := (hB.alloc hB.size _).grown hgrow (by have := hB.size; simp; omega) (fun g' e => (hown.lt g' e).1)
              have ho2 : w3.ownsRow wo.heap.size 3 1 v' (zs ++ [(k : Int)]).length ((zs ++ [(k : Int)]).map (Value.int .i64)) := by
                rw [List.length_append, List.map_append]; exact hown'
              clear hown' hgrow hown hB hc2
              go_wp2
              go_roundw
              case rel => exact ⟨k + 1, by omega, by go_num, by rw [HS.out]; exact ho2, hB1⟩
              case measure => simp [intOf]; omega
            · rw [if_neg he] at hs
              have HS := Lib.hid hs
              clear hs
              go_wp2
              go_roundw
              case rel => exact ⟨k + 1, by omega, by go_num, by rw [HS.out]; exact hown, hB⟩
              case measure => simp [intOf]; omega
          · have hke : k = n := by omega
            subst hke
            have c2 : ¬ (k : Int) < (k : Int) := by omega
            have H3 := HH.out.own hB rfl hown
            clear hown hB
            go_wp2_with fail
            refine (tick_h H3.up1 (ok_lessN hok t) (by have := hln t; omega)).mono ?_; rintro e w4 ⟨v2, rfl, H4, _⟩
            rw [hwk t] at H4
            go_wp2_with fail
            have hle := wt_le ts t k
            refine (same_h (H4.pull 2 rfl).up1 (by omega) (by omega)).mono ?_; rintro e w5 ⟨rfl, H5⟩
            rw [decide_eq_true rfl]
            have H6 : Hp w w5 [Slp b (lessN (fil ts k) (t + 1))] := H5.tail.tail
            clear H5 H4 H3
            go_wp2
            go_roundw
            case rel => exact ⟨t + 1, by omega, by go_num, H6⟩
            case measure => simp [intOf]; omega
      · have hte : t = 257 := by omega
        subst hte
        have c1 : ¬ ((257 : Nat) : Int) ≤ 256 := by omega
        rw [lessN_nil hok 257 hbd] at H
        go_wp2_with fail
        refine (all_h H (by simp)).mono ?_; rintro e w4 ⟨v2, rfl, H4, hv⟩
        obtain rfl := hv rfl
        go_wp2
        go_ret
        exact ⟨rfl, H4.below⟩
end Go.Proofs.Ytgcakjcljfhmpaa
