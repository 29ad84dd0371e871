/- The document's list of sleepers (timekeeperref10): its walks. -/
import Derived.Test.YtgcakjcljfhmpaaDoorRfp
import Derived.Test.YtgcakjcljfhmpaaDoorHpw
import Derived.Deep.QuietTactic
import Derived.Deep.OwnRows
import Derived.BigQuiet
import Derived.Laws.NewBlocks
import Derived.Deep.AppendLies
set_option linter.unusedVariables false
set_option linter.unusedSimpArgs false
namespace Go.Proofs.YtgcakjcljfhmpaaDoor
open Go.RowKit Go.Shelf
attribute [local go_sem] Oper.semAt_some

abbrev RB (rb : Nat) (v : Value) : Thing := Blk rb (.cells #[v] 28 (0, 0))
abbrev RO (v : Value) (R : List (Int × Int)) : Thing := Own 62 2 v R.length (pc R)
theorem info_slp : (Tryd.prog.info? 62).map (fun i => (i.zero, i.size, i.bytes)) = some (some (.agg #[.int .i64 0, .int .i64 0]), 2, 16) := by kernel_rfl
theorem info_bool : (Tryd.prog.info? 4).map (fun i => (i.zero, i.size, i.bytes)) = some (some (.bool false), 1, 1) := by kernel_rfl

theorem rb_cell {w0 w : World} {r : List Thing} {rb : Nat} {v : Value} (H : Hp w0 w (RB rb v :: r)) : w.cell? ⟨rb, 0, none⟩ = some v ∧ w.frozen? ⟨rb, 0, none⟩ = false :=
  ⟨by rw [cell_blk (blk_get H)]; rfl, free_blk (blk_get H) 0⟩

set_option maxHeartbeats 1000000 in
set_option maxRecDepth 20000 in
theorem rat_c {w0 w : World} {r : List Thing} {rb : Nat} {v : Value} {R : List (Int × Int)} (who : Int) (H : Hp w0 w (RB rb v :: RO v R :: r)) (hl : R.length < 100000) :
    Calls Tryd.prog 22 #[.pointer (some ⟨rb, 0, none⟩), .int .i64 who] w fun e w' => e = .returned (.int .i64 (fi R who)) ∧ w = w' := by
  obtain ⟨a, c, rfl⟩ := own_slice H.tail
  have h0 := (rb_cell H).1
  have HH := Lib.hid H.tail
  clear H
  go_enter Tryd.func22, Tryd.ntmps22
  go_wp2
  go_loop [5] (fun i => ∃ k : Nat, k ≤ R.length ∧ i = .int .i64 k ∧ Hid (∀ j (hj : j < R.length), j < k → R[j].1 ≠ who)) (fun i => R.length - (intOf i).toNat)
  case atStart => exact ⟨0, Nat.zero_le _, rfl, Lib.hid (fun j _ h => by omega)⟩
  case round =>
    obtain ⟨k, hk, rfl, hne⟩ := hrel
    by_cases hlt : k < R.length
    · obtain ⟨g, cap, e1, k0⟩ := own_cell HH.out _ _ (pc_get0 R k hlt)
      obtain ⟨rfl, -, rfl⟩ := Value.slice.inj e1
      have c1 : (k : Int) < (R.length : Int) := by omega
      clear e1
      by_cases he : R[k].1 = who
      · have hfi : fi R who = k := fi_some hlt he (fun j hj => hne.out j (by omega) hj)
        have HF := Lib.hid hfi
        clear hfi
        rw [he] at k0
        go_wp2
        go_ret
        exact ⟨by rw [HF.out]; rfl, rfl⟩
      · have hne2 : Hid (∀ j (hj : j < R.length), j < k + 1 → R[j].1 ≠ who) := Lib.hid (fun j hj h => by
          rcases Nat.lt_or_eq_of_le (Nat.le_of_lt_succ h) with h | rfl
          · exact hne.out j hj h
          · exact he)
        have ee : (R[k].1 == who) = false := by simpa using he
        go_wp2
        go_round
        case rel => exact ⟨k + 1, by omega, by go_num, hne2⟩
        case measure => simp [intOf]; omega
    · have hfi : fi R who = -1 := fi_none (fun j hj => hne.out j hj (by omega))
      have HF := Lib.hid hfi
      have c1 : ¬ (k : Int) < (R.length : Int) := by omega
      clear hfi
      go_wp2
      go_ret
      exact ⟨by rw [HF.out]; rfl, rfl⟩

theorem lf_at {R : List (Int × Int)} {who : Int} {k : Nat} (hk : k < R.length) (h1 : R[k].1 = who) (h : ∀ j (hj : j < k), (R[j]'(by omega)).1 ≠ who) : lf R who = (R[k].2, 0) := by
  unfold lf
  have : R.find? (fun y => y.1 == who) = some R[k] := by
    rw [List.find?_eq_some_iff_getElem]
    exact ⟨by simpa using h1, k, hk, rfl, fun j hj => by simpa using h j hj⟩
  rw [this]
theorem but_at : ∀ {R : List (Int × Int)} {k : Nat} (hk : k < R.length), (R.map Prod.fst).Nodup → but R R[k].1 = R.take k ++ R.drop (k + 1)
  | [], k, hk, _ => by simp at hk
  | x :: r, 0, hk, hn => by
    simp only [List.map_cons, List.nodup_cons] at hn
    have : but r x.1 = r := List.filter_eq_self.2 (fun y hy => by
      have : y.1 ≠ x.1 := fun e => hn.1 (by rw [← e]; exact List.mem_map_of_mem hy)
      simpa using this)
    simp only [List.getElem_cons_zero, List.take_zero, List.nil_append, List.drop_succ_cons, List.drop_zero]
    unfold but at this ⊢
    rw [List.filter_cons, if_neg (by simp), this]
  | x :: r, k + 1, hk, hn => by
    simp only [List.map_cons, List.nodup_cons] at hn
    have hk' : k < r.length := by simpa using hk
    have hne : x.1 ≠ r[k].1 := fun e => hn.1 (by rw [e]; exact List.mem_map_of_mem (List.getElem_mem _))
    have ih := but_at hk' hn.2
    simp only [List.getElem_cons_succ, List.take_succ_cons, List.drop_succ_cons, List.cons_append]
    unfold but at ih ⊢
    rw [List.filter_cons, if_pos (by simpa using hne), ih]

set_option maxHeartbeats 1000000 in
set_option maxRecDepth 20000 in
theorem rleft_c {w0 w : World} {r : List Thing} {rb : Nat} {v : Value} {R : List (Int × Int)} (who : Int) (H : Hp w0 w (RB rb v :: RO v R :: r)) (hl : R.length < 100000) :
    Calls Tryd.prog 10 #[.pointer (some ⟨rb, 0, none⟩), .int .i64 who] w fun e w' => e = .returned (.tuple #[.int .i64 (lf R who).1, .int .i64 (lf R who).2]) ∧ w = w' := by
  have HA := Lib.hid (rat_c who H hl)
  by_cases hm : who ∈ R.map Prod.fst
  · obtain ⟨k, hk, f1, f2, f3⟩ := fi_pos hm
    have hlf := Lib.hid (lf_at hk f2 (fun j hj => f3 j hj))
    obtain ⟨g, cap, e1, k1⟩ := own_cell H.tail _ _ (pc_get1 R k hk)
    have h0 := (rb_cell H).1
    subst e1
    have HFi := Lib.hid f1
    clear H hm f1 f2 f3
    go_enter Tryd.func10, Tryd.ntmps10
    go_wp2_with fail
    refine HA.out.mono ?_; rintro e w1 ⟨rfl, rfl⟩
    rw [HFi.out]
    have c1 : (k : Int) < (R.length : Int) := by omega
    go_wp2
    go_ret2
    exact ⟨by rw [hlf.out]; rfl, rfl⟩
  · have hlf := Lib.hid (lf_out hm)
    have hf := fi_neg hm
    have HF := Lib.hid hf
    generalize fi R who = z at *
    clear H hm
    go_enter Tryd.func10, Tryd.ntmps10
    go_wp2_with fail
    refine HA.out.mono ?_; rintro e w1 ⟨rfl, rfl⟩
    go_wp2
    go_ret2
    exact ⟨by rw [hlf.out]; rfl, rfl⟩

theorem ro_snoc {w0 w : World} {r : List Thing} {v : Value} {R : List (Int × Int)} {y : Int × Int} (H : Hp w0 w (Own 62 2 v (R.length + 1) (pc R ++ [.int .i64 y.1, .int .i64 y.2]) :: r)) : Hp w0 w (RO v (R ++ [y]) :: r) :=
  own_as H (by simp) (by rw [pc_append]; rfl)
theorem oi_snoc {w0 w : World} {r : List Thing} {v : Value} {zs : List Int} {z : Int} (H : Hp w0 w (Own 3 1 v (zs.length + 1) (zs.map (Value.int .i64) ++ [.int .i64 z]) :: r)) : Hp w0 w (OwnI v (zs ++ [z]) :: r) :=
  own_as H (by simp) (by simp)

set_option maxHeartbeats 1000000 in
set_option maxRecDepth 20000 in
theorem rput_bad {w0 w : World} {r : List Thing} {rb : Nat} {v : Value} {R : List (Int × Int)} (who t : Int) (H : Hp w0 w (RB rb v :: RO v R :: r)) (hl : R.length < 100000) (hb : who < 0 ∨ t < 1 ∨ 1073741824 < t) :
    Calls Tryd.prog 6 #[.pointer (some ⟨rb, 0, none⟩), .int .i64 who, .int .i64 t] w fun e w' => e = .returned (.int .i64 1) ∧ w = w' := by
  clear H
  by_cases h1 : who < 0
  · go_enter Tryd.func6, Tryd.ntmps6
    go_wp2
    go_ret
    exact ⟨rfl, rfl⟩
  · by_cases h2 : t < 1
    · go_enter Tryd.func6, Tryd.ntmps6
      go_wp2
      go_ret
      exact ⟨rfl, rfl⟩
    · have h3 : 1073741824 < t := by omega
      clear hb
      go_enter Tryd.func6, Tryd.ntmps6
      go_wp2
      go_ret
      exact ⟨rfl, rfl⟩
set_option maxHeartbeats 1000000 in
set_option maxRecDepth 20000 in
theorem rput_state {w0 w : World} {r : List Thing} {rb : Nat} {v : Value} {R : List (Int × Int)} (who t : Int) (H : Hp w0 w (RB rb v :: RO v R :: r)) (hl : R.length < 100000) (h1 : 0 ≤ who) (h2 : 1 ≤ t) (h3 : t ≤ 1073741824) (hm : who ∈ R.map Prod.fst) :
    Calls Tryd.prog 6 #[.pointer (some ⟨rb, 0, none⟩), .int .i64 who, .int .i64 t] w fun e w' => e = .returned (.int .i64 7) ∧ w = w' := by
  have HA := Lib.hid (rat_c who H hl)
  obtain ⟨k, hk, f1, f2, f3⟩ := fi_pos hm
  have hf : 0 ≤ fi R who := by omega
  clear H hm f1 f2 f3
  generalize fi R who = z at *
  go_enter Tryd.func6, Tryd.ntmps6
  go_wp2_with fail
  refine HA.out.mono ?_; rintro e w1 ⟨rfl, rfl⟩
  go_wp2
  go_ret
  exact ⟨rfl, rfl⟩
set_option maxHeartbeats 1000000 in
set_option maxRecDepth 20000 in
theorem rput_ok {w0 w : World} {r : List Thing} {rb : Nat} {v : Value} {R : List (Int × Int)} (who t : Int) (H : Hp w0 w (RB rb v :: RO v R :: r)) (hl : R.length < 100000) (h1 : 0 ≤ who) (h2 : 1 ≤ t) (h3 : t ≤ 1073741824) (hm : who ∉ R.map Prod.fst) :
    Calls Tryd.prog 6 #[.pointer (some ⟨rb, 0, none⟩), .int .i64 who, .int .i64 t] w fun e w' => e = .returned (.int .i64 0) ∧ ∃ v', Hp w0 w' (RB rb v' :: RO v' (R ++ [(who, t)]) :: r) := by
  have HA := Lib.hid (rat_c who H hl)
  obtain ⟨i0, hi, hz0, hz1, hz2⟩ := info_parts info_slp
  have hf := fi_neg hm
  clear hm
  generalize fi R who = z at *
  have h0 := (rb_cell H).1
  have HH := Lib.hid H
  clear H
  go_enter Tryd.func6, Tryd.ntmps6
  go_wp2_with fail
  refine HA.out.mono ?_; rintro e w1 ⟨rfl, rfl⟩
  go_wp2_with (at_builtin; refine wpList_append_hp rfl _ _ 26 rfl 62 i0 _ 2 16 Tryd.underlying26 hi hz0 hz1 hz2 rfl (by decide) (HH.out.up1.alloc _) rfl ⟨w.heap.size, 0, none⟩ 1 1 [.int .i64 who, .int .i64 t] rfl rfl (World.news_of_block (cs := #[.int .i64 who, .int .i64 t]) (t := 62) (fr := (0, 0)) (blk_alloc_new _ _)) (by simp [Value.oneCell']) (by omega) (by omega) ?_)
  intro v' w1 H1
  obtain ⟨a', c', rfl⟩ := own_slice H1
  have H2 := ro_snoc (y := (who, t)) H1
  obtain ⟨k0, k1⟩ := rb_cell H2.up1
  replace H2 := Lib.hid H2.up1
  clear H1 h0 HH HA
  go_wp2
  go_ret
  exact ⟨rfl, _, blk_set H2.out 0 _⟩
end Go.Proofs.YtgcakjcljfhmpaaDoor
