/- The document's list of sleepers (timekeeperref10): Remove, Tick. -/
import Derived.Test.YtgcakjcljfhmpaaDoorRfw
set_option linter.unusedVariables false
set_option linter.unusedSimpArgs false
namespace Go.Proofs.YtgcakjcljfhmpaaDoor
open Go.RowKit Go.Shelf
attribute [local go_sem] Oper.semAt_some

set_option maxHeartbeats 1000000 in
set_option maxRecDepth 20000 in
theorem rremove_no {w0 w : World} {r : List Thing} {rb : Nat} {v : Value} {R : List (Int × Int)} (who : Int) (H : Hp w0 w (RB rb v :: RO v R :: r)) (hl : R.length < 100000) (hm : who ∉ R.map Prod.fst) :
    Calls Tryd.prog 8 #[.pointer (some ⟨rb, 0, none⟩), .int .i64 who] w fun e w' => e = .returned (.int .i64 1) ∧ w = w' := by
  have HA := Lib.hid (rat_c who H hl)
  have hf := fi_neg hm
  clear H hm
  generalize fi R who = z at *
  go_enter Tryd.func8, Tryd.ntmps8
  go_wp2_with fail
  refine HA.out.mono ?_; rintro e w1 ⟨rfl, rfl⟩
  go_wp2
  go_ret
  exact ⟨rfl, rfl⟩

theorem pc_take_get {R : List (Int × Int)} {k j : Nat} {u : Value} (h : (pc (R.take k))[j]? = some u) : (pc R)[j]? = some u := by
  rw [← pc_take, List.getElem?_take] at h
  split at h
  · exact h
  · cases h
theorem pc_drop_get {R : List (Int × Int)} {k j : Nat} {u : Value} (h : (pc (R.drop k))[j]? = some u) : (pc R)[k * 2 + j]? = some u := by
  rw [← pc_drop, List.getElem?_drop] at h
  exact h
theorem own_caps {w : World} {e : TypeId} {size : Nat} {a : Option Addr} {n c : Nat} {cs : List Value} {m : Nat} (h : w.ownsRow 0 e size (.slice a n c) m cs) (hm : 0 < m) : ∃ g, a = some ⟨g, 0, none⟩ ∧ n = m ∧ m ≤ c ∧ c ≤ maxLen := by
  rcases h.2 with ⟨_, h2⟩ | ⟨g, cap, cur, e1, _, _, h4, h5, _⟩
  · omega
  · obtain ⟨rfl, rfl, rfl⟩ := Value.slice.inj e1
    exact ⟨g, rfl, rfl, h4, h5⟩

set_option maxHeartbeats 2000000 in
set_option maxRecDepth 20000 in
theorem rremove_ok {w0 w : World} {r : List Thing} {rb : Nat} {v : Value} {R : List (Int × Int)} (who : Int) (H : Hp w0 w (RB rb v :: RO v R :: r)) (hl : R.length < 100000) (hn : (R.map Prod.fst).Nodup) (hm : who ∈ R.map Prod.fst) :
    Calls Tryd.prog 8 #[.pointer (some ⟨rb, 0, none⟩), .int .i64 who] w fun e w' => e = .returned (.int .i64 0) ∧ ∃ v', Hp w0 w' (RB rb v' :: RO v' (but R who) :: r) := by
  have HA := Lib.hid (rat_c who H hl)
  obtain ⟨i0, hi, hz0, hz1, hz2⟩ := info_parts info_slp
  obtain ⟨k, hk, f1, f2, f3⟩ := fi_pos hm
  have hbt := Lib.hid (but_at hk hn)
  obtain ⟨a, c, rfl⟩ := own_slice H.tail
  obtain ⟨g, rfl, -, hc1, hc2⟩ := own_caps (own_get H.tail) (by omega)
  have h0 := (rb_cell H).1
  have HH := Lib.hid H
  have F1 := Lib.hid f1
  rw [f2] at hbt
  have hcl : ∀ j u, (pc R)[j]? = some u → w.cell? ((⟨g, 0, none⟩ : Addr).add j) = some u := (own_get H.tail).cells (g := g) rfl
  have HC := Lib.hid hcl
  have hR : R ≠ [] := by intro h; rw [h] at hk; simp at hk
  unfold maxLen at hc2
  clear H hm f1 f2 f3 hcl hn
  have b1 : IntKind.i64.wrap ((k : Int) + 1) = (k : Int) + 1 := by rw [IntKind.wrap_i64]; omega
  have hk0 : (0 : Int) ≤ (k : Int) := Int.natCast_nonneg _
  go_enter Tryd.func8, Tryd.ntmps8
  go_wp2_with fail
  refine HA.out.mono ?_; rintro e w1 ⟨rfl, rfl⟩
  rw [F1.out]
  go_wp2_with (at_builtin; refine wpList_append_hp rfl (.tmp 12) (.tmp 18) 26 rfl 62 i0 _ 2 16 Tryd.underlying26 hi hz0 hz1 hz2 rfl (by decide) (own_nil HH.out 62 2) rfl ⟨g, 0, none⟩ k c (pc (R.take k)) rfl (by rw [pc_length, List.length_take]; omega) (fun j u hj => HC.out j u (pc_take_get hj)) (pc_one _) (by omega) (by omega) ?_)
  intro v1 w1 H1
  obtain ⟨a1, c1, rfl⟩ := own_slice H1
  have HC1 : Hid (∀ j u, (pc R)[j]? = some u → w1.cell? ((⟨g, 0, none⟩ : Addr).add j) = some u) := Lib.hid ((own_get H1.tail.tail).cells (g := g) rfl)
  have h1 := (rb_cell H1.tail).1
  replace H1 := Lib.hid H1
  clear h0 HH HC
  have fin : ∀ v2 w2 n cs X, Hp w0 w2 (Own 62 2 v2 n cs :: RB rb X :: RO X R :: r) → n = (but R who).length → cs = pc (but R who) → Hp w0 (w2.setCell ⟨rb, 0, none⟩ v2) (RB rb v2 :: RO v2 (but R who) :: r) := by
    intro v2 w2 n cs X H2 en ec
    have e : Hp w0 w2 (RO v2 (but R who) :: RB rb X :: RO X R :: r) := own_as H2 en ec
    exact ((blk_set e.up1 0 v2).perm (List.Perm.cons _ (List.Perm.swap _ _ _))).up1.tail
  have hbl : (but R who).length = k + (R.length - (k + 1)) := by rw [hbt.out, List.length_append, List.length_take, List.length_drop]; omega
  have hbc : pc (but R who) = pc (R.take k) ++ pc (R.drop (k + 1)) := by rw [hbt.out, pc_append]
  have HBL := Lib.hid hbl
  have HBC := Lib.hid hbc
  clear hbl hbc
  have FIN := Lib.hid fin
  clear fin
  by_cases hcap : c = k + 1
  · have e1 := Lib.hid (List.drop_eq_nil_iff.2 (by omega) : R.drop (k + 1) = [])
    subst hcap
    go_wp2_with (at_builtin; refine wpList_append_hp rfl (.tmp 21) (.tmp 28) 26 rfl 62 i0 _ 2 16 Tryd.underlying26 hi hz0 hz1 hz2 rfl (by decide) H1.out rfl ⟨g, 0, none⟩ 0 0 [] rfl rfl (by intro j u hj; cases hj) (by intro u hu; cases hu) (by omega) (by omega) ?_)
    intro v2 w2 H2
    obtain ⟨a2, c2, rfl⟩ := own_slice H2
    obtain ⟨k2, f2⟩ := rb_cell H2.tail
    have H3 := Lib.hid (FIN.out _ _ _ _ _ H2 (by rw [HBL.out] <;> omega) (by rw [HBC.out, e1.out] <;> simp [pc_nil]))
    clear H2 H1 h1 HC1 FIN
    go_wp2
    go_ret
    exact ⟨rfl, _, H3.out⟩
  · have hcc : ¬ c - (k + 1) = 0 := by omega
    go_wp2_with (at_builtin; refine wpList_append_hp rfl (.tmp 21) (.tmp 28) 26 rfl 62 i0 _ 2 16 Tryd.underlying26 hi hz0 hz1 hz2 rfl (by decide) H1.out rfl ⟨g, (k + 1) * 2, none⟩ (R.length - (k + 1)) (c - (k + 1)) (pc (R.drop (k + 1))) ?q1 ?q2 ?q3 (pc_one _) (by omega) (by omega) ?_)
    case q1 => rfl
    case q2 => rw [pc_length, List.length_drop]
    case q3 =>
      intro j u hj
      have := HC1.out _ u (pc_drop_get hj)
      rw [Addr.add_lit] at this ⊢
      rw [show 0 + ((k + 1) * 2 + j) = (k + 1) * 2 + j by omega] at this
      exact this
    intro v2 w2 H2
    obtain ⟨a2, c2, rfl⟩ := own_slice H2
    obtain ⟨k2, f2⟩ := rb_cell H2.tail
    have H3 := Lib.hid (FIN.out _ _ _ _ _ H2 (by rw [HBL.out] <;> omega) (by rw [HBC.out] <;> simp))
    clear H2 H1 h1 HC1 FIN
    go_wp2
    go_ret
    exact ⟨rfl, _, H3.out⟩

theorem wake_snoc (R : List (Int × Int)) (y : Int × Int) : wake (R ++ [y]) = if y.2 = 1 then wake R ++ [y.1] else wake R := by
  unfold wake; rw [List.filter_append, List.map_append]
  by_cases h : y.2 = 1
  · rw [if_pos h]; simp [h]
  · rw [if_neg h]; simp [h]
theorem less_snoc (R : List (Int × Int)) (y : Int × Int) : less (R ++ [y]) = if y.2 = 1 then less R else less R ++ [(y.1, y.2 - 1)] := by
  unfold less; rw [List.filter_append, List.map_append]
  by_cases h : y.2 = 1
  · rw [if_pos h]; simp [h]
  · rw [if_neg h]; simp [h]
theorem wake_len (R : List (Int × Int)) : (wake R).length ≤ R.length := by unfold wake; rw [List.length_map]; exact List.length_filter_le _ _

set_option maxHeartbeats 2000000 in
set_option maxRecDepth 20000 in
theorem rtick_c {w0 w : World} {r : List Thing} {rb : Nat} {v : Value} {R : List (Int × Int)} (H : Hp w0 w (RB rb v :: RO v R :: r)) (hl : R.length < 100000) (hR : Rok R) :
    Calls Tryd.prog 13 #[.pointer (some ⟨rb, 0, none⟩)] w fun e w' => ∃ u, e = .returned u ∧ ∃ v', Hp w0 w' (OwnI u (wake R) :: RB rb v' :: RO v' (less R) :: r) := by
  obtain ⟨i0, hi, hz0, hz1, hz2⟩ := info_parts info_slp
  obtain ⟨j0, hj, jz0, jz1, jz2⟩ := info_parts info_int
  obtain ⟨a, c, rfl⟩ := own_slice H.tail
  have HR := Lib.hid hR
  have HH := Lib.hid (own_nil (own_nil H 62 2) 3 1)
  have h00 := (rb_cell H).1
  clear H hR
  go_enter Tryd.func13, Tryd.ntmps13
  go_wp2
  go_loopw [3, 4, 5] (fun u3 u4 i wr => ∃ k : Nat, k ≤ R.length ∧ i = .int .i64 k ∧ Hid (Hp w0 wr (OwnI u3 (wake (R.take k)) :: RO u4 (less (R.take k)) :: RB rb (.slice a R.length c) :: RO (.slice a R.length c) R :: r))) (fun _ _ i _ => R.length - (intOf i).toNat)
  case atStart => exact ⟨0, Nat.zero_le _, rfl, HH⟩
  case round =>
    obtain ⟨k, hk, rfl, hH⟩ := hrel
    clear HH h00
    have h0 := (rb_cell hH.out.tail.tail).1
    by_cases hlt : k < R.length
    · obtain ⟨g, cap, e1, k0⟩ := own_cell hH.out.tail.tail.tail _ _ (pc_get0 R k hlt)
      obtain ⟨g', cap', e2, k1⟩ := own_cell hH.out.tail.tail.tail _ _ (pc_get1 R k hlt)
      obtain ⟨rfl, -, rfl⟩ := Value.slice.inj e1
      obtain ⟨e2, -, -⟩ := Value.slice.inj e2
      cases e2
      have c1 : (k : Int) < (R.length : Int) := by omega
      have hbd := HR.out.bd _ (List.getElem_mem hlt)
      have ht := List.take_succ_eq_append_getElem hlt
      have hwk := wake_snoc (R.take k) R[k]
      have hls := less_snoc (R.take k) R[k]
      rw [← ht] at hwk hls
      have l1 := wake_len (R.take k)
      have l2 := less_len (R.take k)
      rw [List.length_take] at l1 l2
      have hw : IntKind.i64.wrap (R[k].2 - 1) = R[k].2 - 1 := by rw [IntKind.wrap_i64]; omega
      have hw2 : IntKind.i64.wrap ((k : Int) + 1) = (k : Int) + 1 := by rw [IntKind.wrap_i64]; omega
      have HWK := Lib.hid hwk
      have HLS := Lib.hid hls
      obtain ⟨a3, c3, rfl⟩ := own_slice hH.out
      obtain ⟨a4, c4, rfl⟩ := own_slice hH.out.tail
      clear hwk hls ht e1
      generalize wake (R.take k) = W at *
      generalize less (R.take k) = L at *
      generalize R[k] = y at *
      obtain ⟨y1, y2⟩ := y
      simp only at *
      by_cases hy : y2 = 1
      · subst hy
        have e3 := HWK.out
        have e4 := HLS.out
        rw [if_pos rfl] at e3 e4
        have E3 := Lib.hid e3
        have E4 := Lib.hid e4
        clear e3 e4
        have hw0 : IntKind.i64.wrap (1 - 1) = 0 := by decide
        go_wp2_with (at_builtin; refine wpList_append_hp rfl (.tmp 30) (.tmp 33) 46 rfl 3 j0 _ 1 8 Tryd.underlying46 hj jz0 jz1 jz2 rfl (by decide) ((hH.out.alloc _).alloc _) rfl ⟨wr.heap.size + 1, 0, none⟩ 1 1 [.int .i64 y1] rfl rfl (cell_one_at (wr.alloc _) _ _ _ (size_alloc1 _ _)) (by simp [Value.oneCell']) (by omega) (by omega) ?_)
        intro v' w1 H1
        have H2 := oi_snoc (z := y1) H1
        obtain ⟨a5, c5, rfl⟩ := own_slice H1
        replace H2 := Lib.hid H2
        clear H1 hH k0 k1 h0
        go_wp2
        go_roundw
        case rel => exact ⟨k + 1, by omega, by go_num, Lib.hid (by rw [E3.out, E4.out]; exact H2.out)⟩
        case measure => simp [intOf]; omega
      · have e3 := HWK.out
        have e4 := HLS.out
        rw [if_neg hy] at e3 e4
        have E3 := Lib.hid e3
        have E4 := Lib.hid e4
        have hy0 : (y2 - 1 == 0) = false := by simp; omega
        clear e3 e4
        go_wp2_with (at_builtin; refine wpList_append_hp rfl (.tmp 35) (.tmp 37) 26 rfl 62 i0 _ 2 16 Tryd.underlying26 hi hz0 hz1 hz2 rfl (by decide) ((hH.out.up1.alloc _).alloc _) rfl ⟨wr.heap.size + 1, 0, none⟩ 1 1 [.int .i64 y1, .int .i64 (y2 - 1)] rfl rfl ?q3 ?q4 (by omega) (by omega) ?_)
        case q3 => exact World.news_of_block (cs := #[.int .i64 y1, .int .i64 (y2 - 1)]) (t := 62) (fr := (0, 0)) (blk_alloc_at (wr.alloc _) _ _ (size_alloc1 _ _))
        case q4 => simp [Value.oneCell']
        intro v' w1 H1
        have H2 := ro_snoc (y := (y1, y2 - 1)) H1
        obtain ⟨a5, c5, rfl⟩ := own_slice H1
        replace H2 := Lib.hid H2.up1
        clear H1 hH k0 k1 h0
        go_wp2
        go_roundw
        case rel => exact ⟨k + 1, by omega, by go_num, Lib.hid (by rw [E3.out, E4.out]; exact H2.out)⟩
        case measure => simp [intOf]; omega
    · have hke : k = R.length := by omega
      subst hke
      have c1 : ¬ (R.length : Int) < (R.length : Int) := by omega
      obtain ⟨a3, c3, rfl⟩ := own_slice hH.out
      obtain ⟨a4, c4, rfl⟩ := own_slice hH.out.tail
      have H1 := hH.out
      rw [List.take_length] at H1
      have hfz := (rb_cell hH.out.tail.tail).2
      rw [List.take_length] at *
      have H2 := Lib.hid (blk_set ((H1.pull 2 rfl)) 0 (.slice a4 (less R).length c4))
      clear hH H1
      go_wp2
      go_ret
      exact ⟨_, rfl, _, ((H2.out.pull 3 rfl).tail).up1⟩
end Go.Proofs.YtgcakjcljfhmpaaDoor
