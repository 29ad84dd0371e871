/- The document's alarms (timekeeperref19): Tick. -/
import Derived.Test.YtllfkgdmneabiaaDoorTrw
import Derived.Deep.CutRange
set_option linter.unusedVariables false
set_option linter.unusedSimpArgs false
namespace Go.Proofs.YtllfkgdmneabiaaDoor
open Go.RowKit Go.Shelf
attribute [local go_sem] Oper.semAt_some

theorem wakeA_snoc (A : List Tr) (y : Tr) : wakeA (A ++ [y]) = if y.2.1 = 1 then wakeA A ++ [y.1] else wakeA A := by
  unfold wakeA; rw [List.filter_append, List.map_append]
  by_cases h : y.2.1 = 1
  · rw [if_pos h]; simp [h]
  · rw [if_neg h]; simp [h]
theorem stayA_snoc (A : List Tr) (y : Tr) : stayA (A ++ [y]) = if y.2.1 = 1 then stayA A else stayA A ++ [(y.1, y.2.1 - 1, y.2.2)] := by
  unfold stayA; rw [List.filter_append, List.map_append]
  by_cases h : y.2.1 = 1
  · rw [if_pos h]; simp [h]
  · rw [if_neg h]; simp [h]
theorem againA_snoc (A : List Tr) (y : Tr) : againA (A ++ [y]) = if y.2.1 = 1 ∧ 0 < y.2.2 then againA A ++ [(y.1, y.2.2, y.2.2)] else againA A := by
  unfold againA; rw [List.filter_append, List.map_append]
  by_cases h : y.2.1 = 1 ∧ 0 < y.2.2
  · rw [if_pos h]; simp [h]
  · rw [if_neg h]
    have : (y.2.1 == 1 && decide (0 < y.2.2)) = false := by
      rw [Bool.eq_false_iff]; intro hc; simp at hc; exact h hc
    simp [this]
theorem oi_snoc' {w0 w : World} {r : List Thing} {v : Value} {zs : List Int} {z : Int} (H : Hp w0 w (Own 3 1 v (zs.length + 1) (zs.map (Value.int .i64) ++ [.int .i64 z]) :: r)) : Hp w0 w (OwnI v (zs ++ [z]) :: r) :=
  own_as H (by simp) (by simp)
abbrev Bx (xb : Nat) (a b c : Int) : Thing := Blk xb (.cells #[.int .i64 a, .int .i64 b, .int .i64 c] 60 (0, 0))
theorem bx_cells {w0 w : World} {r : List Thing} {xb : Nat} {a b c : Int} (h : Hp w0 w (Bx xb a b c :: r)) : w.cell? ⟨xb, 0, none⟩ = some (.int .i64 a) ∧ w.cell? ⟨xb, 1, none⟩ = some (.int .i64 b) ∧ w.cell? ⟨xb, 2, none⟩ = some (.int .i64 c) ∧ w.frozen? ⟨xb, 1, none⟩ = false :=
  ⟨by rw [cell_blk (blk_get h)]; rfl, by rw [cell_blk (blk_get h)]; rfl, by rw [cell_blk (blk_get h)]; rfl, free_blk (blk_get h) 1⟩

set_option maxHeartbeats 4000000 in
set_option maxRecDepth 20000 in
theorem atick_c {w0 w : World} {r : List Thing} {ab : Nat} {v : Value} {A : List Tr} (H : Hp w0 w (AB ab v :: AO v A :: r)) (hl : A.length < 100000) (hA : Ra A) :
    Calls Tryd.prog 13 #[.pointer (some ⟨ab, 0, none⟩)] w fun e w' => ∃ u, e = .returned u ∧ ∃ v', Hp w0 w' (OwnI u (wakeA A) :: AB ab v' :: AO v' (tickA A) :: r) := by
  obtain ⟨i0, hi, hz0, hz1, hz2⟩ := info_parts info_one
  obtain ⟨j0, hj, jz0, jz1, jz2⟩ := info_parts info_int
  obtain ⟨a, c, rfl⟩ := own_slice H.tail
  have HR := Lib.hid hA
  have HH := Lib.hid (own_nil (own_nil (own_nil H 60 3) 60 3) 3 1)
  clear H hA
  go_enter Tryd.func13, Tryd.ntmps13
  go_wp2
  go_loopw [3, 4, 5, 6] (fun u3 u4 u5 i wr => ∃ k : Nat, k ≤ A.length ∧ i = .int .i64 k ∧ Hid (Hp w0 wr (OwnI u3 (wakeA (A.take k)) :: AO u4 (stayA (A.take k)) :: AO u5 (againA (A.take k)) :: AB ab (.slice a A.length c) :: AO (.slice a A.length c) A :: r))) (fun _ _ _ i _ => A.length - (intOf i).toNat)
  case atStart => exact ⟨0, Nat.zero_le _, rfl, HH⟩
  case round =>
    obtain ⟨k, hk, rfl, hH⟩ := hrel
    clear HH
    have h0 := (ab_cell hH.out.tail.tail.tail).1
    obtain ⟨a3, c3, rfl⟩ := own_slice hH.out
    obtain ⟨a4, c4, rfl⟩ := own_slice hH.out.tail
    obtain ⟨a5, c5, rfl⟩ := own_slice hH.out.tail.tail
    by_cases hlt : k < A.length
    · obtain ⟨g, cap, e1, k0, k1, k2⟩ := ao_cells hH.out.tail.tail.tail.tail k hlt
      obtain ⟨rfl, -, rfl⟩ := Value.slice.inj e1
      have c1 : (k : Int) < (A.length : Int) := by omega
      have hbd := HR.out.lf _ (List.getElem_mem hlt)
      have hbe := HR.out.ea _ (List.getElem_mem hlt)
      have ht := List.take_succ_eq_append_getElem hlt
      have q1 := wakeA_snoc (A.take k) A[k]
      have q2 := stayA_snoc (A.take k) A[k]
      have q3 := againA_snoc (A.take k) A[k]
      rw [← ht] at q1 q2 q3
      have l1 := wakeA_len (A.take k)
      have l2 := stayA_len (A.take k)
      have l3 := againA_len (A.take k)
      rw [List.length_take] at l1 l2 l3
      have hw : IntKind.i64.wrap (A[k].2.1 - 1) = A[k].2.1 - 1 := by rw [IntKind.wrap_i64]; omega
      have hw2 : IntKind.i64.wrap ((k : Int) + 1) = (k : Int) + 1 := by rw [IntKind.wrap_i64]; omega
      have Q1 := Lib.hid q1
      have Q2 := Lib.hid q2
      have Q3 := Lib.hid q3
      clear q1 q2 q3 ht e1
      generalize wakeA (A.take k) = W at *
      generalize stayA (A.take k) = S at *
      generalize againA (A.take k) = G at *
      generalize A[k] = y at *
      obtain ⟨y1, y2, y3⟩ := y
      simp only at *
      by_cases hy : y2 = 1
      · subst hy
        have e1 := Q1.out
        have e2 := Q2.out
        rw [if_pos rfl] at e1 e2
        have E1 := Lib.hid e1
        have E2 := Lib.hid e2
        clear e1 e2 hw
        have hw0 : IntKind.i64.wrap (1 - 1) = 0 := by decide
        have HX := Lib.hid (blk_new hH.out (.cells #[.int .i64 y1, .int .i64 0, .int .i64 y3] 60)).up1
        go_wp2_with (at_builtin; refine wpList_append_hp rfl (.tmp 35) (.tmp 38) 43 rfl 3 j0 _ 1 8 Tryd.underlying43 hj jz0 jz1 jz2 rfl (by decide) (HX.out.alloc _) rfl ⟨wr.heap.size + 1, 0, none⟩ 1 1 [.int .i64 y1] rfl rfl (cell_one_at (wr.alloc _) _ _ _ (size_alloc1 _ _)) (by simp [Value.oneCell']) (by omega) (by omega) ?_)
        intro v' w1 H1
        have H2 := oi_snoc' (z := y1) H1
        obtain ⟨a6, c6, rfl⟩ := own_slice H1
        have H3 := Lib.hid H2.up1
        clear H1 H2 hH k0 k1 k2 h0 HX
        generalize wr.heap.size = xb at *
        obtain ⟨k0, k1, k2, k3⟩ := bx_cells H3.out
        by_cases hp : 0 < y3
        · have e3 := Q3.out
          rw [if_pos (by simp [hp])] at e3
          have E3 := Lib.hid e3
          clear e3
          have d3 : y3 > 0 := hp
          go_upto_region 14 with fail
          have H4 : Hid (Hp w0 (w1.setCell ⟨xb, 1, none⟩ (.int .i64 y3)) (Bx xb y1 y3 y3 :: _)) := Lib.hid (blk_set H3.out 1 (.int .i64 y3))
          clear k0 k1 k2 k3 H3
          generalize (w1.setCell ⟨xb, 1, none⟩ (.int .i64 y3)) = w2 at *
          obtain ⟨k0, k1, k2, k3⟩ := bx_cells H4.out
          go_wp2_with (at_builtin; refine wpList_append_hp rfl (.tmp 46) (.tmp 48) 54 rfl 60 i0 _ 3 24 Tryd.underlying54 hi hz0 hz1 hz2 rfl (by decide) ((H4.out.tail.pull 2 rfl).alloc _) rfl ⟨w2.heap.size, 0, none⟩ 1 1 [.int .i64 y1, .int .i64 y3, .int .i64 y3] rfl rfl (World.news_of_block (cs := #[.int .i64 y1, .int .i64 y3, .int .i64 y3]) (t := 60) (fr := (0, 0)) (blk_alloc_new _ _)) (by simp [Value.oneCell']) (by omega) (by omega) ?_)
          intro v'' w3 H5
          have H6 := ao_snoc (y := (y1, y3, y3)) H5
          obtain ⟨a7, c7, rfl⟩ := own_slice H5
          have H7 := Lib.hid ((H6.pull 1 rfl).pull 2 rfl |>.up1)
          clear H5 H6 H4 k0 k1 k2 k3
          go_wp2
          go_roundw
          case rel => exact ⟨k + 1, by omega, by go_num, Lib.hid (by rw [E1.out, E2.out, E3.out]; exact H7.out)⟩
          case measure => simp [intOf]; omega
        · have e3 := Q3.out
          rw [if_neg (by simp [hp])] at e3
          have E3 := Lib.hid e3
          clear e3
          have d3 : ¬ y3 > 0 := hp
          have H4 := Lib.hid H3.out.tail
          clear H3
          go_wp2
          go_roundw
          case rel => exact ⟨k + 1, by omega, by go_num, Lib.hid (by rw [E1.out, E2.out, E3.out]; exact H4.out)⟩
          case measure => simp [intOf]; omega
      · have e1 := Q1.out
        have e2 := Q2.out
        have e3 := Q3.out
        rw [if_neg hy] at e1 e2
        rw [if_neg (fun h => hy h.1)] at e3
        have E1 := Lib.hid e1
        have E2 := Lib.hid e2
        have E3 := Lib.hid e3
        clear e1 e2 e3
        have d2 : y2 - 1 > 0 := by omega
        go_wp2_with (at_builtin; refine wpList_append_hp rfl (.tmp 31) (.tmp 33) 54 rfl 60 i0 _ 3 24 Tryd.underlying54 hi hz0 hz1 hz2 rfl (by decide) ((hH.out.up1.alloc _).alloc _) rfl ⟨wr.heap.size + 1, 0, none⟩ 1 1 [.int .i64 y1, .int .i64 (y2 - 1), .int .i64 y3] rfl rfl (World.news_of_block (cs := #[.int .i64 y1, .int .i64 (y2 - 1), .int .i64 y3]) (t := 60) (fr := (0, 0)) (blk_alloc_at (wr.alloc _) _ _ (size_alloc1 _ _))) (by simp [Value.oneCell']) (by omega) (by omega) ?_)
        intro v' w1 H1
        have H2 := ao_snoc (y := (y1, y2 - 1, y3)) H1
        obtain ⟨a6, c6, rfl⟩ := own_slice H1
        replace H2 := Lib.hid H2.up1
        clear H1 hH k0 k1 k2 h0
        go_wp2
        go_roundw
        case rel => exact ⟨k + 1, by omega, by go_num, Lib.hid (by rw [E1.out, E2.out, E3.out]; exact H2.out)⟩
        case measure => simp [intOf]; omega
    · have hke : k = A.length := by omega
      subst hke
      have c1 : ¬ (A.length : Int) < (A.length : Int) := by omega
      have H1 := hH.out
      rw [List.take_length] at *
      have l2 := stayA_len A
      have l3 := againA_len A
      have hT : tickA A = stayA A ++ againA A := rfl
      have hfin : ∀ v2 w2 n cs X, Hp w0 w2 (Own 60 3 v2 n cs :: AO (.slice a5 (againA A).length c5) (againA A) :: OwnI (.slice a3 (wakeA A).length c3) (wakeA A) :: AB ab X :: AO X A :: r) → n = (tickA A).length → cs = tc (tickA A) → Hp w0 (w2.setCell ⟨ab, 0, none⟩ v2) (OwnI (.slice a3 (wakeA A).length c3) (wakeA A) :: AB ab v2 :: AO v2 (tickA A) :: r) := by
        intro v2 w2 n cs X H2 en ec
        have e : Hp w0 w2 (AO v2 (tickA A) :: AO (.slice a5 (againA A).length c5) (againA A) :: OwnI (.slice a3 (wakeA A).length c3) (wakeA A) :: AB ab X :: AO X A :: r) := own_as H2 en ec
        have h1 := blk_set (e.pull 3 rfl) 0 v2
        exact ((h1.pull 4 rfl).tail.pull 2 rfl).tail.pull 2 rfl
      have FIN := Lib.hid hfin
      clear hfin
      have hg : (againA A = [] ∧ a5 = none ∧ c5 = 0) ∨ ∃ g, a5 = some ⟨g, 0, none⟩ := by
        rcases (own_get H1.tail.tail).2 with ⟨e, e2⟩ | ⟨g, cap, cur, e, _⟩
        · obtain ⟨e3, e4, e5⟩ := Value.slice.inj e
          exact Or.inl ⟨List.length_eq_zero_iff.1 e2, e3, e5⟩
        · obtain ⟨e3, e4, e5⟩ := Value.slice.inj e
          exact Or.inr ⟨g, e3⟩
      have h0' := (ab_cell H1.tail.tail.tail)
      obtain ⟨h1, h2⟩ := h0'
      have HS := (H1.pull 2 rfl).pull 2 rfl
      have HL := Lib.hid (show (tickA A).length = (stayA A).length + (againA A).length by rw [hT, List.length_append])
      have HC := Lib.hid (show tc (tickA A) = tc (stayA A) ++ tc (againA A) by rw [hT, tc_append])
      rcases hg with ⟨hge, rfl, rfl⟩ | ⟨g, rfl⟩
      · have HG := Lib.hid hge
        have H9 := Lib.hid (FIN.out _ _ _ _ _ HS (by rw [HL.out, hge]; rfl) (by rw [HC.out, hge]; simp [tc]))
        have hown := own_get HS
        clear FIN HL HC
        have hz : (againA A).length = 0 := by rw [hge]; rfl
        rw [hz]
        clear hH H1 HS hT hge hz l3
        go_wp2_with (at_builtin; refine wpList_append_own_none rfl (.tmp 51) (.tmp 52) 54 rfl 0 60 i0 3 Tryd.underlying54 hi (.slice a4 (stayA A).length c4) (stayA A).length (tc (stayA A)) rfl hown rfl ?_)
        go_wp2
        go_ret
        exact ⟨_, rfl, _, H9.out⟩
      · have hcl := (own_get HS.tail).cells (g := g) rfl
        have HS' := Lib.hid HS
        clear hH H1 HS hT
        go_wp2_with (at_builtin; refine wpList_append_hp rfl (.tmp 51) (.tmp 52) 54 rfl 60 i0 _ 3 24 Tryd.underlying54 hi hz0 hz1 hz2 rfl (by decide) HS'.out rfl ⟨g, 0, none⟩ (againA A).length c5 (tc (againA A)) rfl (tc_length _) hcl (tc_one _) (by omega) (by omega) ?_)
        intro v' w1 H5
        obtain ⟨a7, c7, rfl⟩ := own_slice H5
        obtain ⟨k0, k1⟩ := ab_cell H5.tail.tail.tail
        have H9 := Lib.hid (FIN.out _ _ _ _ _ H5 (by rw [HL.out]) (by rw [HC.out]))
        clear H5 FIN HL HC hcl HS'
        go_wp2
        go_ret
        exact ⟨_, rfl, _, H9.out⟩
theorem atick_z {w0 w : World} {r : List Thing} {ab : Nat} {A : List Tr} (h : Hp w0 w (Ar ab A :: r)) (hl : A.length < 100000) (hA : Ra A) :
    Calls Tryd.prog 13 #[.pointer (some ⟨ab, 0, none⟩)] w fun e w' => ∃ u, e = .returned u ∧ Hp w0 w' (OwnI u (wakeA A) :: Ar ab (tickA A) :: r) := by
  obtain ⟨v, H⟩ := Ar.un h
  refine (atick_c H hl hA).mono ?_
  rintro e w' ⟨u, rfl, v', H'⟩
  exact ⟨u, rfl, (Ar.mk' (H'.pull 2 rfl |>.pull 2 rfl)).up1⟩
end Go.Proofs.YtllfkgdmneabiaaDoor
