/- The document's list of sleepers (timekeeperref10): All. -/
import Derived.Test.YtgcakjcljfhmpaaDoorRfx
import Derived.Deep.CutRange
set_option linter.unusedVariables false
set_option linter.unusedSimpArgs false
namespace Go.Proofs.YtgcakjcljfhmpaaDoor
open Go.RowKit Go.Shelf
attribute [local go_sem] Oper.semAt_some

theorem own_made {w0 w : World} {r : List Thing} (H : Hp w0 w r) (e : TypeId) (z : Value) (n : Nat) (hn : n < 1000000) : Hp w0 (w.alloc (.cells (madeCells #[z] n) e)) (Own e 1 (.slice (some ⟨w.heap.size, 0, none⟩) n n) n (List.replicate n z) :: r) := by
  refine own_new H ((Tch.refl _ w).alloc _) ⟨by simp, Or.inr ⟨w.heap.size, n, madeCells #[z] n, rfl, Nat.le_refl _, blk_alloc_new w _, Nat.le_refl _, by unfold maxLen; omega, by rw [size_madeCells, Nat.mul_one], ?_⟩⟩
  rw [Nat.mul_one, List.take_of_length_le (by rw [Array.length_toList, size_madeCells]; omega)]
  refine List.ext_getElem (by rw [Array.length_toList, size_madeCells, List.length_replicate]) fun i h1 h2 => ?_
  have : i % 1 = 0 := by omega
  simp [madeCells, Nat.mod_one]

/-- Who is next, of the first ones. -/
def Nx (R : List (Int × Int)) (T : List Int) (i : Nat) (nx : Int) : Prop :=
  (nx = -1 ∧ ∀ p (hp : p < R.length), p < i → R[p].1 ∈ T) ∨
  ∃ m : Nat, ∃ hm : m < R.length, nx = m ∧ m < i ∧ R[m].1 ∉ T ∧ ∀ p (hp : p < R.length), p < i → R[p].1 ∉ T → R[m].2 < R[p].2 ∨ (R[m].2 = R[p].2 ∧ m ≤ p)
theorem nx_zero (R : List (Int × Int)) (T : List Int) : Nx R T 0 (-1) := Or.inl ⟨rfl, fun p _ h => by omega⟩
theorem lt_succ {p i : Nat} (h : p < i + 1) : p < i ∨ p = i := by omega
theorem nx_told {R : List (Int × Int)} {T : List Int} {i : Nat} {nx : Int} (h : Nx R T i nx) (hi : i < R.length) (ht : R[i].1 ∈ T) : Nx R T (i + 1) nx := by
  rcases h with ⟨rfl, h⟩ | ⟨m, hm, rfl, h1, h2, h3⟩
  · refine Or.inl ⟨rfl, fun p hp h' => ?_⟩
    rcases lt_succ h' with h' | rfl
    · exact h p hp h'
    · exact ht
  · refine Or.inr ⟨m, hm, rfl, by omega, h2, fun p hp h' hn => ?_⟩
    rcases lt_succ h' with h' | rfl
    · exact h3 p hp h' hn
    · exact absurd ht hn
theorem nx_first {R : List (Int × Int)} {T : List Int} {i : Nat} (h : Nx R T i (-1)) (hi : i < R.length) (ht : R[i].1 ∉ T) : Nx R T (i + 1) i := by
  rcases h with ⟨_, h⟩ | ⟨m, hm, e, _⟩
  · refine Or.inr ⟨i, hi, rfl, by omega, ht, fun p hp h' hn => ?_⟩
    rcases lt_succ h' with h' | rfl
    · exact absurd (h p hp h') hn
    · exact Or.inr ⟨rfl, Nat.le_refl _⟩
  · omega
theorem nx_less {R : List (Int × Int)} {T : List Int} {i m : Nat} (h : Nx R T i m) (hi : i < R.length) (hm : m < R.length) (ht : R[i].1 ∉ T) (hl : R[i].2 < R[m].2) : Nx R T (i + 1) i := by
  rcases h with ⟨e, h⟩ | ⟨m', hm', e, h1, h2, h3⟩
  · omega
  · obtain rfl : m = m' := by omega
    refine Or.inr ⟨i, hi, rfl, by omega, ht, fun p hp h' hn => ?_⟩
    rcases lt_succ h' with h' | rfl
    · have := h3 p hp h' hn; exact Or.inl (by omega)
    · exact Or.inr ⟨rfl, Nat.le_refl _⟩
theorem nx_more {R : List (Int × Int)} {T : List Int} {i m : Nat} (h : Nx R T i m) (hi : i < R.length) (hm : m < R.length) (hl : ¬ R[i].2 < R[m].2) : Nx R T (i + 1) m := by
  rcases h with ⟨e, h⟩ | ⟨m', hm', e, h1, h2, h3⟩
  · omega
  · obtain rfl : m = m' := by omega
    refine Or.inr ⟨m, hm, rfl, by omega, h2, fun p hp h' hn => ?_⟩
    rcases lt_succ h' with h' | rfl
    · exact h3 p hp h' hn
    · by_cases e : R[m].2 = R[p].2
      · exact Or.inr ⟨e, by omega⟩
      · exact Or.inl (by omega)
theorem nx_case {R : List (Int × Int)} {T : List Int} {i : Nat} {nx : Int} (h : Nx R T i nx) : nx = -1 ∨ ∃ m : Nat, m < R.length ∧ nx = m := by
  rcases h with ⟨rfl, _⟩ | ⟨m, hm, rfl, _⟩
  · exact Or.inl rfl
  · exact Or.inr ⟨m, hm, rfl⟩
abbrev Qs (R : List (Int × Int)) : List Int := (srt R).map Prod.fst
abbrev ft (T : List Int) (y : Int × Int) : Value := .bool (decide (y.1 ∈ T))
theorem nx_end {R : List (Int × Int)} (hR : Rok R) {j : Nat} {nx : Int} (hj : j < R.length) (h : Nx R ((Qs R).take j) R.length nx) :
    ∃ m : Nat, ∃ hm : m < R.length, nx = m ∧ (Qs R).take (j + 1) = (Qs R).take j ++ [R[m].1] ∧ (R.map (ft ((Qs R).take j))).set m (.bool true) = R.map (ft ((Qs R).take (j + 1))) := by
  have hj' : j < (srt R).length := by rw [srt_len]; exact hj
  have hok := ok_srt hR
  have inj : ∀ {a b : Nat} (ha : a < (Qs R).length) (hb : b < (Qs R).length), (Qs R)[a] = (Qs R)[b] → a = b := fun ha hb e => (List.getElem_inj hok.nd).1 e
  rcases h with ⟨rfl, h⟩ | ⟨m, hm, rfl, _, h2, h3⟩
  · exfalso
    obtain ⟨p, hp, e⟩ := List.getElem_of_mem (srt_mem.1 (List.getElem_mem hj'))
    have := h p hp hp
    rw [e] at this
    obtain ⟨q, hq, e2⟩ := List.getElem_of_mem this
    rw [List.length_take] at hq
    rw [List.getElem_take] at e2
    have := inj (a := q) (b := j) (by simp; omega) (by simpa using hj') (by rw [e2]; simp)
    omega
  · have hnx := next_is hR j m hj' hm h2 (fun i hi hn => h3 i hi hi hn)
    have hq : (Qs R)[j]'(by simpa using hj') = R[m].1 := by simp [Qs, hnx]
    have e1 : (Qs R).take (j + 1) = (Qs R).take j ++ [R[m].1] := by rw [List.take_succ_eq_append_getElem (by simpa using hj'), hq]
    refine ⟨m, hm, rfl, e1, ?_⟩
    refine List.ext_getElem (by simp) fun i h4 h5 => ?_
    have hi : i < R.length := by simpa using h5
    rw [List.getElem_set, List.getElem_map, List.getElem_map]
    by_cases e : m = i
    · subst e; rw [if_pos rfl]; simp [ft, e1]
    · rw [if_neg e]
      have : R[i].1 ≠ R[m].1 := fun e' => e ((List.getElem_inj (xs := R.map Prod.fst) (h₀ := by simpa using hm) (h₁ := by simpa using hi) hR.nd).1 (by simp [e']))
      simp [ft, e1, this]

set_option maxHeartbeats 4000000 in
set_option maxRecDepth 20000 in
theorem rall_c {w0 w : World} {r : List Thing} {rb : Nat} {v : Value} {R : List (Int × Int)} (H : Hp w0 w (RB rb v :: RO v R :: r)) (hl : R.length < 100000) (hR : Rok R) :
    Calls Tryd.prog 16 #[.pointer (some ⟨rb, 0, none⟩)] w fun e w' => ∃ u, e = .returned u ∧ Hp w0 w' (OwnI u (Qs R) :: RB rb v :: RO v R :: r) := by
  obtain ⟨j0, hj0, jz0, jz1, jz2⟩ := info_parts info_int
  obtain ⟨a, c, rfl⟩ := own_slice H.tail
  have hmk := run_make_row' (P := Tryd.prog) 65 4 (.bool false) 1 Tryd.underlying65 info_bool rfl .i64 .i64 R.length (by omega) (by omega)
  have HR := Lib.hid hR
  have HM := Lib.hid (own_nil (own_made H 4 (.bool false) R.length (by omega)) 3 1)
  have h00 := (rb_cell H).1
  obtain ⟨tb, htb⟩ : ∃ tb, tb = w.heap.size := ⟨_, rfl⟩
  clear H hR
  go_enter Tryd.func16, Tryd.ntmps16
  go_upto_region 3 with fail
  have h01 := (rb_cell HM.out.tail.tail).1
  have HM2 : Hid (Hp w0 (w.alloc (.cells (madeCells #[.bool false] R.length) 4)) (OwnI (.slice none 0 0) ((Qs R).take 0) :: Own 4 1 (.slice (some ⟨w.heap.size, 0, none⟩) R.length R.length) R.length (R.map (ft ((Qs R).take 0))) :: RB rb (.slice a R.length c) :: RO (.slice a R.length c) R :: r)) := by
    refine Lib.hid ?_
    have h := HM.out
    have e : List.replicate R.length (Value.bool false) = R.map (ft ((Qs R).take 0)) := by
      refine List.ext_getElem (by simp) fun i h1 h2 => ?_
      simp [ft]
    rw [e] at h
    exact h
  clear HM h00 hmk
  generalize (w.alloc (.cells (madeCells #[.bool false] R.length) 4)) = w1 at *
  generalize w.heap.size = tb at *
  go_wp2
  go_loopw [3, 5, 6, 18] (fun u3 u5 u6 s wr => ∃ j : Nat, j ≤ R.length ∧ s = .int .i64 j ∧ Hid (Hp w0 wr (OwnI u3 ((Qs R).take j) :: Own 4 1 (.slice (some ⟨tb, 0, none⟩) R.length R.length) R.length (R.map (ft ((Qs R).take j))) :: RB rb (.slice a R.length c) :: RO (.slice a R.length c) R :: r))) (fun _ _ _ s _ => R.length - (intOf s).toNat)
  case atStart => exact ⟨0, Nat.zero_le _, rfl, HM2⟩
  case round =>
    obtain ⟨j, hj, rfl, hH⟩ := hrel
    clear HM2 h01
    have hql : ((Qs R).take j).length = j := by rw [List.length_take, List.length_map, srt_len]; omega
    obtain ⟨T, hT⟩ : ∃ T, T = (Qs R).take j := ⟨_, rfl⟩
    have HT := Lib.hid hT
    rw [← hT] at hH hql
    unfold OwnI at hH
    rw [hql] at hH
    have HQL := Lib.hid hql
    clear hql hT
    obtain ⟨a3, c3, rfl⟩ := own_slice hH.out
    by_cases hjl : j < R.length
    · have c1 : (j : Int) < (R.length : Int) := by omega
      have hw2 : IntKind.i64.wrap ((j : Int) + 1) = (j : Int) + 1 := by rw [IntKind.wrap_i64]; omega
      go_upto_region 5 with fail
      go_wp2
      go_loopw [5, 6] (fun s5 s6 wr => ∃ i : Nat, i ≤ R.length ∧ s6 = .int .i64 i ∧ ∃ nx : Int, s5 = .int .i64 nx ∧ Hid (Nx R T i nx) ∧ Hid (Hp w0 wr (Own 3 1 (.slice a3 j c3) j (T.map (Value.int .i64)) :: Own 4 1 (.slice (some ⟨tb, 0, none⟩) R.length R.length) R.length (R.map (ft T)) :: RB rb (.slice a R.length c) :: RO (.slice a R.length c) R :: r))) (fun _ s6 _ => R.length - (intOf s6).toNat)
      case atStart => exact ⟨0, Nat.zero_le _, rfl, -1, rfl, Lib.hid (nx_zero _ _), hH⟩
      case round =>
        clear hH
        obtain ⟨i, hi, rfl, nx, rfl, hnx, hH⟩ := hrel
        obtain ⟨k0, k1⟩ := rb_cell hH.out.tail.tail
        by_cases hil : i < R.length
        · have d1 : (i : Int) < (R.length : Int) := by omega
          have hwi : IntKind.i64.wrap ((i : Int) + 1) = (i : Int) + 1 := by rw [IntKind.wrap_i64]; omega
          obtain ⟨gt, capt, e1, kt⟩ := own_cell hH.out.tail i (ft T R[i]) (by simp [hil])
          obtain ⟨e2, -, -⟩ := Value.slice.inj e1
          cases e2
          obtain ⟨g, cap, e1, ki⟩ := own_cell hH.out.tail.tail.tail _ _ (pc_get1 R i hil)
          obtain ⟨rfl, -, -⟩ := Value.slice.inj e1
          clear e1
          by_cases ht : R[i].1 ∈ T
          · have HN := Lib.hid (nx_told hnx.out hil ht)
            have kt' : wr.cell? ⟨tb, i, none⟩ = some (.bool true) := by rw [kt]; simp [ft, ht]
            clear kt hnx ht
            go_wp2
            go_quiet (fail)
            go_wp2
            go_roundw
            case rel => exact ⟨i + 1, by omega, by go_num, nx, rfl, HN, Lib.hid (hH.out.drewN _)⟩
            case measure => simp [intOf]; omega
          · have kt' : wr.cell? ⟨tb, i, none⟩ = some (.bool false) := by rw [kt]; simp [ft, ht]
            clear kt
            rcases nx_case hnx.out with rfl | ⟨m, hm, rfl⟩
            · have HN := Lib.hid (nx_first hnx.out hil ht)
              clear hnx ht
              go_wp2
              go_quiet (fail)
              go_wp2
              go_roundw
              case rel => exact ⟨i + 1, by omega, by go_num, i, rfl, HN, Lib.hid (hH.out.drewN _)⟩
              case measure => simp [intOf]; omega
            · obtain ⟨g', cap', e1, km⟩ := own_cell hH.out.tail.tail.tail _ _ (pc_get1 R m hm)
              obtain ⟨e2, -, -⟩ := Value.slice.inj e1
              cases e2
              have d2 : decide ((m : Int) < 0) = false := by simp
              have d3 : (m : Int) < (R.length : Int) := by omega
              have d4 : (0 : Int) ≤ (m : Int) := Int.natCast_nonneg _
              clear e1
              by_cases hlt : R[i].2 < R[m].2
              · have HN := Lib.hid (nx_less hnx.out hil hm ht hlt)
                have d5 : decide (R[i].2 < R[m].2) = true := by simpa using hlt
                clear hnx ht
                go_wp2
                go_quiet (fail)
                go_wp2
                go_roundw
                case rel => exact ⟨i + 1, by omega, by go_num, i, rfl, HN, Lib.hid (hH.out.drewN _)⟩
                case measure => simp [intOf]; omega
              · have HN := Lib.hid (nx_more hnx.out hil hm hlt)
                have d5 : decide (R[i].2 < R[m].2) = false := by simpa using hlt
                clear hnx ht
                go_wp2
                go_quiet (fail)
                go_wp2
                go_roundw
                case rel => first | exact ⟨i + 1, by omega, by go_num, m, rfl, HN, Lib.hid (hH.out.drewN _)⟩ | ((repeat apply Exists.intro); exact ⟨⟨i + 1, by omega, by go_num, m, rfl, HN, Lib.hid (hH.out.drewN _)⟩, rfl⟩)
                case measure => simp [intOf]; omega
        · have hie : i = R.length := by omega
          subst hie
          have d1 : ¬ (R.length : Int) < (R.length : Int) := by omega
          obtain ⟨m, hm, rfl, q1, q2⟩ := nx_end HR.out hjl (by rw [← HT.out]; exact hnx.out)
          rw [← HT.out] at q1 q2
          have Q1 := Lib.hid q1
          have Q2 := Lib.hid q2
          obtain ⟨gt, capt, e1, kt⟩ := own_cell hH.out.tail m (ft T R[m]) (by simp [hm])
          obtain ⟨e2, -, -⟩ := Value.slice.inj e1
          cases e2
          have kf := (own_get hH.out.tail).frozenAt m
          obtain ⟨g, cap, e1, km⟩ := own_cell hH.out.tail.tail.tail _ _ (pc_get0 R m hm)
          obtain ⟨rfl, -, -⟩ := Value.slice.inj e1
          have d2 : (m : Int) < (R.length : Int) := by omega
          have d3 : (0 : Int) ≤ (m : Int) := Int.natCast_nonneg _
          have H2 := own_set (hH.out.up1) m (.bool true) (by omega)
          rw [Q2.out] at H2
          have H3 := Lib.hid H2.up1
          clear H2 q1 q2 e1 hnx
          generalize hxm : R[m].1 = xm at *
          have XM := Lib.hid hxm
          clear hxm
          have km' : (wr.setCell ⟨tb, m, none⟩ (.bool true)).cell? ⟨g, m * 2, none⟩ = some (.int .i64 xm) := by
            obtain ⟨g', cap', e1, km⟩ := own_cell H3.out.tail.tail.tail _ _ (pc_get0 R m hm)
            obtain ⟨e2, -, -⟩ := Value.slice.inj e1
            cases e2
            rw [← XM.out]; exact km
          have k0' : (wr.setCell ⟨tb, m, none⟩ (.bool true)).cell? ⟨rb, 0, none⟩ = some (.slice (some ⟨g, 0, none⟩) R.length c) := (rb_cell H3.out.tail.tail).1
          go_wp2_with (at_builtin; refine wpList_append_hp rfl (.tmp 61) (.tmp 70) 46 rfl 3 j0 _ 1 8 Tryd.underlying46 hj0 jz0 jz1 jz2 rfl (by decide) (H3.out.alloc _) rfl ⟨wr.heap.size, 0, none⟩ 1 1 [.int .i64 xm] rfl rfl (cell_one_at _ _ _ _ (by simp)) (by simp [Value.oneCell']) (by omega) (by omega) ?_)
          intro v1 w1 H4
          obtain ⟨a4, c4, rfl⟩ := own_slice H4
          have H5 : Hid (Hp w0 w1 (OwnI (.slice a4 (j + 1) c4) ((Qs R).take (j + 1)) :: Own 4 1 (.slice (some ⟨tb, 0, none⟩) R.length R.length) R.length (R.map (ft ((Qs R).take (j + 1)))) :: RB rb (.slice (some ⟨g, 0, none⟩) R.length c) :: RO (.slice (some ⟨g, 0, none⟩) R.length c) R :: r)) := Lib.hid (own_as H4 (by rw [Q1.out, List.length_append, HQL.out]; rfl) (by rw [Q1.out]; simp))
          clear H4 H3 k0' km' kt kf k0 k1 km hH
          go_wp2
          go_roundw
          case rel => exact ⟨j + 1, by omega, by go_num, H5⟩
          case measure => simp [intOf]; omega
    · have hje : j = R.length := by omega
      subst hje
      have d1 : ¬ (R.length : Int) < (R.length : Int) := by omega
      have e : T = Qs R := by rw [HT.out]; exact List.take_of_length_le (by simp [srt_len])
      subst e
      have h9 : Hp w0 wr (OwnI (.slice a3 R.length c3) (Qs R) :: Own 4 1 (.slice (some ⟨tb, 0, none⟩) R.length R.length) R.length (R.map (ft (Qs R))) :: RB rb (.slice a R.length c) :: RO (.slice a R.length c) R :: r) := own_as hH.out (by simp [srt_len]) rfl
      have H9 := Lib.hid h9.up1.tail
      clear h9 hH
      go_wp2
      go_ret
      exact ⟨_, rfl, H9.out⟩
end Go.Proofs.YtgcakjcljfhmpaaDoor
