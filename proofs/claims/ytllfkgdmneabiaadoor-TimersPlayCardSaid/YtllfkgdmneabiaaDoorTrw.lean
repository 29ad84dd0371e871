/- The document's alarms (timekeeperref19): their walks. -/
import Derived.Test.YtllfkgdmneabiaaDoorTrp
import Derived.Test.YtllfkgdmneabiaaDoorHpw
import Derived.Deep.AppendLies
import Derived.Laws.AppendOwnNone
import Derived.Laws.NewBlocks
set_option linter.unusedVariables false
set_option linter.unusedSimpArgs false
namespace Go.Proofs.YtllfkgdmneabiaaDoor
open Go.RowKit Go.Shelf
attribute [local go_sem] Oper.semAt_some

def tc (A : List Tr) : List Value := A.flatMap fun x => [.int .i64 x.1, .int .i64 x.2.1, .int .i64 x.2.2]
theorem tc_append (a b : List Tr) : tc (a ++ b) = tc a ++ tc b := by simp [tc]
theorem tc_length : ∀ xs : List Tr, (tc xs).length = xs.length * 3
  | [] => rfl
  | x :: r => by
    have := tc_length r
    simp only [tc, List.flatMap_cons, List.length_append, List.length_cons, List.length_nil] at this ⊢
    omega
theorem tc_get : ∀ (xs : List Tr) (i : Nat) (h : i < xs.length) (o : Nat) (ho : o < 3), (tc xs)[i * 3 + o]? = ([.int .i64 xs[i].1, .int .i64 xs[i].2.1, .int .i64 xs[i].2.2] : List Value)[o]?
  | [], i, h, _, _ => by simp at h
  | x :: r, 0, h, o, ho => by
    have : tc (x :: r) = [.int .i64 x.1, .int .i64 x.2.1, .int .i64 x.2.2] ++ tc r := rfl
    rw [this, List.getElem?_append_left (by simpa using ho)]
    simp
  | x :: r, i + 1, h, o, ho => by
    have e : tc (x :: r) = [.int .i64 x.1, .int .i64 x.2.1, .int .i64 x.2.2] ++ tc r := rfl
    rw [e, List.getElem?_append_right (by simp; omega)]
    have := tc_get r i (by simpa using h) o ho
    rw [show (i + 1) * 3 + o - ([.int .i64 x.1, .int .i64 x.2.1, .int .i64 x.2.2] : List Value).length = i * 3 + o by simp; omega]
    simpa using this
theorem tc_one (xs : List Tr) : ∀ v ∈ tc xs, v.oneCell' = true := by
  intro v hv
  obtain ⟨x, _, hx⟩ := List.mem_flatMap.1 hv
  simp at hx
  rcases hx with rfl | rfl | rfl <;> rfl
abbrev AB (ab : Nat) (v : Value) : Thing := Blk ab (.cells #[v] 56 (0, 0))
abbrev AO (v : Value) (A : List Tr) : Thing := Own 60 3 v A.length (tc A)
theorem info_one : (Tryd.prog.info? 60).map (fun i => (i.zero, i.size, i.bytes)) = some (some (.agg #[.int .i64 0, .int .i64 0, .int .i64 0]), 3, 24) := by kernel_rfl
theorem ab_cell {w0 w : World} {r : List Thing} {rb : Nat} {v : Value} (H : Hp w0 w (AB rb v :: r)) : w.cell? ⟨rb, 0, none⟩ = some v ∧ w.frozen? ⟨rb, 0, none⟩ = false :=
  ⟨by rw [cell_blk (blk_get H)]; rfl, free_blk (blk_get H) 0⟩
theorem ao_cells {w0 w : World} {r : List Thing} {v : Value} {A : List Tr} (H : Hp w0 w (AO v A :: r)) (k : Nat) (hk : k < A.length) : ∃ g cap, v = .slice (some ⟨g, 0, none⟩) A.length cap ∧ w.cell? ⟨g, k * 3, none⟩ = some (.int .i64 A[k].1) ∧ w.cell? ⟨g, k * 3 + 1, none⟩ = some (.int .i64 A[k].2.1) ∧ w.cell? ⟨g, k * 3 + 2, none⟩ = some (.int .i64 A[k].2.2) := by
  obtain ⟨g, cap, rfl, k0⟩ := own_cell H _ _ ((tc_get A k hk 0 (by omega)).trans rfl)
  obtain ⟨g1, c1, e1, k1⟩ := own_cell H _ _ ((tc_get A k hk 1 (by omega)).trans rfl)
  obtain ⟨g2, c2, e2, k2⟩ := own_cell H _ _ ((tc_get A k hk 2 (by omega)).trans rfl)
  obtain ⟨e1, -, -⟩ := Value.slice.inj e1
  obtain ⟨e2, -, -⟩ := Value.slice.inj e2
  cases e1; cases e2
  exact ⟨g, cap, rfl, k0, k1, k2⟩
theorem ao_snoc {w0 w : World} {r : List Thing} {v : Value} {A : List Tr} {y : Tr} (H : Hp w0 w (Own 60 3 v (A.length + 1) (tc A ++ [.int .i64 y.1, .int .i64 y.2.1, .int .i64 y.2.2]) :: r)) : Hp w0 w (AO v (A ++ [y]) :: r) :=
  own_as H (by simp) (by rw [tc_append]; rfl)

theorem outA_snoc (A : List Tr) (y : Tr) (id : Int) : outA (A ++ [y]) id = if y.1 = id then outA A id else outA A id ++ [y] := by
  unfold outA; rw [List.filter_append]
  by_cases h : y.1 = id
  · rw [if_pos h]; simp [h]
  · rw [if_neg h]; simp [h]

set_option maxHeartbeats 2000000 in
set_option maxRecDepth 20000 in
theorem without_c {w0 w : World} {r : List Thing} {ab : Nat} {v : Value} {A : List Tr} (id : Int) (H : Hp w0 w (AB ab v :: AO v A :: r)) (hl : A.length < 100000) :
    Calls Tryd.prog 22 #[.pointer (some ⟨ab, 0, none⟩), .int .i64 id] w fun e w' => ∃ u, e = .returned u ∧ Hp w0 w' (AO u (outA A id) :: AB ab v :: AO v A :: r) := by
  obtain ⟨i0, hi, hz0, hz1, hz2⟩ := info_parts info_one
  obtain ⟨a, c, rfl⟩ := own_slice H.tail
  have HH := Lib.hid (own_nil H 60 3)
  clear H
  go_enter Tryd.func22, Tryd.ntmps22
  go_wp2
  go_loopw [5, 6] (fun u i wr => ∃ k : Nat, k ≤ A.length ∧ i = .int .i64 k ∧ Hid (Hp w0 wr (AO u (outA (A.take k) id) :: AB ab (.slice a A.length c) :: AO (.slice a A.length c) A :: r))) (fun _ i _ => A.length - (intOf i).toNat)
  case atStart => exact ⟨0, Nat.zero_le _, rfl, HH⟩
  case round =>
    obtain ⟨k, hk, rfl, hH⟩ := hrel
    clear HH
    have h0 := (ab_cell hH.out.tail).1
    obtain ⟨a5, c5, rfl⟩ := own_slice hH.out
    by_cases hlt : k < A.length
    · obtain ⟨g, cap, e1, k0, k1, k2⟩ := ao_cells hH.out.tail.tail k hlt
      obtain ⟨rfl, -, rfl⟩ := Value.slice.inj e1
      have c1 : (k : Int) < (A.length : Int) := by omega
      have ht := List.take_succ_eq_append_getElem hlt
      have ho := outA_snoc (A.take k) A[k] id
      rw [← ht] at ho
      have l1 := outA_len (A.take k) id
      rw [List.length_take] at l1
      have hw2 : IntKind.i64.wrap ((k : Int) + 1) = (k : Int) + 1 := by rw [IntKind.wrap_i64]; omega
      have HO := Lib.hid ho
      clear ho ht e1
      generalize outA (A.take k) id = O at *
      generalize A[k] = y at *
      obtain ⟨y1, y2, y3⟩ := y
      simp only at *
      by_cases hy : y1 = id
      · have e3 := HO.out
        rw [if_pos hy] at e3
        have E3 := Lib.hid e3
        have d1 : (y1 != id) = false := by simpa using hy
        clear e3
        go_wp2
        go_roundw
        case rel => exact ⟨k + 1, by omega, by go_num, Lib.hid (by rw [E3.out]; exact hH.out)⟩
        case measure => simp [intOf]; omega
      · have e3 := HO.out
        rw [if_neg hy] at e3
        have E3 := Lib.hid e3
        have d1 : (y1 != id) = true := by simpa using hy
        clear e3
        go_wp2_with (at_builtin; refine wpList_append_hp rfl (.tmp 26) (.tmp 34) 54 rfl 60 i0 _ 3 24 Tryd.underlying54 hi hz0 hz1 hz2 rfl (by decide) (hH.out.alloc _) rfl ⟨wr.heap.size, 0, none⟩ 1 1 [.int .i64 y1, .int .i64 y2, .int .i64 y3] rfl rfl (World.news_of_block (cs := #[.int .i64 y1, .int .i64 y2, .int .i64 y3]) (t := 60) (fr := (0, 0)) (blk_alloc_new _ _)) (by simp [Value.oneCell']) (by omega) (by omega) ?_)
        intro v' w1 H1
        have H2 := ao_snoc (y := (y1, y2, y3)) H1
        obtain ⟨a6, c6, rfl⟩ := own_slice H1
        replace H2 := Lib.hid H2
        clear H1 hH k0 k1 k2 h0
        go_wp2
        go_roundw
        case rel => exact ⟨k + 1, by omega, by go_num, Lib.hid (by rw [E3.out]; exact H2.out)⟩
        case measure => simp [intOf]; omega
    · have hke : k = A.length := by omega
      subst hke
      have c1 : ¬ (A.length : Int) < (A.length : Int) := by omega
      have H1 := hH.out
      rw [List.take_length] at *
      have H2 := Lib.hid H1
      clear hH H1
      go_wp2
      go_ret
      exact ⟨_, rfl, H2.out⟩

set_option maxHeartbeats 1000000 in
set_option maxRecDepth 20000 in
theorem aleft_c {w0 w : World} {r : List Thing} {ab : Nat} {v : Value} {A : List Tr} (id : Int) (H : Hp w0 w (AB ab v :: AO v A :: r)) (hl : A.length < 100000) :
    Calls Tryd.prog 16 #[.pointer (some ⟨ab, 0, none⟩), .int .i64 id] w fun e w' => e = .returned (.int .i64 (lf (pr A) id).1) ∧ w = w' := by
  obtain ⟨a, c, rfl⟩ := own_slice H.tail
  have h0 := (ab_cell H).1
  have HH := Lib.hid H.tail
  clear H
  go_enter Tryd.func16, Tryd.ntmps16
  go_wp2
  go_loop [5] (fun i => ∃ k : Nat, k ≤ A.length ∧ i = .int .i64 k ∧ Hid (∀ j (hj : j < A.length), j < k → A[j].1 ≠ id)) (fun i => A.length - (intOf i).toNat)
  case atStart => exact ⟨0, Nat.zero_le _, rfl, Lib.hid (fun j _ h => by omega)⟩
  case round =>
    obtain ⟨k, hk, rfl, hne⟩ := hrel
    by_cases hlt : k < A.length
    · obtain ⟨g, cap, e1, k0, k1, k2⟩ := ao_cells HH.out k hlt
      obtain ⟨rfl, -, rfl⟩ := Value.slice.inj e1
      have c1 : (k : Int) < (A.length : Int) := by omega
      clear e1
      by_cases he : A[k].1 = id
      · have hfi : (lf (pr A) id).1 = A[k].2.1 := by
          unfold lf
          have : (pr A).find? (fun y => y.1 == id) = some (A[k].1, A[k].2.1) := by
            rw [List.find?_eq_some_iff_getElem]
            exact ⟨by simpa using he, k, by rw [pr_len]; exact hlt, by simp [pr], fun j hj => by simpa [pr] using hne.out j (by omega) hj⟩
          rw [this]
        have HF := Lib.hid hfi
        clear hfi
        rw [he] at k0
        go_wp2
        go_ret
        exact ⟨by rw [HF.out]; rfl, rfl⟩
      · have hne2 : Hid (∀ j (hj : j < A.length), j < k + 1 → A[j].1 ≠ id) := Lib.hid (fun j hj h => by
          rcases Nat.lt_or_eq_of_le (Nat.le_of_lt_succ h) with h | rfl
          · exact hne.out j hj h
          · exact he)
        have ee : (A[k].1 == id) = false := by simpa using he
        go_wp2
        go_round
        case rel => exact ⟨k + 1, by omega, by go_num, hne2⟩
        case measure => simp [intOf]; omega
    · have hfi : (lf (pr A) id).1 = 0 := by
        rw [lf_out]
        intro hm
        rw [pr_fst] at hm
        obtain ⟨y, hy, e⟩ := List.mem_map.1 hm
        obtain ⟨j, hj, ej⟩ := List.getElem_of_mem hy
        exact hne.out j hj (by omega) (by rw [ej]; exact e)
      have HF := Lib.hid hfi
      have c1 : ¬ (k : Int) < (A.length : Int) := by omega
      clear hfi
      go_wp2
      go_ret
      exact ⟨by rw [HF.out]; rfl, rfl⟩

def Ar (ab : Nat) (A : List Tr) : Thing := Ex (fun _ : Value => True) fun v => Alls [AB ab v, AO v A]
theorem Ar.un {w0 w : World} {r : List Thing} {ab : Nat} {A : List Tr} (h : Hp w0 w (Ar ab A :: r)) : ∃ v, Hp w0 w (AB ab v :: AO v A :: r) := by
  obtain ⟨v, _, h1⟩ := h.ex
  exact ⟨v, h1.unAlls⟩
theorem Ar.mk' {w0 w : World} {r : List Thing} {ab : Nat} {v : Value} {A : List Tr} (h : Hp w0 w (AB ab v :: AO v A :: r)) : Hp w0 w (Ar ab A :: r) := Hp.mkEx v trivial (Hp.alls h)

set_option maxHeartbeats 1000000 in
set_option maxRecDepth 20000 in
theorem anew_c {w0 w : World} {r : List Thing} (H : Hp w0 w r) :
    Calls Tryd.prog 6 #[] w fun e w' => ∃ ab, e = .returned (.pointer (some ⟨ab, 0, none⟩)) ∧ Hp w0 w' (Ar ab [] :: r) := by
  have H1 := Lib.hid (Ar.mk' (A := []) (own_nil (blk_new H (.cells #[.slice none 0 0] 56)) 60 3).up1)
  clear H
  go_enter Tryd.func6, Tryd.ntmps6
  go_wp2
  go_ret
  exact ⟨_, rfl, H1.out⟩
theorem aleft_z {w0 w : World} {r : List Thing} {ab : Nat} {A : List Tr} (id : Int) (h : Hp w0 w (Ar ab A :: r)) (hl : A.length < 100000) :
    Calls Tryd.prog 16 #[.pointer (some ⟨ab, 0, none⟩), .int .i64 id] w fun e w' => e = .returned (.int .i64 (lf (pr A) id).1) ∧ Hp w0 w' (Ar ab A :: r) := by
  obtain ⟨v, H⟩ := Ar.un h
  refine (aleft_c id H hl).mono ?_
  rintro e w' ⟨rfl, rfl⟩
  exact ⟨rfl, h⟩
set_option maxHeartbeats 1000000 in
set_option maxRecDepth 20000 in
theorem astart_ok {w0 w : World} {r : List Thing} {ab : Nat} {A : List Tr} (id n e : Int) (h : Hp w0 w (Ar ab A :: r)) (hl : A.length < 99999) (h0 : 0 ≤ id) (h1 : 1 ≤ n) (h2 : n ≤ 1073741824) (h3 : 0 ≤ e) (h4 : e ≤ 1073741824) :
    Calls Tryd.prog 8 #[.pointer (some ⟨ab, 0, none⟩), .int .i64 id, .int .i64 n, .int .i64 e] w fun x w' => x = .returned (.int .i64 0) ∧ Hp w0 w' (Ar ab (startA A id n e) :: r) := by
  obtain ⟨v, H⟩ := Ar.un h
  obtain ⟨i0, hi, hz0, hz1, hz2⟩ := info_parts info_one
  have CW := Lib.hid (without_c id H (by omega))
  have ol := outA_len A id
  clear H h
  go_enter Tryd.func8, Tryd.ntmps8
  go_wp2_with fail
  refine CW.out.mono ?_; rintro x w1 ⟨u, rfl, H1⟩
  obtain ⟨a5, c5, rfl⟩ := own_slice H1
  have HH := Lib.hid H1
  clear H1 CW
  go_wp2_with (at_builtin; refine wpList_append_hp rfl _ _ 54 rfl 60 i0 _ 3 24 Tryd.underlying54 hi hz0 hz1 hz2 rfl (by decide) (HH.out.alloc _) rfl ⟨w1.heap.size, 0, none⟩ 1 1 [.int .i64 id, .int .i64 n, .int .i64 e] rfl rfl (World.news_of_block (cs := #[.int .i64 id, .int .i64 n, .int .i64 e]) (t := 60) (fr := (0, 0)) (blk_alloc_new _ _)) (by simp [Value.oneCell']) (by omega) (by omega) ?_)
  intro v' w2 H2
  have H3 := ao_snoc (y := (id, n, e)) H2
  obtain ⟨a6, c6, rfl⟩ := own_slice H2
  obtain ⟨k0, k1⟩ := ab_cell H3.up1
  obtain ⟨av, cv, rfl⟩ := own_slice H3.tail.tail
  replace H3 := Lib.hid H3.up1
  clear H2 HH
  go_wp2
  go_ret
  exact ⟨rfl, Ar.mk' (((blk_set H3.out 0 _).pull 2 rfl).tail)⟩
set_option maxHeartbeats 1000000 in
set_option maxRecDepth 20000 in
theorem astart_arg {w0 w : World} {r : List Thing} {ab : Nat} {A : List Tr} (id n e : Int) (h : Hp w0 w (Ar ab A :: r)) (h0 : id < 0) :
    Calls Tryd.prog 8 #[.pointer (some ⟨ab, 0, none⟩), .int .i64 id, .int .i64 n, .int .i64 e] w fun x w' => x = .returned (.int .i64 1) ∧ Hp w0 w' (Ar ab A :: r) := by
  have HH := Lib.hid h
  clear h
  go_enter Tryd.func8, Tryd.ntmps8
  go_wp2
  go_ret
  exact ⟨rfl, HH.out⟩
set_option maxHeartbeats 1000000 in
set_option maxRecDepth 20000 in
theorem astart_range {w0 w : World} {r : List Thing} {ab : Nat} {A : List Tr} (id n e : Int) (h : Hp w0 w (Ar ab A :: r)) (h0 : 0 ≤ id) (hb : badS id n e) :
    Calls Tryd.prog 8 #[.pointer (some ⟨ab, 0, none⟩), .int .i64 id, .int .i64 n, .int .i64 e] w fun x w' => x = .returned (.int .i64 4) ∧ Hp w0 w' (Ar ab A :: r) := by
  have HH := Lib.hid h
  clear h
  unfold badS at hb
  have d0 : ¬ id < 0 := by omega
  by_cases b1 : n < 1
  · clear hb
    go_enter Tryd.func8, Tryd.ntmps8
    go_wp2
    go_ret
    exact ⟨rfl, HH.out⟩
  · by_cases b2 : 1073741824 < n
    · clear hb
      go_enter Tryd.func8, Tryd.ntmps8
      go_wp2
      go_ret
      exact ⟨rfl, HH.out⟩
    · by_cases b3 : e < 0
      · clear hb
        go_enter Tryd.func8, Tryd.ntmps8
        go_wp2
        go_ret
        exact ⟨rfl, HH.out⟩
      · have b4 : 1073741824 < e := by omega
        clear hb
        go_enter Tryd.func8, Tryd.ntmps8
        go_wp2
        go_ret
        exact ⟨rfl, HH.out⟩
set_option maxHeartbeats 1000000 in
set_option maxRecDepth 20000 in
theorem astop_ok {w0 w : World} {r : List Thing} {ab : Nat} {A : List Tr} (id : Int) (h : Hp w0 w (Ar ab A :: r)) (hl : A.length < 99999) (hz : (lf (pr A) id).1 ≠ 0) :
    Calls Tryd.prog 10 #[.pointer (some ⟨ab, 0, none⟩), .int .i64 id] w fun x w' => x = .returned (.int .i64 0) ∧ Hp w0 w' (Ar ab (outA A id) :: r) := by
  obtain ⟨v, H⟩ := Ar.un h
  have CL := Lib.hid (aleft_c id H (by omega))
  have CW := Lib.hid (without_c id H (by omega))
  clear H h
  generalize (lf (pr A) id).1 = z at *
  have d0 : (z == 0) = false := by simpa using hz
  clear hz
  go_enter Tryd.func10, Tryd.ntmps10
  go_wp2_with fail
  refine CL.out.mono ?_; rintro x w1 ⟨rfl, rfl⟩
  go_wp2_with fail
  refine CW.out.mono ?_; rintro x w1 ⟨u, rfl, H1⟩
  obtain ⟨a5, c5, rfl⟩ := own_slice H1
  obtain ⟨k0, k1⟩ := ab_cell H1.up1
  obtain ⟨av, cv, rfl⟩ := own_slice H1.tail.tail
  have HH := Lib.hid H1.up1
  clear H1 CW CL
  go_wp2
  go_ret
  exact ⟨rfl, Ar.mk' (((blk_set HH.out 0 _).pull 2 rfl).tail)⟩
set_option maxHeartbeats 1000000 in
set_option maxRecDepth 20000 in
theorem astop_state {w0 w : World} {r : List Thing} {ab : Nat} {A : List Tr} (id : Int) (h : Hp w0 w (Ar ab A :: r)) (hl : A.length < 99999) (hz : (lf (pr A) id).1 = 0) :
    Calls Tryd.prog 10 #[.pointer (some ⟨ab, 0, none⟩), .int .i64 id] w fun x w' => x = .returned (.int .i64 7) ∧ Hp w0 w' (Ar ab A :: r) := by
  have CL := Lib.hid (aleft_z id h (by omega))
  rw [hz] at CL
  clear h hz
  go_enter Tryd.func10, Tryd.ntmps10
  go_wp2_with fail
  refine CL.out.mono ?_; rintro x w1 ⟨rfl, H1⟩
  have HH := Lib.hid H1
  clear H1 CL
  go_wp2
  go_ret
  exact ⟨rfl, HH.out⟩
end Go.Proofs.YtllfkgdmneabiaaDoor
