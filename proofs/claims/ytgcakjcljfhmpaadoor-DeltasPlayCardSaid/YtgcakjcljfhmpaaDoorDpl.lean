/- DeltasPlay of timekeeperlaw10: the walk. -/
import Derived.Test.YtgcakjcljfhmpaaDoorRfz
import Derived.Test.YtgcakjcljfhmpaaDoorBok
import Derived.Test.YtgcakjcljfhmpaaDoorWf
import Derived.Test.YtgcakjcljfhmpaaDoorPla
import Derived.Deep.CutRange
import Derived.Deep.CutBlock
import Derived.Deep.RegionWith
import Derived.Deep.RegionHeld3
import Derived.BigQuiet
import Derived.Lib.SmallJoins
import Derived.Deep.Slices
set_option linter.unusedVariables false
set_option linter.unusedSimpArgs false
namespace Go.Proofs.YtgcakjcljfhmpaaDoor
open Go.RowKit Go.Shelf Go.Maps Go.Joins Go.Deep
attribute [local go_sem] Oper.semAt_some

abbrev Ad := Int × Int × Int
def ActsIn (w : World) (a : Option Addr) (xs : List Ad) : Prop :=
  ∀ j (hj : j < xs.length), ∃ g off, a = some ⟨g, off, none⟩ ∧ w.cell? ⟨g, off + j * 3, none⟩ = some (.int .u8 xs[j].1) ∧ w.cell? ⟨g, off + j * 3 + 1, none⟩ = some (.int .i64 xs[j].2.1) ∧ w.cell? ⟨g, off + j * 3 + 2, none⟩ = some (.int .i64 xs[j].2.2)
structure AdWf (x : Ad) : Prop where
  k : (Lit.int .u8 x.1).wf = true
  i : (Lit.int .i64 x.2.1).wf = true
  n : (Lit.int .i64 x.2.2).wf = true
theorem acts_cell {w0 w : World} {r : List Thing} {a : Option Addr} {xs : List Ad} (h : Hp w0 w r) (hb : ActsIn w0 a xs) (j : Nat) (hj : j < xs.length) : ∃ g off, a = some ⟨g, off, none⟩ ∧ w.cell? ⟨g, off + j * 3, none⟩ = some (.int .u8 xs[j].1) ∧ w.cell? ⟨g, off + j * 3 + 1, none⟩ = some (.int .i64 xs[j].2.1) ∧ w.cell? ⟨g, off + j * 3 + 2, none⟩ = some (.int .i64 xs[j].2.2) := by
  obtain ⟨g, off, rfl, h0, h1, h2⟩ := hb j hj
  have k := fun (i : Nat) (v : Value) (e : w0.cell? ⟨g, i, none⟩ = some v) => (h.below.cell (p := ⟨g, i, none⟩) (World.block_lt_of_cell? _ _ e)).trans e
  exact ⟨g, off, rfl, k _ _ h0, k _ _ h1, k _ _ h2⟩
set_option maxRecDepth 20000 in
theorem opened_acts {H : Type} {enc : TypeId × Value → H} {W : World} {cs : List Value} {fuel : Nat} {x : DataW H × List MemPlace} (h : DataW.trod enc Tryd.prog W 0 (fun _ => true) true fuel 22 cs = some x) :
    ∃ a c xs, cs = [.slice a xs.length c] ∧ ActsIn W a xs ∧ ∀ z ∈ xs, AdWf z := by
  rcases open_slice Tryd.underlying22 h with ⟨rfl, _⟩ | ⟨a, len, cap, m, n, D, Pl, rfl, _, hl, _, hm, _, hx⟩
  · exact ⟨none, 0, [], rfl, fun j hj => by simp at hj, fun z hz => by simp at hz⟩
  · simp only [if_true] at hm
    subst hm
    have hC : Tryd.prog.cellsOf 40 = 3 := by kernel_rfl
    rw [hC] at hx
    by_cases h0 : len = 0
    · subst h0
      exact ⟨_, _, [], rfl, fun j hj => by simp at hj, fun z hz => by simp at hz⟩
    have hsp : a.spot = none := by
      obtain ⟨cs', h1, _⟩ := hx 0 (by omega)
      obtain ⟨_, hlen, hc⟩ := World.cells?_some h1
      match cs', hlen with
      | [v0, v1, v2], _ => simpa [Addr.add] using World.cell?_spot (hc 0 (by omega))
    obtain ⟨b, o, s⟩ := a
    obtain rfl : s = none := hsp
    have key : ∀ i, i < len → ∃ z : Ad, AdWf z ∧ W.cell? ⟨b, o + i * 3, none⟩ = some (.int .u8 z.1) ∧ W.cell? ⟨b, o + i * 3 + 1, none⟩ = some (.int .i64 z.2.1) ∧ W.cell? ⟨b, o + i * 3 + 2, none⟩ = some (.int .i64 z.2.2) := by
      intro i hi
      obtain ⟨cs', h1, h2⟩ := hx i (by omega)
      obtain ⟨_, hlen, hc⟩ := World.cells?_some h1
      obtain ⟨y0, y1, y2, n', _, _, t0, t1, t2⟩ := trod_struct3 Tryd.underlying40 h2
      match cs', hlen with
      | [v0, v1, v2], _ =>
        have o0 : Tryd.prog.cellsOf 5 = 1 := by kernel_rfl
        have o1 : Tryd.prog.cellsOf 3 = 1 := by kernel_rfl
        have o2 : Tryd.prog.cellsOf 2 = 1 := by kernel_rfl
        simp only [o0, o1, o2, List.drop_succ_cons, List.drop_zero, List.take_succ_cons, List.take_zero] at t0 t1 t2
        obtain ⟨n0, e0, _, w0⟩ := DataW.trod_int Tryd.underlying5 t0
        obtain ⟨n1, e1, _, w1⟩ := DataW.trod_int Tryd.underlying3 t1
        obtain ⟨n2, e2, _, w2⟩ := DataW.trod_int Tryd.underlying2 t2
        cases e0; cases e1; cases e2
        have c0 := hc 0 (by omega)
        have c1 := hc 1 (by omega)
        have c2 := hc 2 (by omega)
        rw [Addr.add_lit, Addr.add_lit] at c0 c1 c2
        exact ⟨(n0, n1, n2), ⟨w0, w1, w2⟩, c0, c1, c2⟩
    obtain ⟨V, hV⟩ := choose_lt key
    refine ⟨some ⟨b, o, none⟩, _, (List.range len).map V, by rw [List.length_map, List.length_range], fun j hj => ?_, fun z hz => ?_⟩
    · have hj' : j < len := by simpa using hj
      obtain ⟨_, k⟩ := hV j hj'
      exact ⟨b, o, rfl, by simpa using k⟩
    · obtain ⟨i, hi, rfl⟩ := List.mem_map.1 hz
      exact (hV i (by simpa using hi)).1

theorem same_oo {w0 w : World} {r : List Thing} {u v : Value} {us : List Int} (h : Hp w0 w (OwnI u us :: OwnI v us :: r)) (hu : us.length < 100000) :
    Calls Tryd.prog 12 #[u, v] w fun e w' => e = .returned (.bool true) ∧ Hp w0 w' (OwnI u us :: OwnI v us :: r) := by
  refine (same_o h hu hu).mono ?_
  rintro e w' ⟨rfl, h'⟩
  exact ⟨by simp, h'⟩
theorem wake_len' {R : List (Int × Int)} {n : Nat} (h : R.length ≤ n) (hn : n < 99999) : (wake R).length < 100000 := by have := wake_len R; omega
theorem qs_len' {R : List (Int × Int)} {n : Nat} (h : R.length ≤ n) (hn : n < 99999) : (Qs R).length < 100000 := by simp [srt_len]; omega
theorem four_three {w0 w : World} {a b c d : Thing} (h : Hp w0 w [a, b, c, d]) : Hp w0 w [a, b, c] := (h.pull 3 rfl).tail
abbrev Xb (xb : Nat) (k i t : Int) : Thing := Blk xb (.cells #[.int .u8 k, .int .i64 i, .int .i64 t] 40 (0, 0))
theorem xb_cells {w0 w : World} {r : List Thing} {xb : Nat} {k i t : Int} (h : Hp w0 w (Xb xb k i t :: r)) : w.cell? ⟨xb, 1, none⟩ = some (.int .i64 i) ∧ w.cell? ⟨xb, 2, none⟩ = some (.int .i64 t) :=
  ⟨by rw [cell_blk (blk_get h)]; rfl, by rw [cell_blk (blk_get h)]; rfl⟩

set_option maxHeartbeats 8000000 in
set_option maxRecDepth 20000 in
theorem play_c (a : Option Addr) (c : Nat) (xs : List Ad) (w : World) (hb : ActsIn w a xs) (hwf : ∀ z ∈ xs, AdWf z) :
    Calls Tryd.prog 3 #[.slice a xs.length c] w fun e w' => e = .returned (.bool true) ∧ Below w.heap.size w w' := by
  have HB := Lib.hid hb
  have HW := Lib.hid hwf
  clear hb hwf
  go_enter Tryd.func3, Tryd.ntmps3
  by_cases hn : 300 < (xs.length : Int)
  · go_wp2
    go_ret
    exact ⟨rfl, Below.refl _ _⟩
  · go_wp2_with fail
    refine (new_h (Hp.start w)).mono ?_; rintro e w1 ⟨b, rfl, H1⟩
    have H3 : Hp w ((w1.alloc (.cells #[.slice none 0 0] 28)).alloc (.cells #[.int .i64 0, .slice none 0 0, .slice none 0 0, .slice none 0 0, .slice none 0 0, .slice none 0 0, .slice none 0 0, .slice none 0 0, .slice none 0 0] 38)) [Slp b (srt []), Rl w1.heap.size [], Book (w1.heap.size + 1) 0] := by
      have h := book_new (rl_new H1)
      rw [← size_alloc1] at h
      exact h.perm ((List.reverse_perm _).symm)
    have HH := Lib.hid H3
    clear H1 H3
    go_upto_region 8 with fail
    generalize ((w1.alloc (.cells #[.slice none 0 0] 28)).alloc (.cells #[.int .i64 0, .slice none 0 0, .slice none 0 0, .slice none 0 0, .slice none 0 0, .slice none 0 0, .slice none 0 0, .slice none 0 0, .slice none 0 0] 38)) = w2 at *
    obtain ⟨kb, hkb⟩ : ∃ kb, kb = w1.heap.size + 1 := ⟨_, rfl⟩
    rw [← hkb] at HH ⊢
    clear hkb
    generalize w1.heap.size = rb at *
    go_wp2
    go_loopw [6] (fun i wr => ∃ k : Nat, k ≤ xs.length ∧ i = .int .i64 k ∧ ∃ R N, Rok R ∧ R.length ≤ k ∧ N ≤ 2 * k ∧ Hid (Hp w wr [Slp b (srt R), Rl rb R, Book kb N])) (fun i _ => xs.length - (intOf i).toNat)
    case atStart => exact ⟨0, Nat.zero_le _, rfl, [], 0, rok_nil, by simp, by omega, HH⟩
    case round =>
      obtain ⟨k, hk, rfl, R, N, hR, hl, hN, hH⟩ := hrel
      clear HH
      by_cases hlt : k < xs.length
      · obtain ⟨g, off, rfl, d0, d1, d2⟩ := acts_cell hH.out HB.out k hlt
        have c1 : (k : Int) < (xs.length : Int) := by omega
        have hwk : IntKind.i64.wrap ((k : Int) + 1) = (k : Int) + 1 := by rw [IntKind.wrap_i64]; omega
        have hx := HW.out _ (List.getElem_mem hlt)
        generalize xs[k] = x at *
        obtain ⟨xk, xi, xt⟩ := x
        obtain ⟨x1, x2, x3⟩ := hx
        simp only at d0 d1 d2 x1
        have x5 := wf_u8 x1
        obtain ⟨kd, rfl⟩ : ∃ n : Nat, xk = (n : Int) := ⟨xk.toNat, by omega⟩
        have hmod : (kd : Int).tmod 6 = ((kd % 6 : Nat) : Int) := by rw [show (6 : Int) = ((6 : Nat) : Int) by rfl, Int.ofNat_tmod]
        clear x1 x2 x3
        go_upto_block 2 with fail
        have HX : Hid (Hp w (wr.alloc (.cells #[.int .u8 kd, .int .i64 xi, .int .i64 xt] 40)) [Slp b (srt R), Rl rb R, Book kb N, Blk wr.heap.size (.cells #[.int .u8 kd, .int .i64 xi, .int .i64 xt] 40 (0, 0))]) := Lib.hid ((blk_new hH.out _).perm (List.perm_append_comm (l₁ := [_]) (l₂ := [_, _, _])))
        clear hH d0 d1 d2
        generalize (wr.alloc (.cells #[.int .u8 kd, .int .i64 xi, .int .i64 xt] 40)) = w2 at *
        generalize wr.heap.size = xb at *
        have hz : (kd : Int) % 6 = 0 ∨ (kd : Int) % 6 = 1 ∨ (kd : Int) % 6 = 2 ∨ (kd : Int) % 6 = 3 ∨ (kd : Int) % 6 = 4 ∨ (kd : Int) % 6 = 5 := by omega
        generalize (kd : Int) % 6 = z at *
        generalize (kd : Int) = kd at *
        go_cut [12] from 23 to 104 (fun _ wx => ∃ R' N', Rok R' ∧ R'.length ≤ k + 1 ∧ N' ≤ 2 * k + 1 ∧ Hid (Hp w wx [Slp b (srt R'), Rl rb R', Book kb N']))
        case first =>
          have hput : z = 0 ∨ z = 1 → Hid (z = 0 ∨ z = 1) := Lib.hid
          obtain ⟨k1, k2⟩ := xb_cells (HX.out.pull 3 rfl)
          by_cases h01 : z = 0 ∨ z = 1
          · have hR' := pnext_ok hR xi xt
            have hl' := pnext_len R xi xt
            have CP : Hid (∀ W r, Hp w W (Slp b (srt R) :: r) → Calls Tryd.prog 5 #[.pointer (some ⟨b, 0, none⟩), .int .i64 xi, .int .i64 xt] W fun e w' => e = .returned (.int .i64 (pcode R xi xt)) ∧ Hp w w' (Slp b (srt (pnext R xi xt)) :: r)) := Lib.hid (fun W r H => put_z xi xt H hR (by omega))
            have RP : Hid (∀ W r, Hp w W (Rl rb R :: r) → Calls Tryd.prog 6 #[.pointer (some ⟨rb, 0, none⟩), .int .i64 xi, .int .i64 xt] W fun e w' => e = .returned (.int .i64 (pcode R xi xt)) ∧ Hp w w' (Rl rb (pnext R xi xt) :: r)) := Lib.hid (fun W r H => rput_z xi xt H hR (by omega))
            generalize pnext R xi xt = R' at *
            generalize pcode R xi xt = pz at *
            clear hz hput
            rcases h01 with rfl | rfl
            all_goals
              go_wp2
              go_region_held3 (fun x => x.cell? ⟨xb, 1, none⟩ = some (.int .i64 xi) ∧ x.cell? ⟨xb, 2, none⟩ = some (.int .i64 xt)) (first | exact ⟨k1, k2⟩) (first | (go_at_call 5; (first | refine Calls.mono (CP.out _ _ HM.up1) ?_ | refine Calls.mono (CP.out _ _ HX.out.drew) ?_ | refine Calls.mono (CP.out _ _ HX.out) ?_); rintro e wa ⟨rfl, HA⟩; obtain ⟨k1, k2⟩ := xb_cells (HA.pull 3 rfl)) | (go_at_call 6; (first | refine Calls.mono (RP.out _ _ HA.up1) ?_ | refine Calls.mono (RP.out _ _ HX.out.up1.drew) ?_ | refine Calls.mono (RP.out _ _ HX.out.up1) ?_); rintro e wm ⟨rfl, HM⟩; obtain ⟨k1, k2⟩ := xb_cells (HM.pull 3 rfl)))
              all_goals go_wp2
              all_goals go_meet
              all_goals exact ⟨R', N, hR', by omega, by omega, Lib.hid (by first | exact four_three HA | exact four_three HM.up1)⟩
          · clear hput
            rcases hz with rfl | rfl | rfl | rfl | hz
            · exact absurd (Or.inl rfl) h01
            · exact absurd (Or.inr rfl) h01
            · have hR' := rok_but hR xi
              have hl' := but_len R xi
              have CP : Hid (∀ W r, Hp w W (Slp b (srt R) :: r) → Calls Tryd.prog 7 #[.pointer (some ⟨b, 0, none⟩), .int .i64 xi] W fun e w' => e = .returned (.int .i64 (rcode R xi)) ∧ Hp w w' (Slp b (srt (but R xi)) :: r)) := Lib.hid (fun W r H => remove_z xi H hR (by omega))
              have RP : Hid (∀ W r, Hp w W (Rl rb R :: r) → Calls Tryd.prog 8 #[.pointer (some ⟨rb, 0, none⟩), .int .i64 xi] W fun e w' => e = .returned (.int .i64 (rcode R xi)) ∧ Hp w w' (Rl rb (but R xi) :: r)) := Lib.hid (fun W r H => rremove_z xi H hR (by omega))
              generalize but R xi = R' at *
              generalize rcode R xi = pz at *
              clear h01
              go_wp2
              go_region_held3 (fun x => x.cell? ⟨xb, 1, none⟩ = some (.int .i64 xi) ∧ x.cell? ⟨xb, 2, none⟩ = some (.int .i64 xt)) (first | exact ⟨k1, k2⟩) (first | (go_at_call 7; (first | refine Calls.mono (CP.out _ _ HM.up1) ?_ | refine Calls.mono (CP.out _ _ HX.out.drew) ?_ | refine Calls.mono (CP.out _ _ HX.out) ?_); rintro e wa ⟨rfl, HA⟩; obtain ⟨k1, k2⟩ := xb_cells (HA.pull 3 rfl)) | (go_at_call 8; (first | refine Calls.mono (RP.out _ _ HA.up1) ?_ | refine Calls.mono (RP.out _ _ HX.out.up1.drew) ?_ | refine Calls.mono (RP.out _ _ HX.out.up1) ?_); rintro e wm ⟨rfl, HM⟩; obtain ⟨k1, k2⟩ := xb_cells (HM.pull 3 rfl)))
              all_goals go_wp2
              all_goals go_meet
              all_goals exact ⟨R', N, hR', by omega, by omega, Lib.hid (by first | exact four_three HA | exact four_three HM.up1)⟩
            · clear h01
              go_wp2_with fail
              refine (left_z xi HX.out hR (by omega)).mono ?_; rintro e wa ⟨rfl, HA⟩
              obtain ⟨k1, k2⟩ := xb_cells (HA.pull 3 rfl)
              have RP := Lib.hid (rleft_z xi HA.up1 (by omega))
              generalize (lf R xi).1 = l1 at *
              generalize (lf R xi).2 = l2 at *
              go_wp2_with fail
              refine RP.out.mono ?_; rintro e wm ⟨rfl, rfl⟩
              go_wp2
              go_meet
              exact ⟨R, N, hR, by omega, by omega, Lib.hid (four_three HA)⟩
            · have z0 : (z == 0) = false := by simp; omega
              have z1 : (z == 1) = false := by simp; omega
              have z2 : (z == 2) = false := by simp; omega
              have z3 : (z == 3) = false := by simp; omega
              clear h01 hz
              go_wp2_with fail
              refine (tick_z HX.out hR (by omega)).mono ?_; rintro e wa ⟨v1, rfl, HA⟩
              obtain ⟨a1, c1', rfl⟩ := own_slice HA
              have hR' := rok_less hR
              have hl' := less_len R
              have hwl := wake_len' hl (by omega)
              have RP := Lib.hid (rtick_z (HA.pull 2 rfl) hR (by omega))
              generalize less R = R' at *
              generalize wake R = W at *
              clear HA
              go_wp2_with fail
              refine RP.out.mono ?_; rintro e wm ⟨v2, rfl, HM⟩
              obtain ⟨a2, c2', rfl⟩ := own_slice HM
              have SP := Lib.hid (same_oo (HM.pull 2 rfl) hwl)
              clear HM RP
              go_wp2_with fail
              refine SP.out.mono ?_; rintro e ws ⟨rfl, HS⟩
              have BP := Lib.hid (ints_b ((HS.pull 4 rfl).up1) (by omega) hwl)
              clear HS SP
              go_wp2_with fail
              refine BP.out.mono ?_; rintro e wb ⟨rfl, HBk⟩
              go_wp2
              go_meet
              exact ⟨R', N + 1, hR', by omega, by omega, Lib.hid ((((HBk.pull 3 rfl).pull 3 rfl).up1).take 3)⟩
        case rest =>
          clear HX
          obtain ⟨R', N', hR', hl', hN', HX⟩ := hcut
          have hql := qs_len' hl' (by omega)
          go_wp2_with fail
          refine (all_z HX.out (by omega)).mono ?_; rintro e wa ⟨v1, rfl, HA⟩
          obtain ⟨a1, c1', rfl⟩ := own_slice HA
          have RP := Lib.hid (rall_z (HA.pull 2 rfl) hR' (by omega))
          clear HA
          have HQ := Lib.hid hql
          clear hql
          generalize Qs R' = W at *
          go_wp2_with fail
          refine RP.out.mono ?_; rintro e wm ⟨v2, rfl, HM⟩
          obtain ⟨a2, c2', rfl⟩ := own_slice HM
          have SP := Lib.hid (same_oo (HM.pull 2 rfl) HQ.out)
          clear HM RP
          go_wp2_with fail
          refine SP.out.mono ?_; rintro e ws ⟨rfl, HS⟩
          have BP := Lib.hid (ints_b ((HS.pull 4 rfl).up1) (by omega) HQ.out)
          clear HS SP
          go_wp2_with fail
          refine BP.out.mono ?_; rintro e wb ⟨rfl, HBk⟩
          have H9 : Hid (Hp w wb [Slp b (srt R'), Rl rb R', Book kb (N' + 1)]) := Lib.hid ((((HBk.pull 3 rfl).pull 3 rfl).up1).take 3)
          clear HBk BP
          go_wp2
          go_roundw
          case rel => first | exact ⟨k + 1, by omega, by go_num, R', N' + 1, hR', by omega, by omega, H9⟩ | ((repeat apply Exists.intro); exact ⟨⟨k + 1, by omega, by go_num, R', N' + 1, hR', by omega, by omega, H9⟩, rfl⟩)
          case measure => simp [intOf]; omega
      · have hke : k = xs.length := by omega
        have c1 : ¬ (k : Int) < (xs.length : Int) := by omega
        go_wp2_with fail
        refine (apart_b ((hH.out.perm (List.reverse_perm _).symm)) (by omega)).mono ?_; rintro e w9 ⟨rfl, hb9⟩
        go_wp2
        go_ret
        exact ⟨rfl, hb9⟩
end Go.Proofs.YtgcakjcljfhmpaaDoor
