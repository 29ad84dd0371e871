/- TimersPlay of timekeeperlaw19: the walk. -/
import Derived.Test.YtllfkgdmneabiaaDoorTrx
import Derived.Test.YtllfkgdmneabiaaDoorTmh
import Derived.Test.YtllfkgdmneabiaaDoorTac
import Derived.Test.YtllfkgdmneabiaaDoorTlv
import Derived.Test.YtllfkgdmneabiaaDoorBok
import Derived.Test.YtllfkgdmneabiaaDoorWf
import Derived.Deep.CutRange
import Derived.Deep.CutBlock
import Derived.Deep.RegionWith
import Derived.Deep.RegionHeld3
import Derived.BigQuiet
set_option linter.unusedVariables false
set_option linter.unusedSimpArgs false
namespace Go.Proofs.YtllfkgdmneabiaaDoor
open Go.RowKit Go.Shelf Go.Maps
attribute [local go_sem] Oper.semAt_some

/-- The program's alarms. -/
def Pa (b M : Nat) (A : List Tr) : Thing := Ex (fun x : Nat × Nat × Nat => x.2.2 ≤ M) fun x => Alls [Als b x.1 x.2.1, Slp x.1 (srt (pr A)), Mp x.2.1 x.2.2 (fe A)]
theorem Pa.un {w0 w : World} {r : List Thing} {b M : Nat} {A : List Tr} (h : Hp w0 w (Pa b M A :: r)) : ∃ lb mb m, m ≤ M ∧ Hp w0 w (Als b lb mb :: Slp lb (srt (pr A)) :: Mp mb m (fe A) :: r) := by
  obtain ⟨⟨lb, mb, m⟩, h1, h2⟩ := h.ex
  exact ⟨lb, mb, m, h1, h2.unAlls⟩
theorem Pa.mk' {w0 w : World} {r : List Thing} {b lb mb m M : Nat} {A : List Tr} (hm : m ≤ M) (h : Hp w0 w (Als b lb mb :: Slp lb (srt (pr A)) :: Mp mb m (fe A) :: r)) : Hp w0 w (Pa b M A :: r) := Hp.mkEx (lb, mb, m) hm (Hp.alls h)
theorem srt_pr_len (A : List Tr) : (srt (pr A)).length = A.length := by rw [srt_len, pr_len]
theorem in_srt {A : List Tr} {x : Int} : x ∈ (srt (pr A)).map Prod.fst ↔ x ∈ A.map Prod.fst := by rw [srt_fst, pr_fst]

def scode (id n e : Int) : Int := if id < 0 then 1 else if n < 1 ∨ 1073741824 < n ∨ e < 0 ∨ 1073741824 < e then 4 else 0
def snext (A : List Tr) (id n e : Int) : List Tr := if id < 0 then A else if n < 1 ∨ 1073741824 < n ∨ e < 0 ∨ 1073741824 < e then A else startA A id n e
theorem ra_snext {A : List Tr} (h : Ra A) (id n e : Int) (hw : (Lit.int .i64 id).wf = true) : Ra (snext A id n e) := by
  unfold snext
  by_cases h1 : id < 0
  · rw [if_pos h1]; exact h
  · rw [if_neg h1]
    by_cases h2 : n < 1 ∨ 1073741824 < n ∨ e < 0 ∨ 1073741824 < e
    · rw [if_pos h2]; exact h
    · rw [if_neg h2]; exact ra_start h ⟨by omega, hw⟩ (by omega) (by omega) (by omega) (by omega)
theorem snext_len (A : List Tr) (id n e : Int) : (snext A id n e).length ≤ A.length + 1 := by
  have := outA_len A id
  unfold snext
  split
  · omega
  · split
    · omega
    · unfold startA; rw [List.length_append, List.length_singleton]; omega
theorem pstart {w0 w : World} {r : List Thing} {b M : Nat} {A : List Tr} (id n e : Int) (h : Hp w0 w (Pa b M A :: r)) (hA : Ra A) (hl : A.length < 9000) (hM : M < 9000) (hw : (Lit.int .i64 id).wf = true) :
    Calls Tryd.prog 7 #[.pointer (some ⟨b, 0, none⟩), .int .i64 id, .int .i64 n, .int .i64 e] w fun x w' => x = .returned (.int .i64 (scode id n e)) ∧ Hp w0 w' (Pa b (M + 1) (snext A id n e) :: r) := by
  obtain ⟨lb, mb, m, hm, H⟩ := Pa.un h
  unfold scode snext
  by_cases h1 : id < 0
  · rw [if_pos h1, if_pos h1]
    refine (start_arg id n e H h1).mono ?_
    rintro x w' ⟨rfl, H'⟩; exact ⟨rfl, Pa.mk' (by omega) H'⟩
  · rw [if_neg h1, if_neg h1]
    by_cases h2 : n < 1 ∨ 1073741824 < n ∨ e < 0 ∨ 1073741824 < e
    · rw [if_pos h2, if_pos h2]
      refine (start_range id n e H (by omega) h2).mono ?_
      rintro x w' ⟨rfl, H'⟩; exact ⟨rfl, Pa.mk' (by omega) H'⟩
    · rw [if_neg h2, if_neg h2]
      refine (start_ok id n e H (al_of hA) (by rw [srt_pr_len]; omega) (by omega) (by omega) hw (by omega) (by omega) (by omega) (by omega)).mono ?_
      rintro x w' ⟨rfl, H'⟩
      rw [← srt_start, ← fe_start (n := n) hA ⟨by omega, hw⟩ (by omega) (by omega) (by omega) (by omega)] at H'
      exact ⟨rfl, Pa.mk' (by omega) H'⟩
theorem astart {w0 w : World} {r : List Thing} {ab : Nat} {A : List Tr} (id n e : Int) (h : Hp w0 w (Ar ab A :: r)) (hl : A.length < 9000) :
    Calls Tryd.prog 8 #[.pointer (some ⟨ab, 0, none⟩), .int .i64 id, .int .i64 n, .int .i64 e] w fun x w' => x = .returned (.int .i64 (scode id n e)) ∧ Hp w0 w' (Ar ab (snext A id n e) :: r) := by
  unfold scode snext
  by_cases h1 : id < 0
  · rw [if_pos h1, if_pos h1]; exact astart_arg id n e h h1
  · rw [if_neg h1, if_neg h1]
    by_cases h2 : n < 1 ∨ 1073741824 < n ∨ e < 0 ∨ 1073741824 < e
    · rw [if_pos h2, if_pos h2]; exact astart_range id n e h (by omega) h2
    · rw [if_neg h2, if_neg h2]; exact astart_ok id n e h (by omega) (by omega) (by omega) (by omega) (by omega) (by omega)
def tcode (A : List Tr) (id : Int) : Int := if id ∈ A.map Prod.fst then 0 else 7
theorem outA_none {A : List Tr} {id : Int} (h : id ∉ A.map Prod.fst) : outA A id = A :=
  List.filter_eq_self.2 (fun y hy => by
    have : y.1 ≠ id := fun e => h (List.mem_map.2 ⟨y, hy, e⟩)
    simpa using this)
theorem pstop {w0 w : World} {r : List Thing} {b M : Nat} {A : List Tr} (id : Int) (h : Hp w0 w (Pa b M A :: r)) (hA : Ra A) (hl : A.length < 9000) (hw : (Lit.int .i64 id).wf = true) :
    Calls Tryd.prog 9 #[.pointer (some ⟨b, 0, none⟩), .int .i64 id] w fun x w' => x = .returned (.int .i64 (tcode A id)) ∧ Hp w0 w' (Pa b M (outA A id) :: r) := by
  obtain ⟨lb, mb, m, hm, H⟩ := Pa.un h
  unfold tcode
  by_cases h1 : id ∈ A.map Prod.fst
  · rw [if_pos h1]
    refine (stop_ok id H (al_of hA) (by rw [srt_pr_len]; omega) hw (in_srt.2 h1)).mono ?_
    rintro x w' ⟨rfl, H'⟩
    rw [srt_but, ← pr_out, ← fe_outA hA] at H'
    exact ⟨rfl, Pa.mk' hm H'⟩
  · rw [if_neg h1, outA_none h1]
    refine (stop_state id H (by rw [srt_pr_len]; omega) (fun h => h1 (in_srt.1 h))).mono ?_
    rintro x w' ⟨rfl, H'⟩; exact ⟨rfl, Pa.mk' hm H'⟩
theorem lf_pr_in {A : List Tr} (hA : Ra A) {id : Int} (h : id ∈ A.map Prod.fst) : (lf (pr A) id).1 ≠ 0 := by
  obtain ⟨y, hy, rfl⟩ := List.mem_map.1 h
  rw [← rlf (ra_rok hA), lf_in (ok_srt (ra_rok hA)) (srt_mem.2 (List.mem_map.2 ⟨y, hy, rfl⟩))]
  have := hA.lf y hy
  simp only; omega
theorem astop {w0 w : World} {r : List Thing} {ab : Nat} {A : List Tr} (id : Int) (h : Hp w0 w (Ar ab A :: r)) (hA : Ra A) (hl : A.length < 9000) :
    Calls Tryd.prog 10 #[.pointer (some ⟨ab, 0, none⟩), .int .i64 id] w fun x w' => x = .returned (.int .i64 (tcode A id)) ∧ Hp w0 w' (Ar ab (outA A id) :: r) := by
  unfold tcode
  by_cases h1 : id ∈ A.map Prod.fst
  · rw [if_pos h1]; exact astop_ok id h (by omega) (lf_pr_in hA h1)
  · rw [if_neg h1, outA_none h1]; exact astop_state id h (by omega) (by rw [lf_out]; rw [pr_fst]; exact h1)
theorem pleft {w0 w : World} {r : List Thing} {b M : Nat} {A : List Tr} (id : Int) (h : Hp w0 w (Pa b M A :: r)) (hA : Ra A) (hl : A.length < 9000) :
    Calls Tryd.prog 15 #[.pointer (some ⟨b, 0, none⟩), .int .i64 id] w fun x w' => x = .returned (.int .i64 (lf (pr A) id).1) ∧ Hp w0 w' (Pa b M A :: r) := by
  obtain ⟨lb, mb, m, hm, H⟩ := Pa.un h
  refine (left_al id H (ok_srt (ra_rok hA)) (by rw [srt_pr_len]; omega)).mono ?_
  rintro x w' ⟨rfl, H'⟩
  exact ⟨by rw [rlf (ra_rok hA)], Pa.mk' hm H'⟩
theorem ptick {w0 w : World} {r : List Thing} {b M : Nat} {A : List Tr} (h : Hp w0 w (Pa b M A :: r)) (hA : Ra A) (hl : A.length < 8999) :
    Calls Tryd.prog 11 #[.pointer (some ⟨b, 0, none⟩)] w fun x w' => ∃ v, x = .returned v ∧ Hp w0 w' (OwnI v (wakeA A) :: Pa b M (tickA A) :: r) := by
  obtain ⟨lb, mb, m, hm, H⟩ := Pa.un h
  refine (tick_ol H (al_of hA) (by rw [srt_pr_len]; omega)).mono ?_
  rintro x w' ⟨v, rfl, H'⟩
  rw [srt_wake, wake_pr, tick_tr hA, ← fe_tick hA] at H'
  exact ⟨v, rfl, (Pa.mk' hm (H'.pull 3 rfl |>.pull 3 rfl |>.pull 3 rfl)).up1⟩
theorem same_oo {w0 w : World} {r : List Thing} {u v : Value} {us : List Int} (h : Hp w0 w (OwnI u us :: OwnI v us :: r)) (hu : us.length < 100000) :
    Calls Tryd.prog 12 #[u, v] w fun e w' => e = .returned (.bool true) ∧ Hp w0 w' (OwnI u us :: OwnI v us :: r) := by
  refine (same_o h hu hu).mono ?_
  rintro e w' ⟨rfl, h'⟩
  exact ⟨by simp, h'⟩
abbrev Xb (xb : Nat) (k i n e : Int) : Thing := Blk xb (.cells #[.int .u8 k, .int .i64 i, .int .i64 n, .int .i64 e] 39 (0, 0))
theorem xb_cells {w0 w : World} {r : List Thing} {xb : Nat} {k i n e : Int} (h : Hp w0 w (Xb xb k i n e :: r)) : w.cell? ⟨xb, 1, none⟩ = some (.int .i64 i) ∧ w.cell? ⟨xb, 2, none⟩ = some (.int .i64 n) ∧ w.cell? ⟨xb, 3, none⟩ = some (.int .i64 e) :=
  ⟨by rw [cell_blk (blk_get h)]; rfl, by rw [cell_blk (blk_get h)]; rfl, by rw [cell_blk (blk_get h)]; rfl⟩

set_option maxHeartbeats 8000000 in
set_option maxRecDepth 20000 in
theorem play_c (a : Option Addr) (c : Nat) (xs : List Ac) (w : World) (hb : ActsIn w a xs) (hwf : ∀ z ∈ xs, AcWf z) :
    Calls Tryd.prog 3 #[.slice a xs.length c] w fun e w' => e = .returned (.bool true) ∧ Below w.heap.size w w' := by
  have HB := Lib.hid hb
  have HW := Lib.hid hwf
  clear hb hwf
  go_enter Tryd.func3, Tryd.ntmps3
  by_cases hn : 300 < (xs.length : Int)
  · go_wp2_with fail
    refine (lives_c _).mono ?_; rintro e w1 ⟨rfl, hb1⟩
    go_wp2
    go_ret
    exact ⟨rfl, hb1⟩
  · go_wp2_with fail
    refine (new_al (Hp.start w)).mono ?_; rintro e w1 ⟨b, lb, mb, rfl, H1⟩
    have HP := Lib.hid (Pa.mk' (A := []) (M := 0) (Nat.le_refl _) H1)
    clear H1
    go_wp2_with fail
    refine (anew_c HP.out).mono ?_; rintro e w2 ⟨ab, rfl, H2⟩
    have HH : Hid (Hp w (w2.alloc (.cells #[.int .i64 0, .slice none 0 0, .slice none 0 0, .slice none 0 0, .slice none 0 0, .slice none 0 0, .slice none 0 0, .slice none 0 0, .slice none 0 0] 37)) [Pa b 0 [], Ar ab [], Book w2.heap.size 0]) := Lib.hid ((book_new H2).perm (List.reverse_perm _).symm)
    clear H2 HP
    go_upto_region 6 with fail
    generalize (w2.alloc (.cells #[.int .i64 0, .slice none 0 0, .slice none 0 0, .slice none 0 0, .slice none 0 0, .slice none 0 0, .slice none 0 0, .slice none 0 0, .slice none 0 0] 37)) = w3 at *
    generalize w2.heap.size = kb at *
    go_wp2
    go_loopw [6] (fun i wr => ∃ k : Nat, k ≤ xs.length ∧ i = .int .i64 k ∧ ∃ A N M, Ra A ∧ A.length ≤ k ∧ N ≤ k ∧ M ≤ k ∧ Hid (Hp w wr [Pa b M A, Ar ab A, Book kb N])) (fun i _ => xs.length - (intOf i).toNat)
    case atStart => exact ⟨0, Nat.zero_le _, rfl, [], 0, 0, ⟨by simp, by simp, by simp, by simp⟩, by simp, by omega, by omega, HH⟩
    case round =>
      obtain ⟨k, hk, rfl, A, N, M, hA, hl, hN, hM, hH⟩ := hrel
      clear HH
      by_cases hlt : k < xs.length
      · obtain ⟨g, off, rfl, d0, d1, d2, d3⟩ := acts_cell hH.out HB.out k hlt
        have c1 : (k : Int) < (xs.length : Int) := by omega
        have hwk : IntKind.i64.wrap ((k : Int) + 1) = (k : Int) + 1 := by rw [IntKind.wrap_i64]; omega
        have hx := HW.out _ (List.getElem_mem hlt)
        generalize xs[k] = x at *
        obtain ⟨xk, xi, xn, xe⟩ := x
        obtain ⟨x1, x2, x3, x4⟩ := hx
        simp only at d0 d1 d2 d3 x1 x2
        have X2 := Lib.hid x2
        have x5 := wf_u8 x1
        obtain ⟨kd, rfl⟩ : ∃ n : Nat, xk = (n : Int) := ⟨xk.toNat, by omega⟩
        have hmod : (kd : Int).tmod 6 = ((kd % 6 : Nat) : Int) := by rw [show (6 : Int) = ((6 : Nat) : Int) by rfl, Int.ofNat_tmod]
        clear x1 x2 x3 x4
        go_upto_block 2 with fail
        have HX : Hid (Hp w (wr.alloc (.cells #[.int .u8 kd, .int .i64 xi, .int .i64 xn, .int .i64 xe] 39)) [Pa b M A, Ar ab A, Xb wr.heap.size kd xi xn xe, Book kb N]) := Lib.hid (((blk_new hH.out _).perm (List.perm_append_comm (l₁ := [_]) (l₂ := [_, _, _]))).perm (List.Perm.cons _ (List.Perm.cons _ (List.Perm.swap _ _ _))))
        clear hH d0 d1 d2 d3
        generalize (wr.alloc (.cells #[.int .u8 kd, .int .i64 xi, .int .i64 xn, .int .i64 xe] 39)) = w2 at *
        generalize wr.heap.size = xb at *
        have hz : (kd : Int) % 6 = 0 ∨ (kd : Int) % 6 = 1 ∨ (kd : Int) % 6 = 2 ∨ (kd : Int) % 6 = 3 ∨ (kd : Int) % 6 = 4 ∨ (kd : Int) % 6 = 5 := by omega
        generalize (kd : Int) % 6 = z at *
        generalize (kd : Int) = kd at *
        go_cut [8] from 15 to 76 (fun _ wx => ∃ A' N' M', Ra A' ∧ A'.length ≤ k + 1 ∧ N' ≤ k + 1 ∧ M' ≤ k + 1 ∧ Hid (Hp w wx [Pa b M' A', Ar ab A', Xb xb kd xi xn xe, Book kb N']))
        case first =>
          obtain ⟨k1, k2, k3⟩ := xb_cells (HX.out.pull 2 rfl)
          by_cases h01 : z = 0 ∨ z = 1
          · have hA' := ra_snext hA xi xn xe X2.out
            have hl' := snext_len A xi xn xe
            have CP : Hid (∀ W r, Hp w W (Pa b M A :: r) → Calls Tryd.prog 7 #[.pointer (some ⟨b, 0, none⟩), .int .i64 xi, .int .i64 xn, .int .i64 xe] W fun e w' => e = .returned (.int .i64 (scode xi xn xe)) ∧ Hp w w' (Pa b (M + 1) (snext A xi xn xe) :: r)) := Lib.hid (fun W r H => pstart xi xn xe H hA (by omega) (by omega) X2.out)
            have RP : Hid (∀ W r, Hp w W (Ar ab A :: r) → Calls Tryd.prog 8 #[.pointer (some ⟨ab, 0, none⟩), .int .i64 xi, .int .i64 xn, .int .i64 xe] W fun e w' => e = .returned (.int .i64 (scode xi xn xe)) ∧ Hp w w' (Ar ab (snext A xi xn xe) :: r)) := Lib.hid (fun W r H => astart xi xn xe H (by omega))
            generalize snext A xi xn xe = A' at *
            generalize scode xi xn xe = pz at *
            clear hz
            rcases h01 with rfl | rfl
            all_goals
              go_wp2
              go_region_held3 (fun x => x.cell? ⟨xb, 1, none⟩ = some (.int .i64 xi) ∧ x.cell? ⟨xb, 2, none⟩ = some (.int .i64 xn) ∧ x.cell? ⟨xb, 3, none⟩ = some (.int .i64 xe)) (first | exact ⟨k1, k2, k3⟩) (first | (go_at_call 7; (first | refine Calls.mono (CP.out _ _ HM.up1) ?_ | refine Calls.mono (CP.out _ _ HX.out.drew) ?_ | refine Calls.mono (CP.out _ _ HX.out) ?_); rintro e wa ⟨rfl, HA⟩; obtain ⟨k1, k2, k3⟩ := xb_cells (HA.pull 2 rfl)) | (go_at_call 8; (first | refine Calls.mono (RP.out _ _ HA.up1) ?_ | refine Calls.mono (RP.out _ _ HX.out.up1.drew) ?_ | refine Calls.mono (RP.out _ _ HX.out.up1) ?_); rintro e wm ⟨rfl, HM⟩; obtain ⟨k1, k2, k3⟩ := xb_cells (HM.pull 2 rfl)))
              all_goals go_wp2
              all_goals go_meet
              all_goals exact ⟨A', N, M + 1, hA', by omega, by omega, by omega, Lib.hid (by first | exact HA | exact HM.up1)⟩
          · rcases hz with rfl | rfl | rfl | hz
            · exact absurd (Or.inl rfl) h01
            · exact absurd (Or.inr rfl) h01
            · have hA' := ra_out hA xi
              have hl' := outA_len A xi
              have CP : Hid (∀ W r, Hp w W (Pa b M A :: r) → Calls Tryd.prog 9 #[.pointer (some ⟨b, 0, none⟩), .int .i64 xi] W fun e w' => e = .returned (.int .i64 (tcode A xi)) ∧ Hp w w' (Pa b M (outA A xi) :: r)) := Lib.hid (fun W r H => pstop xi H hA (by omega) X2.out)
              have RP : Hid (∀ W r, Hp w W (Ar ab A :: r) → Calls Tryd.prog 10 #[.pointer (some ⟨ab, 0, none⟩), .int .i64 xi] W fun e w' => e = .returned (.int .i64 (tcode A xi)) ∧ Hp w w' (Ar ab (outA A xi) :: r)) := Lib.hid (fun W r H => astop xi H hA (by omega))
              generalize outA A xi = A' at *
              generalize tcode A xi = pz at *
              clear h01
              go_wp2
              go_region_held3 (fun x => x.cell? ⟨xb, 1, none⟩ = some (.int .i64 xi) ∧ x.cell? ⟨xb, 2, none⟩ = some (.int .i64 xn) ∧ x.cell? ⟨xb, 3, none⟩ = some (.int .i64 xe)) (first | exact ⟨k1, k2, k3⟩) (first | (go_at_call 9; (first | refine Calls.mono (CP.out _ _ HM.up1) ?_ | refine Calls.mono (CP.out _ _ HX.out.drew) ?_ | refine Calls.mono (CP.out _ _ HX.out) ?_); rintro e wa ⟨rfl, HA⟩; obtain ⟨k1, k2, k3⟩ := xb_cells (HA.pull 2 rfl)) | (go_at_call 10; (first | refine Calls.mono (RP.out _ _ HA.up1) ?_ | refine Calls.mono (RP.out _ _ HX.out.up1.drew) ?_ | refine Calls.mono (RP.out _ _ HX.out.up1) ?_); rintro e wm ⟨rfl, HM⟩; obtain ⟨k1, k2, k3⟩ := xb_cells (HM.pull 2 rfl)))
              all_goals go_wp2
              all_goals go_meet
              all_goals exact ⟨A', N, M, hA', by omega, by omega, by omega, Lib.hid (by first | exact HA | exact HM.up1)⟩
            · have z0 : (z == 0) = false := by simp; omega
              have z1 : (z == 1) = false := by simp; omega
              have z2 : (z == 2) = false := by simp; omega
              clear h01 hz
              go_wp2_with fail
              refine (ptick HX.out hA (by omega)).mono ?_; rintro e wa ⟨v1, rfl, HA⟩
              obtain ⟨a1, c1', rfl⟩ := own_slice HA
              have hA' := ra_tick hA
              have hl' := tickA_len A
              have hwl := wakeA_len A
              have RP := Lib.hid (atick_z (HA.pull 2 rfl) (by omega) hA)
              generalize tickA A = A' at *
              generalize wakeA A = W at *
              clear HA
              go_wp2_with fail
              refine RP.out.mono ?_; rintro e wm ⟨v2, rfl, HM⟩
              obtain ⟨a2, c2', rfl⟩ := own_slice HM
              have SP := Lib.hid (same_oo (HM.pull 2 rfl) (by omega))
              clear HM RP
              go_wp2_with fail
              refine SP.out.mono ?_; rintro e ws ⟨rfl, HS⟩
              have BP := Lib.hid (ints_b ((HS.pull 5 rfl).up1) (by omega) (by omega))
              clear HS SP
              go_wp2_with fail
              refine BP.out.mono ?_; rintro e wb ⟨rfl, HBk⟩
              go_wp2
              go_meet
              exact ⟨A', N + 1, M, hA', by omega, by omega, by omega, Lib.hid ((HBk.pull 1 rfl).tail.pull 3 rfl |>.pull 2 rfl |>.pull 3 rfl)⟩
        case rest =>
          clear HX hA hl hN hM
          obtain ⟨A', N', M', hA, hl, hN, hM, HX⟩ := hcut
          obtain ⟨k1, k2, k3⟩ := xb_cells (HX.out.pull 2 rfl)
          have CP : Hid (∀ W r, Hp w W (Pa b M' A' :: r) → Calls Tryd.prog 15 #[.pointer (some ⟨b, 0, none⟩), .int .i64 xi] W fun e w' => e = .returned (.int .i64 (lf (pr A') xi).1) ∧ Hp w w' (Pa b M' A' :: r)) := Lib.hid (fun W r H => pleft xi H hA (by omega))
          have RP : Hid (∀ W r, Hp w W (Ar ab A' :: r) → Calls Tryd.prog 16 #[.pointer (some ⟨ab, 0, none⟩), .int .i64 xi] W fun e w' => e = .returned (.int .i64 (lf (pr A') xi).1) ∧ Hp w w' (Ar ab A' :: r)) := Lib.hid (fun W r H => aleft_z xi H (by omega))
          generalize (lf (pr A') xi).1 = pz at *
          go_wp2
          go_region_held3 (fun x => x.cell? ⟨xb, 1, none⟩ = some (.int .i64 xi) ∧ x.cell? ⟨xb, 2, none⟩ = some (.int .i64 xn) ∧ x.cell? ⟨xb, 3, none⟩ = some (.int .i64 xe)) (first | exact ⟨k1, k2, k3⟩) (first | (go_at_call 15; (first | refine Calls.mono (CP.out _ _ HM.up1) ?_ | refine Calls.mono (CP.out _ _ HX.out.drew) ?_ | refine Calls.mono (CP.out _ _ HX.out) ?_); rintro e wa ⟨rfl, HA⟩; obtain ⟨k1, k2, k3⟩ := xb_cells (HA.pull 2 rfl)) | (go_at_call 16; (first | refine Calls.mono (RP.out _ _ HA.up1) ?_ | refine Calls.mono (RP.out _ _ HX.out.up1.drew) ?_ | refine Calls.mono (RP.out _ _ HX.out.up1) ?_); rintro e wm ⟨rfl, HM⟩; obtain ⟨k1, k2, k3⟩ := xb_cells (HM.pull 2 rfl)))
          all_goals
            (go_wp2
             go_roundw
             case rel => exact ⟨k + 1, by omega, by go_num, A', N', M', hA, by omega, by omega, by omega, Lib.hid (by first | exact (HA.pull 2 rfl).tail | exact (HM.up1.pull 2 rfl).tail)⟩
             case measure => simp [intOf]; omega)
      · have hke : k = xs.length := by omega
        have c1 : ¬ (k : Int) < (xs.length : Int) := by omega
        go_wp2_with fail
        refine (apart_b ((hH.out.perm (List.reverse_perm _).symm)) (by omega)).mono ?_; rintro e w9 ⟨rfl, hb9⟩
        go_wp2_with fail
        refine (lives_c _).mono ?_; rintro e w8 ⟨rfl, hb8⟩
        go_wp2
        go_ret
        exact ⟨rfl, hb9.trans (hb8.mono hb9.size)⟩
end Go.Proofs.YtllfkgdmneabiaaDoor
