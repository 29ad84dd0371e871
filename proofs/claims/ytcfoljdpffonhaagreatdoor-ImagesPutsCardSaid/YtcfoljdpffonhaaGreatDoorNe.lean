/- Images: ImagesPuts, walked. -/
import Derived.Test.YtcfoljdpffonhaaGreatDoorNc
import Derived.Test.YtcfoljdpffonhaaGreatDoorNd
import Derived.Test.YtcfoljdpffonhaaGreatDoorLq
import Derived.Outline
set_option linter.unusedVariables false
set_option linter.unusedSimpArgs false
namespace Go.Proofs.YtcfoljdpffonhaaGreatDoor
open Go.RowKit Go.Joins Go.Shelf
attribute [local go_sem] Oper.semAt_some

theorem CellsIn.pre {w : World} {a : Option Addr} {xs ys : List Value} (h : CellsIn w a (xs ++ ys)) : CellsIn w a xs := fun j hj => by
  obtain ⟨g, o, e, hc⟩ := h j (by rw [List.length_append]; omega)
  rw [List.getElem_append_left hj] at hc
  exact ⟨g, o, e, hc⟩
theorem grt_no {d : List UInt8} {c : List I4} (h : grt d c = false) : d.length ≤ 5000 ∧ c.length ≤ 1100 := by
  unfold grt at h
  simp at h
  exact h
theorem u_keep {w0 w : World} {r : List Thing} {v : Value} {bs : List UInt8} (H : Hp w0 w (OwnU v bs :: r)) : Hp w0 w (BkB.OwnX v bs.length :: r) := H.as fun S h => ⟨bs.map (fun x => (x.toNat : Int)), by simp, by
  have e : (bs.map (fun x => (x.toNat : Int))).map (Value.int .u8) = bs.map bv := by rw [List.map_map]; rfl
  show (Own 5 1 v (bs.map (fun x => (x.toNat : Int))).length ((bs.map (fun x => (x.toNat : Int))).map (Value.int .u8))).at_ w S
  rw [e, List.length_map]; exact h⟩
set_option maxHeartbeats 16000000 in
set_option maxRecDepth 20000 in
theorem puts_c (w : World) (n : Int) (ad ac : Option Addr) (dc cc : Nat) (d : List UInt8) (c : List I4) (hd : CellsIn w ad (d.map bv)) (hc : CellsIn w ac (ics c)) :
    Calls Tryz.prog 3 #[imV n ad d.length dc ac c.length cc] w fun e w' => e = .returned (.bool true) ∧ Below w.heap.size w w' := by
  have H1 := Lib.hid (blk_new (Hp.start w) (.cells #[.int .i64 n, .slice ad d.length dc, .slice ac c.length cc] 25))
  have HD := Lib.hid hd
  have HC := Lib.hid hc
  clear hd hc
  go_enter Tryz.func3, Tryz.ntmps3
  go_upto_region 1 with fail
  obtain ⟨x0, x1, x2⟩ := im_cells H1.out
  generalize (w.alloc (.cells #[.int .i64 n, .slice ad d.length dc, .slice ac c.length cc] 25)) = w1 at *
  generalize w.heap.size = xb at *
  have G1 := Lib.hid (great_c n ad ac dc cc d c w1)
  cases hg1 : grt d c with
  | true =>
    rw [hg1] at G1
    clear hg1
    go_wp2_with fail
    refine G1.out.mono ?_; rintro e2 w2 ⟨rfl, hb⟩
    have H2 := Lib.hid (H1.out.below_read hb)
    clear hb G1 H1 x0 x1 x2
    go_wp2
    go_ret
    exact ⟨rfl, H2.out.below⟩
  | false =>
    rw [hg1] at G1
    have HL := Lib.hid (grt_no hg1)
    clear hg1
    go_wp2_with fail
    refine G1.out.mono ?_; rintro e2 w2 ⟨rfl, hb⟩
    have H2 := Lib.hid (H1.out.below_read hb)
    clear hb G1 H1 x0 x1 x2
    obtain ⟨x0, x1, x2⟩ := im_cells H2.out
    have TI := Lib.hid (twin_image n ad ac dc cc d c w2 (HD.out.hp H2.out) (HC.out.hp H2.out) (by have := HL.out; omega) (by have := HL.out; omega))
    go_wp2_with fail
    refine TI.out.mono ?_; rintro e3 w3 ⟨g, p, g', p', rfl, K⟩
    have H3 := Lib.hid (blk_new (H2.out.lift K) (.cells #[.int .i64 n, .slice (some ⟨g, 0, none⟩) d.length p, .slice (some ⟨g', 0, none⟩) c.length p'] 25))
    clear TI K H2 x0 x1 x2
    go_upto_region 4 with fail
    generalize (w3.alloc (.cells #[.int .i64 n, .slice (some ⟨g, 0, none⟩) d.length p, .slice (some ⟨g', 0, none⟩) c.length p'] 25)) = w4 at *
    generalize w3.heap.size = tb at *
    have H4 : Hid (Hp w w4 [IM tb n (.slice (some ⟨g, 0, none⟩) d.length p) (.slice (some ⟨g', 0, none⟩) c.length p'), OwnTN g' p' c, OwnT g p d, IM xb n (.slice ad d.length dc) (.slice ac c.length cc)]) := H3
    clear H3
    obtain ⟨y0, y1, y2⟩ := im_cells H4.out
    cases hk : imck n d c with
    | true =>
      have HK := Lib.hid hk
      clear hk
      obtain ⟨N, rfl⟩ := Int.eq_ofNat_of_zero_le (imck_bounds HK.out).1
      have HBB : Hid ((imput N d c).length < 100000) := Lib.hid (imput_short HK.out)
      have P1 := Lib.hid (imput_c N (some ⟨g, 0, none⟩) (some ⟨g', 0, none⟩) p p' d c w4 (CellsIn.pre (CellsIn.own (H4.out.pull 2 rfl))) (CellsIn.pre (CellsIn.own (H4.out.pull 1 rfl))) HK.out)
      have P2 := Lib.hid (fun (W : World) (r : List Thing) (HW : Hp w W ([IM tb (N : Int) (.slice (some ⟨g, 0, none⟩) d.length p) (.slice (some ⟨g', 0, none⟩) c.length p'), OwnTN g' p' c, OwnT g p d, IM xb (N : Int) (.slice ad d.length dc) (.slice ac c.length cc)])) => imput_c N (some ⟨g, 0, none⟩) (some ⟨g', 0, none⟩) p p' d c W (CellsIn.pre (CellsIn.own (HW.pull 2 rfl))) (CellsIn.pre (CellsIn.own (HW.pull 1 rfl))) HK.out)
      have P3 := Lib.hid (fun (W : World) (r : List Thing) (HW : Hp w W r) => rimput_c N ad ac dc cc d c W (HD.out.hp HW) (HC.out.hp HW) HK.out)
      obtain ⟨bb, hbb⟩ : ∃ x, x = imput N d c := ⟨_, rfl⟩
      rw [← hbb] at P1 P2 P3 HBB
      clear hbb
      go_wp2_with fail
      refine P1.out.mono ?_; rintro e5 w5 ⟨va, rfl, K⟩
      have H5 := Lib.hid (H4.out.lift K)
      obtain ⟨aa, ca, rfl⟩ := own_slice K
      clear P1 K H4 y0 y1 y2
      obtain ⟨y0, y1, y2⟩ := im_cells (H5.out.pull 1 rfl)
      have H5p := Lib.hid (H5.out.tail)
      go_wp2_with fail
      refine (P2.out _ [] H5p.out).mono ?_; rintro e6 w6 ⟨vb, rfl, K⟩
      have H6 := Lib.hid (H5.out.lift K)
      obtain ⟨ab, cb, rfl⟩ := own_slice K
      clear P2 K H5 H5p y0 y1 y2
      obtain ⟨x0, x1, x2⟩ := im_cells (H6.out.pull 5 rfl)
      go_wp2_with fail
      refine (P3.out _ _ H6.out).mono ?_; rintro e7 w7 ⟨vw, rfl, K⟩
      have H7 := Lib.hid (H6.out.lift K)
      obtain ⟨aw, cw, rfl⟩ := own_slice K
      clear P3 K H6 x0 x1 x2
      have HKK : Hid (Hp w w7 [OwnU (.slice aw bb.length cw) bb, OwnU (.slice ab bb.length cb) bb, OwnU (.slice aa bb.length ca) bb, IM tb (N : Int) (.slice (some ⟨g, 0, none⟩) d.length p) (.slice (some ⟨g', 0, none⟩) c.length p'), OwnTN g' p' c, OwnT g p d, IM xb (N : Int) (.slice ad d.length dc) (.slice ac c.length cc)]) := H7
      clear H7
      have CT : Hid (∀ W, Hp w W [OwnU (.slice aw bb.length cw) bb, OwnU (.slice ab bb.length cb) bb, OwnU (.slice aa bb.length ca) bb, IM tb (N : Int) (.slice (some ⟨g, 0, none⟩) d.length p) (.slice (some ⟨g', 0, none⟩) c.length p'), OwnTN g' p' c, OwnT g p d, IM xb (N : Int) (.slice ad d.length dc) (.slice ac c.length cc)] → Calls Tryz.prog 11 #[imV N (some ⟨g, 0, none⟩) d.length p (some ⟨g', 0, none⟩) c.length p'] W fun e' w' => e' = .returned (.bool true) ∧ Hp w w' [OwnU (.slice aw bb.length cw) bb, OwnU (.slice ab bb.length cb) bb, OwnU (.slice aa bb.length ca) bb, IM tb (N : Int) (.slice (some ⟨g, 0, none⟩) d.length p) (.slice (some ⟨g', 0, none⟩) c.length p'), OwnTN g' p' c, OwnT g p d, IM xb (N : Int) (.slice ad d.length dc) (.slice ac c.length cc)]) := Lib.hid (fun W HW => (imcheck_c N (some ⟨g, 0, none⟩) (some ⟨g', 0, none⟩) p p' d c W (CellsIn.pre (CellsIn.own (HW.pull 4 rfl)))).mono (fun e' w' h => ⟨by rw [HK.out] at h; exact h.1, HW.below_read h.2⟩))
      have CM : Hid (∀ W, Hp w W [OwnU (.slice aw bb.length cw) bb, OwnU (.slice ab bb.length cb) bb, OwnU (.slice aa bb.length ca) bb, IM tb (N : Int) (.slice (some ⟨g, 0, none⟩) d.length p) (.slice (some ⟨g', 0, none⟩) c.length p'), OwnTN g' p' c, OwnT g p d, IM xb (N : Int) (.slice ad d.length dc) (.slice ac c.length cc)] → Calls Tryz.prog 12 #[imV N ad d.length dc ac c.length cc] W fun e' w' => e' = .returned (.bool true) ∧ Hp w w' [OwnU (.slice aw bb.length cw) bb, OwnU (.slice ab bb.length cb) bb, OwnU (.slice aa bb.length ca) bb, IM tb (N : Int) (.slice (some ⟨g, 0, none⟩) d.length p) (.slice (some ⟨g', 0, none⟩) c.length p'), OwnTN g' p' c, OwnT g p d, IM xb (N : Int) (.slice ad d.length dc) (.slice ac c.length cc)]) := Lib.hid (fun W HW => (rimck_c N ad ac dc cc d c W (HC.out.hp HW)).mono (fun e' w' h => ⟨by rw [HK.out] at h; exact h.1, HW.below_read h.2⟩))
      have SA : Hid (∀ W, Hp w W [OwnU (.slice aw bb.length cw) bb, OwnU (.slice ab bb.length cb) bb, OwnU (.slice aa bb.length ca) bb, IM tb (N : Int) (.slice (some ⟨g, 0, none⟩) d.length p) (.slice (some ⟨g', 0, none⟩) c.length p'), OwnTN g' p' c, OwnT g p d, IM xb (N : Int) (.slice ad d.length dc) (.slice ac c.length cc)] → Calls Tryz.prog 13 #[.slice aa bb.length ca, .slice aw bb.length cw] W fun e' w' => e' = .returned (.bool true) ∧ Hp w w' [OwnU (.slice aw bb.length cw) bb, OwnU (.slice ab bb.length cb) bb, OwnU (.slice aa bb.length ca) bb, IM tb (N : Int) (.slice (some ⟨g, 0, none⟩) d.length p) (.slice (some ⟨g', 0, none⟩) c.length p'), OwnTN g' p' c, OwnT g p d, IM xb (N : Int) (.slice ad d.length dc) (.slice ac c.length cc)]) := Lib.hid (fun W HW => (same_bytes aa aw ca cw bb bb W (CellsIn.own (HW.pull 2 rfl)) (CellsIn.own HW) (by have := HBB.out; first | omega | decide) (by have := HBB.out; first | omega | decide)).mono (fun e' w' h => ⟨h.1.trans (by simp), HW.below_read h.2⟩))
      have SB : Hid (∀ W, Hp w W [OwnU (.slice aw bb.length cw) bb, OwnU (.slice ab bb.length cb) bb, OwnU (.slice aa bb.length ca) bb, IM tb (N : Int) (.slice (some ⟨g, 0, none⟩) d.length p) (.slice (some ⟨g', 0, none⟩) c.length p'), OwnTN g' p' c, OwnT g p d, IM xb (N : Int) (.slice ad d.length dc) (.slice ac c.length cc)] → Calls Tryz.prog 13 #[.slice ab bb.length cb, .slice aw bb.length cw] W fun e' w' => e' = .returned (.bool true) ∧ Hp w w' [OwnU (.slice aw bb.length cw) bb, OwnU (.slice ab bb.length cb) bb, OwnU (.slice aa bb.length ca) bb, IM tb (N : Int) (.slice (some ⟨g, 0, none⟩) d.length p) (.slice (some ⟨g', 0, none⟩) c.length p'), OwnTN g' p' c, OwnT g p d, IM xb (N : Int) (.slice ad d.length dc) (.slice ac c.length cc)]) := Lib.hid (fun W HW => (same_bytes ab aw cb cw bb bb W (CellsIn.own (HW.pull 1 rfl)) (CellsIn.own HW) (by have := HBB.out; first | omega | decide) (by have := HBB.out; first | omega | decide)).mono (fun e' w' h => ⟨h.1.trans (by simp), HW.below_read h.2⟩))
      have LI : Hid (∀ W, Hp w W [OwnU (.slice aw bb.length cw) bb, OwnU (.slice ab bb.length cb) bb, OwnU (.slice aa bb.length ca) bb, IM tb (N : Int) (.slice (some ⟨g, 0, none⟩) d.length p) (.slice (some ⟨g', 0, none⟩) c.length p'), OwnTN g' p' c, OwnT g p d, IM xb (N : Int) (.slice ad d.length dc) (.slice ac c.length cc)] → Calls Tryz.prog 14 #[imV N (some ⟨g, 0, none⟩) d.length p (some ⟨g', 0, none⟩) c.length p', imV N ad d.length dc ac c.length cc] W fun e' w' => e' = .returned (.bool true) ∧ Hp w w' [OwnU (.slice aw bb.length cw) bb, OwnU (.slice ab bb.length cb) bb, OwnU (.slice aa bb.length ca) bb, IM tb (N : Int) (.slice (some ⟨g, 0, none⟩) d.length p) (.slice (some ⟨g', 0, none⟩) c.length p'), OwnTN g' p' c, OwnT g p d, IM xb (N : Int) (.slice ad d.length dc) (.slice ac c.length cc)]) := Lib.hid (fun W HW => (left_image N ad ac dc cc g p g' p' d c W (HD.out.hp HW) (HC.out.hp HW) (CellsIn.own (HW.pull 5 rfl)) (own_capn (HW.pull 5 rfl)) (CellsIn.own (HW.pull 4 rfl)) (own_capn (HW.pull 4 rfl)) (by have := HL.out; omega) (by have := HL.out; omega)).mono (fun e' w' h => ⟨h.1, HW.below_read h.2⟩))
      obtain ⟨x0, x1, x2⟩ := im_cells (HKK.out.pull 6 rfl)
      obtain ⟨y0, y1, y2⟩ := im_cells (HKK.out.pull 3 rfl)
      go_upto_region 7 with fail
      go_region_held3 (fun x => x.cell? ⟨xb, 0, none⟩ = some (.int .i64 (N : Int)) ∧ x.cell? ⟨xb, 1, none⟩ = some (.slice ad d.length dc) ∧ x.cell? ⟨xb, 2, none⟩ = some (.slice ac c.length cc) ∧ x.cell? ⟨tb, 0, none⟩ = some (.int .i64 (N : Int)) ∧ x.cell? ⟨tb, 1, none⟩ = some (.slice (some ⟨g, 0, none⟩) d.length p) ∧ x.cell? ⟨tb, 2, none⟩ = some (.slice (some ⟨g', 0, none⟩) c.length p')) (exact ⟨x0, x1, x2, y0, y1, y2⟩) (first | (go_at_call 11; (first | with_reducible refine (CT.out _ HKK.out.drew).mono ?_ | with_reducible refine (CT.out _ HKK.out).mono ?_); rintro e9 wz ⟨rfl, HKn⟩; have HKK := Lib.hid HKn; clear HKn; obtain ⟨x0, x1, x2⟩ := im_cells (HKK.out.pull 6 rfl); obtain ⟨y0, y1, y2⟩ := im_cells (HKK.out.pull 3 rfl)) | (go_at_call 12; (first | with_reducible refine (CM.out _ HKK.out.drew).mono ?_ | with_reducible refine (CM.out _ HKK.out).mono ?_); rintro e9 wz ⟨rfl, HKn⟩; have HKK := Lib.hid HKn; clear HKn; obtain ⟨x0, x1, x2⟩ := im_cells (HKK.out.pull 6 rfl); obtain ⟨y0, y1, y2⟩ := im_cells (HKK.out.pull 3 rfl)) | (go_at_call 13; (first | with_reducible refine (SA.out _ HKK.out.drew).mono ?_ | with_reducible refine (SA.out _ HKK.out).mono ?_ | with_reducible refine (SB.out _ HKK.out.drew).mono ?_ | with_reducible refine (SB.out _ HKK.out).mono ?_); rintro e9 wz ⟨rfl, HKn⟩; have HKK := Lib.hid HKn; clear HKn; obtain ⟨x0, x1, x2⟩ := im_cells (HKK.out.pull 6 rfl); obtain ⟨y0, y1, y2⟩ := im_cells (HKK.out.pull 3 rfl)) | (go_at_call 14; (first | with_reducible refine (LI.out _ HKK.out.drew).mono ?_ | with_reducible refine (LI.out _ HKK.out).mono ?_); rintro e9 wz ⟨rfl, HKn⟩; have HKK := Lib.hid HKn; clear HKn; obtain ⟨x0, x1, x2⟩ := im_cells (HKK.out.pull 6 rfl); obtain ⟨y0, y1, y2⟩ := im_cells (HKK.out.pull 3 rfl)))
      all_goals
        clear CT CM SA SB LI
        go_upto_region 10 with fail
        have HB1 := Lib.hid (own_nil (own_nil (blk_new HKK.out (.cells (BkB.bk (.slice none 0 0) 0 (.slice none 0 0)) 42)) 105 3) 92 3)
        have HB2 := Lib.hid (HB1.out.pull 2 rfl)
        clear HB1 x0 x1 x2 y0 y1 y2
        have HB3 : Hid (Hp w (wz.alloc (.cells #[.int .i64 0, .slice none 0 0, .slice none 0 0, .slice none 0 0, .slice none 0 0, .slice none 0 0, .slice none 0 0, .slice none 0 0, .slice none 0 0] 42)) (BkB.Bkt (.slice none 0 0) wz.heap.size 0 (.slice none 0 0) :: BkB.Rows_ (.slice none 0 0) [] :: BkI.Rows_ (.slice none 0 0) [] :: [OwnU (.slice aw bb.length cw) bb, OwnU (.slice ab bb.length cb) bb, OwnU (.slice aa bb.length ca) bb, IM tb (N : Int) (.slice (some ⟨g, 0, none⟩) d.length p) (.slice (some ⟨g', 0, none⟩) c.length p'), OwnTN g' p' c, OwnT g p d, IM xb (N : Int) (.slice ad d.length dc) (.slice ac c.length cc)])) := HB2
        clear HB2
        obtain ⟨y0, y1, y2⟩ := im_cells (HB3.out.pull 6 rfl)
        generalize (wz.alloc (.cells #[.int .i64 0, .slice none 0 0, .slice none 0 0, .slice none 0 0, .slice none 0 0, .slice none 0 0, .slice none 0 0, .slice none 0 0, .slice none 0 0] 42)) = wb at *
        generalize wz.heap.size = kb at *
        have K1 := Lib.hid (kimage_c N (some ⟨g, 0, none⟩) (some ⟨g', 0, none⟩) d.length p c.length p' HB3.out (by omega) (by simp) (by simp))
        go_wp2_with fail
        refine K1.out.mono ?_; rintro ea wk1 ⟨rfl, vb1, vi1, K⟩
        have HB4 := Lib.hid K
        clear K K1 HB3 HKK y0 y1 y2
        have K2 := Lib.hid (BkB.ints_c aa bb.length ca HB4.out (by omega) (by simp))
        go_wp2_with fail
        refine K2.out.mono ?_; rintro eb wk2 ⟨rfl, vb2, K⟩
        have HB5 := Lib.hid K
        clear K K2 HB4
        have K3 := Lib.hid (BkB.ints_c ab bb.length cb HB5.out (by omega) (by simp))
        go_wp2_with fail
        refine K3.out.mono ?_; rintro ec wk3 ⟨rfl, vb3, K⟩
        have L1 := u_keep (K.pull 4 rfl)
        have L2 := u_keep (L1.pull 5 rfl)
        have L3 := u_keep (ownT_cut (L2.pull 8 rfl))
        have L4 := BkI.ownx_of (ownTN_cut (L3.pull 8 rfl))
        have L5 := (((((((L4.pull 0 rfl).pull 6 rfl).pull 4 rfl).pull 4 rfl).pull 4 rfl).pull 6 rfl).pull 6 rfl)
        have HX := Lib.hid L5
        clear K K3 HB5 L1 L2 L3 L4 L5
        have AP := Lib.hid (apart_c (xs := [⟨(.slice (some ⟨g, 0, none⟩) d.length p), d.length, 0 + 1⟩, ⟨(.slice aa bb.length ca), bb.length, 0 + 1 + 1 + 1⟩, ⟨(.slice ab bb.length cb), bb.length, 0 + 1 + 1 + 1 + 1⟩]) (ys := [⟨(.slice (some ⟨g', 0, none⟩) c.length p'), c.length, 0 + 1 + 1⟩]) HX.out (by have := HL.out; have := HBB.out; intro h hh; simp only [List.mem_cons, List.not_mem_nil, or_false] at hh; rcases hh with rfl | rfl | rfl <;> (dsimp only; omega)) (by simp) (by have := HL.out; intro h hh; simp only [List.mem_cons, List.not_mem_nil, or_false] at hh; subst hh; dsimp only; omega) (by simp))
        go_wp2_with fail
        refine AP.out.mono ?_; rintro ed wk4 ⟨rfl, hb⟩
        have HZ := Lib.hid hb
        clear hb AP HX
        go_wp2
        go_ret
        exact ⟨rfl, HZ.out⟩
    | false =>
      have HK := Lib.hid hk
      clear hk
      have HBB : Hid ((0 : Nat) < 100000) := Lib.hid (by omega)
      have P1 := Lib.hid (fun (W : World) (HW : Hp w W ([IM tb n (.slice (some ⟨g, 0, none⟩) d.length p) (.slice (some ⟨g', 0, none⟩) c.length p'), OwnTN g' p' c, OwnT g p d, IM xb n (.slice ad d.length dc) (.slice ac c.length cc)])) => imput_no n (some ⟨g, 0, none⟩) (some ⟨g', 0, none⟩) p p' d c W (CellsIn.pre (CellsIn.own (HW.pull 1 rfl))) HK.out)
      have P3 := Lib.hid (fun (W : World) (r : List Thing) (HW : Hp w W r) => rimput_no n ad ac dc cc d c W (HC.out.hp HW) HK.out)
      go_wp2_with fail
      refine (P1.out _ H4.out).mono ?_; rintro e5 w5 ⟨rfl, hb⟩
      have H5 := Lib.hid (H4.out.below_read hb)
      clear hb H4 y0 y1 y2
      obtain ⟨y0, y1, y2⟩ := im_cells H5.out
      go_wp2_with fail
      refine (P1.out _ H5.out).mono ?_; rintro e6 w6 ⟨rfl, hb⟩
      have H6 := Lib.hid (H5.out.below_read hb)
      clear hb H5 P1 y0 y1 y2
      obtain ⟨x0, x1, x2⟩ := im_cells (H6.out.pull 3 rfl)
      go_wp2_with fail
      refine (P3.out _ _ H6.out).mono ?_; rintro e7 w7 ⟨rfl, hb⟩
      have H7 := Lib.hid (own_nil (own_nil (own_nil (H6.out.below_read hb) 5 1) 5 1) 5 1)
      clear hb P3 H6 x0 x1 x2
      have HKK : Hid (Hp w w7 [OwnU (.slice none 0 0) ([] : List UInt8), OwnU (.slice none 0 0) ([] : List UInt8), OwnU (.slice none 0 0) ([] : List UInt8), IM tb n (.slice (some ⟨g, 0, none⟩) d.length p) (.slice (some ⟨g', 0, none⟩) c.length p'), OwnTN g' p' c, OwnT g p d, IM xb n (.slice ad d.length dc) (.slice ac c.length cc)]) := H7
      clear H7
      have CT : Hid (∀ W, Hp w W [OwnU (.slice none 0 0) ([] : List UInt8), OwnU (.slice none 0 0) ([] : List UInt8), OwnU (.slice none 0 0) ([] : List UInt8), IM tb n (.slice (some ⟨g, 0, none⟩) d.length p) (.slice (some ⟨g', 0, none⟩) c.length p'), OwnTN g' p' c, OwnT g p d, IM xb n (.slice ad d.length dc) (.slice ac c.length cc)] → Calls Tryz.prog 11 #[imV n (some ⟨g, 0, none⟩) d.length p (some ⟨g', 0, none⟩) c.length p'] W fun e' w' => e' = .returned (.bool false) ∧ Hp w w' [OwnU (.slice none 0 0) ([] : List UInt8), OwnU (.slice none 0 0) ([] : List UInt8), OwnU (.slice none 0 0) ([] : List UInt8), IM tb n (.slice (some ⟨g, 0, none⟩) d.length p) (.slice (some ⟨g', 0, none⟩) c.length p'), OwnTN g' p' c, OwnT g p d, IM xb n (.slice ad d.length dc) (.slice ac c.length cc)]) := Lib.hid (fun W HW => (imcheck_c n (some ⟨g, 0, none⟩) (some ⟨g', 0, none⟩) p p' d c W (CellsIn.pre (CellsIn.own (HW.pull 4 rfl)))).mono (fun e' w' h => ⟨by rw [HK.out] at h; exact h.1, HW.below_read h.2⟩))
      have CM : Hid (∀ W, Hp w W [OwnU (.slice none 0 0) ([] : List UInt8), OwnU (.slice none 0 0) ([] : List UInt8), OwnU (.slice none 0 0) ([] : List UInt8), IM tb n (.slice (some ⟨g, 0, none⟩) d.length p) (.slice (some ⟨g', 0, none⟩) c.length p'), OwnTN g' p' c, OwnT g p d, IM xb n (.slice ad d.length dc) (.slice ac c.length cc)] → Calls Tryz.prog 12 #[imV n ad d.length dc ac c.length cc] W fun e' w' => e' = .returned (.bool false) ∧ Hp w w' [OwnU (.slice none 0 0) ([] : List UInt8), OwnU (.slice none 0 0) ([] : List UInt8), OwnU (.slice none 0 0) ([] : List UInt8), IM tb n (.slice (some ⟨g, 0, none⟩) d.length p) (.slice (some ⟨g', 0, none⟩) c.length p'), OwnTN g' p' c, OwnT g p d, IM xb n (.slice ad d.length dc) (.slice ac c.length cc)]) := Lib.hid (fun W HW => (rimck_c n ad ac dc cc d c W (HC.out.hp HW)).mono (fun e' w' h => ⟨by rw [HK.out] at h; exact h.1, HW.below_read h.2⟩))
      have SA : Hid (∀ W, Hp w W [OwnU (.slice none 0 0) ([] : List UInt8), OwnU (.slice none 0 0) ([] : List UInt8), OwnU (.slice none 0 0) ([] : List UInt8), IM tb n (.slice (some ⟨g, 0, none⟩) d.length p) (.slice (some ⟨g', 0, none⟩) c.length p'), OwnTN g' p' c, OwnT g p d, IM xb n (.slice ad d.length dc) (.slice ac c.length cc)] → Calls Tryz.prog 13 #[.slice none 0 0, .slice none 0 0] W fun e' w' => e' = .returned (.bool true) ∧ Hp w w' [OwnU (.slice none 0 0) ([] : List UInt8), OwnU (.slice none 0 0) ([] : List UInt8), OwnU (.slice none 0 0) ([] : List UInt8), IM tb n (.slice (some ⟨g, 0, none⟩) d.length p) (.slice (some ⟨g', 0, none⟩) c.length p'), OwnTN g' p' c, OwnT g p d, IM xb n (.slice ad d.length dc) (.slice ac c.length cc)]) := Lib.hid (fun W HW => (same_bytes none none 0 0 ([] : List UInt8) ([] : List UInt8) W (CellsIn.own (HW.pull 2 rfl)) (CellsIn.own HW) (by have := HBB.out; first | omega | decide) (by have := HBB.out; first | omega | decide)).mono (fun e' w' h => ⟨h.1.trans (by simp), HW.below_read h.2⟩))
      have SB : Hid (∀ W, Hp w W [OwnU (.slice none 0 0) ([] : List UInt8), OwnU (.slice none 0 0) ([] : List UInt8), OwnU (.slice none 0 0) ([] : List UInt8), IM tb n (.slice (some ⟨g, 0, none⟩) d.length p) (.slice (some ⟨g', 0, none⟩) c.length p'), OwnTN g' p' c, OwnT g p d, IM xb n (.slice ad d.length dc) (.slice ac c.length cc)] → Calls Tryz.prog 13 #[.slice none 0 0, .slice none 0 0] W fun e' w' => e' = .returned (.bool true) ∧ Hp w w' [OwnU (.slice none 0 0) ([] : List UInt8), OwnU (.slice none 0 0) ([] : List UInt8), OwnU (.slice none 0 0) ([] : List UInt8), IM tb n (.slice (some ⟨g, 0, none⟩) d.length p) (.slice (some ⟨g', 0, none⟩) c.length p'), OwnTN g' p' c, OwnT g p d, IM xb n (.slice ad d.length dc) (.slice ac c.length cc)]) := Lib.hid (fun W HW => (same_bytes none none 0 0 ([] : List UInt8) ([] : List UInt8) W (CellsIn.own (HW.pull 1 rfl)) (CellsIn.own HW) (by have := HBB.out; first | omega | decide) (by have := HBB.out; first | omega | decide)).mono (fun e' w' h => ⟨h.1.trans (by simp), HW.below_read h.2⟩))
      have LI : Hid (∀ W, Hp w W [OwnU (.slice none 0 0) ([] : List UInt8), OwnU (.slice none 0 0) ([] : List UInt8), OwnU (.slice none 0 0) ([] : List UInt8), IM tb n (.slice (some ⟨g, 0, none⟩) d.length p) (.slice (some ⟨g', 0, none⟩) c.length p'), OwnTN g' p' c, OwnT g p d, IM xb n (.slice ad d.length dc) (.slice ac c.length cc)] → Calls Tryz.prog 14 #[imV n (some ⟨g, 0, none⟩) d.length p (some ⟨g', 0, none⟩) c.length p', imV n ad d.length dc ac c.length cc] W fun e' w' => e' = .returned (.bool true) ∧ Hp w w' [OwnU (.slice none 0 0) ([] : List UInt8), OwnU (.slice none 0 0) ([] : List UInt8), OwnU (.slice none 0 0) ([] : List UInt8), IM tb n (.slice (some ⟨g, 0, none⟩) d.length p) (.slice (some ⟨g', 0, none⟩) c.length p'), OwnTN g' p' c, OwnT g p d, IM xb n (.slice ad d.length dc) (.slice ac c.length cc)]) := Lib.hid (fun W HW => (left_image n ad ac dc cc g p g' p' d c W (HD.out.hp HW) (HC.out.hp HW) (CellsIn.own (HW.pull 5 rfl)) (own_capn (HW.pull 5 rfl)) (CellsIn.own (HW.pull 4 rfl)) (own_capn (HW.pull 4 rfl)) (by have := HL.out; omega) (by have := HL.out; omega)).mono (fun e' w' h => ⟨h.1, HW.below_read h.2⟩))
      obtain ⟨x0, x1, x2⟩ := im_cells (HKK.out.pull 6 rfl)
      obtain ⟨y0, y1, y2⟩ := im_cells (HKK.out.pull 3 rfl)
      go_upto_region 7 with fail
      go_region_held3 (fun x => x.cell? ⟨xb, 0, none⟩ = some (.int .i64 n) ∧ x.cell? ⟨xb, 1, none⟩ = some (.slice ad d.length dc) ∧ x.cell? ⟨xb, 2, none⟩ = some (.slice ac c.length cc) ∧ x.cell? ⟨tb, 0, none⟩ = some (.int .i64 n) ∧ x.cell? ⟨tb, 1, none⟩ = some (.slice (some ⟨g, 0, none⟩) d.length p) ∧ x.cell? ⟨tb, 2, none⟩ = some (.slice (some ⟨g', 0, none⟩) c.length p')) (exact ⟨x0, x1, x2, y0, y1, y2⟩) (first | (go_at_call 11; (first | with_reducible refine (CT.out _ HKK.out.drew).mono ?_ | with_reducible refine (CT.out _ HKK.out).mono ?_); rintro e9 wz ⟨rfl, HKn⟩; have HKK := Lib.hid HKn; clear HKn; obtain ⟨x0, x1, x2⟩ := im_cells (HKK.out.pull 6 rfl); obtain ⟨y0, y1, y2⟩ := im_cells (HKK.out.pull 3 rfl)) | (go_at_call 12; (first | with_reducible refine (CM.out _ HKK.out.drew).mono ?_ | with_reducible refine (CM.out _ HKK.out).mono ?_); rintro e9 wz ⟨rfl, HKn⟩; have HKK := Lib.hid HKn; clear HKn; obtain ⟨x0, x1, x2⟩ := im_cells (HKK.out.pull 6 rfl); obtain ⟨y0, y1, y2⟩ := im_cells (HKK.out.pull 3 rfl)) | (go_at_call 13; (first | with_reducible refine (SA.out _ HKK.out.drew).mono ?_ | with_reducible refine (SA.out _ HKK.out).mono ?_ | with_reducible refine (SB.out _ HKK.out.drew).mono ?_ | with_reducible refine (SB.out _ HKK.out).mono ?_); rintro e9 wz ⟨rfl, HKn⟩; have HKK := Lib.hid HKn; clear HKn; obtain ⟨x0, x1, x2⟩ := im_cells (HKK.out.pull 6 rfl); obtain ⟨y0, y1, y2⟩ := im_cells (HKK.out.pull 3 rfl)) | (go_at_call 14; (first | with_reducible refine (LI.out _ HKK.out.drew).mono ?_ | with_reducible refine (LI.out _ HKK.out).mono ?_); rintro e9 wz ⟨rfl, HKn⟩; have HKK := Lib.hid HKn; clear HKn; obtain ⟨x0, x1, x2⟩ := im_cells (HKK.out.pull 6 rfl); obtain ⟨y0, y1, y2⟩ := im_cells (HKK.out.pull 3 rfl)))
      all_goals
        clear CT CM SA SB LI
        go_upto_region 10 with fail
        have HB1 := Lib.hid (own_nil (own_nil (blk_new HKK.out (.cells (BkB.bk (.slice none 0 0) 0 (.slice none 0 0)) 42)) 105 3) 92 3)
        have HB2 := Lib.hid (HB1.out.pull 2 rfl)
        clear HB1 x0 x1 x2 y0 y1 y2
        have HB3 : Hid (Hp w (wz.alloc (.cells #[.int .i64 0, .slice none 0 0, .slice none 0 0, .slice none 0 0, .slice none 0 0, .slice none 0 0, .slice none 0 0, .slice none 0 0, .slice none 0 0] 42)) (BkB.Bkt (.slice none 0 0) wz.heap.size 0 (.slice none 0 0) :: BkB.Rows_ (.slice none 0 0) [] :: BkI.Rows_ (.slice none 0 0) [] :: [OwnU (.slice none 0 0) ([] : List UInt8), OwnU (.slice none 0 0) ([] : List UInt8), OwnU (.slice none 0 0) ([] : List UInt8), IM tb n (.slice (some ⟨g, 0, none⟩) d.length p) (.slice (some ⟨g', 0, none⟩) c.length p'), OwnTN g' p' c, OwnT g p d, IM xb n (.slice ad d.length dc) (.slice ac c.length cc)])) := HB2
        clear HB2
        obtain ⟨y0, y1, y2⟩ := im_cells (HB3.out.pull 6 rfl)
        generalize (wz.alloc (.cells #[.int .i64 0, .slice none 0 0, .slice none 0 0, .slice none 0 0, .slice none 0 0, .slice none 0 0, .slice none 0 0, .slice none 0 0, .slice none 0 0] 42)) = wb at *
        generalize wz.heap.size = kb at *
        have K1 := Lib.hid (kimage_c n (some ⟨g, 0, none⟩) (some ⟨g', 0, none⟩) d.length p c.length p' HB3.out (by omega) (by simp) (by simp))
        go_wp2_with fail
        refine K1.out.mono ?_; rintro ea wk1 ⟨rfl, vb1, vi1, K⟩
        have HB4 := Lib.hid K
        clear K K1 HB3 HKK y0 y1 y2
        have K2 := Lib.hid (BkB.ints_c none 0 0 HB4.out (by omega) (by simp))
        go_wp2_with fail
        refine K2.out.mono ?_; rintro eb wk2 ⟨rfl, vb2, K⟩
        have HB5 := Lib.hid K
        clear K K2 HB4
        have K3 := Lib.hid (BkB.ints_c none 0 0 HB5.out (by omega) (by simp))
        go_wp2_with fail
        refine K3.out.mono ?_; rintro ec wk3 ⟨rfl, vb3, K⟩
        have L1 := u_keep (K.pull 4 rfl)
        have L2 := u_keep (L1.pull 5 rfl)
        have L3 := u_keep (ownT_cut (L2.pull 8 rfl))
        have L4 := BkI.ownx_of (ownTN_cut (L3.pull 8 rfl))
        have L5 := (((((((L4.pull 0 rfl).pull 6 rfl).pull 4 rfl).pull 4 rfl).pull 4 rfl).pull 6 rfl).pull 6 rfl)
        have HX := Lib.hid L5
        clear K K3 HB5 L1 L2 L3 L4 L5
        have AP := Lib.hid (apart_c (xs := [⟨(.slice (some ⟨g, 0, none⟩) d.length p), d.length, 0 + 1⟩, ⟨(.slice none 0 0), 0, 0 + 1 + 1 + 1⟩, ⟨(.slice none 0 0), 0, 0 + 1 + 1 + 1 + 1⟩]) (ys := [⟨(.slice (some ⟨g', 0, none⟩) c.length p'), c.length, 0 + 1 + 1⟩]) HX.out (by have := HL.out; have := HBB.out; intro h hh; simp only [List.mem_cons, List.not_mem_nil, or_false] at hh; rcases hh with rfl | rfl | rfl <;> (dsimp only; omega)) (by simp) (by have := HL.out; intro h hh; simp only [List.mem_cons, List.not_mem_nil, or_false] at hh; subst hh; dsimp only; omega) (by simp))
        go_wp2_with fail
        refine AP.out.mono ?_; rintro ed wk4 ⟨rfl, hb⟩
        have HZ := Lib.hid hb
        clear hb AP HX
        go_wp2
        go_ret
        exact ⟨rfl, HZ.out⟩
end Go.Proofs.YtcfoljdpffonhaaGreatDoor
