/- CpuPlays, walked. -/
import Derived.Test.YtijkkompnfpdeaaGreatDoorP23
import Derived.Test.YtijkkompnfpdeaaGreatDoorP26
import Derived.Outline
set_option linter.unusedVariables false
set_option linter.unusedSimpArgs false
namespace Go.Proofs.YtijkkompnfpdeaaGreatDoor
open Go.RowKit Go.Joins Go.Shelf Go.ChangeShapes Go.WideShapes Go.ChangeAt Go.Deep
attribute [local go_sem] Oper.semAt_some

theorem str_same (x : ByteArray) (w : World) : (binOp .eql 9 (.string x) (.string x)).run Tryz.prog w = .ok (.bool true) w := by
  simp [go_sem]
theorem eq_regsN (u0 u1 u2 u3 u4 u5 u6 u7 : UInt32) (w : World) : (Op.equalIn 10000 40 (.agg #[wv u0, wv u1, wv u2, wv u3, wv u4, wv u5, wv u6, wv u7]) (.agg #[wv u0, wv u1, wv u2, wv u3, wv u4, wv u5, wv u6, wv u7])).run Tryz.prog w = .ok true w := by
  obtain ⟨r, hr, hi⟩ := run_equalIn_deep (P := Tryz.prog) 9998 2 40 (by kernel_rfl) w 2 2 (.agg #[wv u0, wv u1, wv u2, wv u3, wv u4, wv u5, wv u6, wv u7]) (.agg #[wv u0, wv u1, wv u2, wv u3, wv u4, wv u5, wv u6, wv u7]) [.int .u32 u0.toNat, .int .u32 u1.toNat, .int .u32 u2.toNat, .int .u32 u3.toNat, .int .u32 u4.toNat, .int .u32 u5.toNat, .int .u32 u6.toNat, .int .u32 u7.toNat] [.int .u32 u0.toNat, .int .u32 u1.toNat, .int .u32 u2.toNat, .int .u32 u3.toNat, .int .u32 u4.toNat, .int .u32 u5.toNat, .int .u32 u6.toNat, .int .u32 u7.toNat] (by kernel_rfl) (by kernel_rfl) (key_a u0 u1 u2 u3 u4 u5 u6 u7) (key_a u0 u1 u2 u3 u4 u5 u6 u7)
  obtain rfl : r = true := hi.2 rfl
  exact hr
theorem eight {l : List UInt32} (h : l.length = 8) : ∃ u0 u1 u2 u3 u4 u5 u6 u7, l = [u0, u1, u2, u3, u4, u5, u6, u7] := by
  match l, h with
  | [u0, u1, u2, u3, u4, u5, u6, u7], _ => exact ⟨_, _, _, _, _, _, _, _, rfl⟩
theorem u_keepp {w0 w : World} {r : List Thing} {v : Value} {bs : List UInt8} (H : Hp w0 w (OwnU v bs :: r)) : Hp w0 w (BkB.OwnX v bs.length :: r) := H.as fun S h => ⟨bs.map (fun x => (x.toNat : Int)), by simp, by
  have e : (bs.map (fun x => (x.toNat : Int))).map (Value.int .u8) = bs.map bv := by rw [List.map_map]; rfl
  show (Own 5 1 v (bs.map (fun x => (x.toNat : Int))).length ((bs.map (fun x => (x.toNat : Int))).map (Value.int .u8))).at_ w S
  rw [e, List.length_map]; exact h⟩
set_option maxHeartbeats 16000000 in
set_option maxRecDepth 20000 in
theorem plays_c (w : World) (n : Int) (ad ac ra : Option Addr) (dc cc rc : Nat) (d : List UInt8) (c : List I4) (rs : List (Int × UInt32)) (x : UInt8) (hd : CellsIn w ad (d.map bv)) (hc : CellsIn w ac (ics c)) (hr : RepsIn w ra rs) (h1 : d.length ≤ 1000000000000000) (h2 : c.length ≤ 1000000000000000) :
    Calls Tryz.prog 5 #[imV n ad d.length dc ac c.length cc, .slice ra rs.length rc, bv x] w fun e w' => e = .returned (.bool true) ∧ Below w.heap.size w w' := by
  have H1 := Lib.hid (blk_new (Hp.start w) (.cells #[.int .i64 n, .slice ad d.length dc, .slice ac c.length cc] 29))
  have HD := Lib.hid hd
  have HC := Lib.hid hc
  have HR := Lib.hid hr
  have G := Lib.hid (fun W => great_g n ad ac d.length dc c.length cc W h1 h2)
  clear hd hc hr h1 h2
  go_enter Tryz.func5, Tryz.ntmps5
  go_upto_region 1 with fail
  obtain ⟨x0, x1, x2⟩ := im_cells H1.out
  generalize (w.alloc (.cells #[.int .i64 n, .slice ad d.length dc, .slice ac c.length cc] 29)) = w1 at *
  generalize w.heap.size = xb at *
  go_wp2_with fail
  refine (G.out _).mono ?_; rintro e w2 ⟨g, rfl, hg, hb⟩
  have H2 := Lib.hid (H1.out.below_read hb)
  have HG := Lib.hid hg
  clear G hg hb H1 x0 x1 x2
  cases g with
  | true =>
    go_wp2_with fail
    refine (lives_c _).mono ?_; rintro e wc ⟨rfl, hb⟩
    have HZ := Lib.hid (H2.out.below_read hb)
    clear H2 hb
    go_wp2
    go_ret
    exact ⟨rfl, HZ.out.below⟩
  | false =>
  have HL := Lib.hid (HG.out rfl)
  clear HG
  by_cases h100 : 100 < rs.length
  · have d100 : decide ((100 : Int) < (rs.length : Int)) = true := by simp; omega
    go_wp2_with fail
    refine (lives_c _).mono ?_; rintro e wc ⟨rfl, hb⟩
    have HZ := Lib.hid (H2.out.below_read hb)
    clear H2 hb
    go_wp2
    go_ret
    exact ⟨rfl, HZ.out.below⟩
  have d100 : decide ((100 : Int) < (rs.length : Int)) = false := by simp; omega
  have HRL := Lib.hid h100
  clear h100
  obtain ⟨x0, x1, x2⟩ := im_cells H2.out
  go_wp2_with fail
  refine (twin_image n ad ac dc cc d c _ (HD.out.hp H2.out) (HC.out.hp H2.out) (by have := HL.out; omega) (by have := HL.out; omega)).mono ?_; rintro e w3 ⟨g, p, g', p', rfl, K⟩
  have H3 := Lib.hid (blk_new (H2.out.lift K) (.cells #[.int .i64 n, .slice (some ⟨g, 0, none⟩) d.length p, .slice (some ⟨g', 0, none⟩) c.length p'] 29))
  clear K H2 x0 x1 x2
  go_upto_region 4 with fail
  obtain ⟨y0, y1, y2⟩ := im_cells H3.out
  generalize (w3.alloc _) = w4 at *
  generalize w3.heap.size = tb at *
  have H4 : Hid (Hp w w4 [IM tb n (.slice (some ⟨g, 0, none⟩) d.length p) (.slice (some ⟨g', 0, none⟩) c.length p'), OwnTN g' p' c, OwnT g p d, IM xb n (.slice ad d.length dc) (.slice ac c.length cc)]) := H3
  clear H3
  have LI : Hid (∀ W r, Hp w W (OwnTN g' p' c :: OwnT g p d :: r) → Calls Tryz.prog 17 #[imV n (some ⟨g, 0, none⟩) d.length p (some ⟨g', 0, none⟩) c.length p', imV n ad d.length dc ac c.length cc] W fun e' w' => e' = .returned (.bool true) ∧ Below W.heap.size W w') := Lib.hid (fun W r HW => left_image n ad ac dc cc g p g' p' d c W (HD.out.hp HW) (HC.out.hp HW) (CellsIn.own HW.up1) (own_capn HW.up1) (CellsIn.own HW) (own_capn HW) (by have := HL.out; omega) (by have := HL.out; omega))
  cases hk : imck n d c with
  | false =>
    have HK := Lib.hid hk
    clear hk
    go_wp2_with fail
    refine (new_n n (some ⟨g, 0, none⟩) (some ⟨g', 0, none⟩) p p' d c _ HK.out (CellsIn.own (ownTN_cut (H4.out.pull 1 rfl)))).mono ?_; rintro e w5 ⟨rfl, hb⟩
    have H5 := Lib.hid (H4.out.below_read hb)
    clear hb H4 y0 y1 y2
    obtain ⟨x0, x1, x2⟩ := im_cells (H5.out.pull 3 rfl)
    go_wp2_with fail
    refine (rnew_n n ad ac dc cc d c _ HK.out (HC.out.hp H5.out)).mono ?_; rintro e w6 ⟨rfl, hb⟩
    have H6 := Lib.hid (H5.out.below_read hb)
    clear hb H5 x0 x1 x2
    obtain ⟨x0, x1, x2⟩ := im_cells (H6.out.pull 3 rfl)
    obtain ⟨y0, y1, y2⟩ := im_cells H6.out
    go_wp2_with fail
    refine (LI.out _ _ (H6.out.tail)).mono ?_; rintro e w7 ⟨rfl, hb⟩
    have H7 := Lib.hid (H6.out.below_read hb)
    clear hb H6 LI x0 x1 x2 y0 y1 y2
    go_wp2_with fail
    refine (step_nil H7.out).mono ?_; rintro e w8 ⟨rfl, H8'⟩
    have H8 := Lib.hid (H8'.alloc (.cells #[bv ak0.what, wv ak0.h, wv ak0.v, wv ak0.m, .int .i64 ak0.wait] 37))
    clear H7 H8'
    rw [show stV false ak0 2 = .tuple #[.bool false, .agg #[bv ak0.what, wv ak0.h, wv ak0.v, wv ak0.m, .int .i64 ak0.wait], .int .i64 2] from rfl]
    go_upto_region 10 with fail
    generalize w8.alloc _ = W8 at *
    go_wp2_with fail
    refine (at_nil _).mono ?_; rintro e w9 ⟨rfl, rfl⟩
    go_wp2_with fail
    refine (bytes_nil _).mono ?_; rintro e w9 ⟨rfl, rfl⟩
    go_wp2_with fail
    refine (lives_c _).mono ?_; rintro e wc ⟨rfl, hb⟩
    have HZ := Lib.hid (H8.out.below_read hb)
    clear H8 hb
    go_wp2
    go_ret
    exact ⟨rfl, HZ.out.below⟩
  | true =>
  have hb := hk
  unfold imck at hb
  simp only [Bool.and_eq_true, decide_eq_true_eq] at hb
  obtain ⟨⟨b1, b2, b3, b4⟩, b5⟩ := hb
  obtain ⟨m, rfl⟩ : ∃ m : Nat, n = (m : Int) := ⟨n.toNat, by omega⟩
  have HK := Lib.hid hk
  have HB := Lib.hid (show m ≤ 4096 ∧ d.length ≤ m ∧ c.length ≤ 1024 ∧ c.all ik = true from ⟨by omega, by omega, b4, b5⟩)
  clear hk b1 b2 b3 b4 b5
  go_wp2_with fail
  refine (new_y m (some ⟨g, 0, none⟩) (some ⟨g', 0, none⟩) p p' d c HK.out (CellsIn.own (ownT_cut (H4.out.pull 2 rfl))) (CellsIn.own (ownTN_cut (H4.out.pull 1 rfl))) H4.out).mono ?_; rintro e w5 ⟨cb, rfl, K⟩
  have H5 := Lib.hid K
  clear K H4 y0 y1 y2
  obtain ⟨x0, x1, x2⟩ := im_cells (H5.out.pull 4 rfl)
  go_wp2_with fail
  refine (rnew_y m ad ac dc cc d c HK.out HD.out HC.out H5.out).mono ?_; rintro e w6 ⟨db, rfl, K⟩
  have H6 := Lib.hid K
  clear K H5 x0 x1 x2
  obtain ⟨x0, x1, x2⟩ := im_cells (H6.out.pull 5 rfl)
  obtain ⟨y0, y1, y2⟩ := im_cells (H6.out.pull 2 rfl)
  go_wp2_with fail
  refine (LI.out _ _ ((H6.out.pull 4 rfl).pull 4 rfl)).mono ?_; rintro e w7 ⟨rfl, hb⟩
  have H7 : Hid (Hp w w7 [DR db c (firstC m d), CR cb c (firstC m d), IM tb (m : Int) (.slice (some ⟨g, 0, none⟩) d.length p) (.slice (some ⟨g', 0, none⟩) c.length p'), OwnTN g' p' c, OwnT g p d, IM xb (m : Int) (.slice ad d.length dc) (.slice ac c.length cc)]) := Lib.hid (H6.out.below_read hb)
  clear hb H6 LI x0 x1 x2 y0 y1 y2
  have k1 := w8_64 x
  have q0 : Hid ((firstC m d).says.length ≤ 0) := Lib.hid (Nat.le_refl _)
  have hx := x.toNat_lt
  go_wp2
  generalize firstC m d = s0 at *
  go_loopw [15, 16] (fun s15 s16 wr => ∃ (i k : Nat) (s : Cs), i ≤ x.toNat ∧ s15 = .int .i64 (k : Int) ∧ k ≤ i ∧ s16 = .int .i64 (i : Int) ∧ Hid (s.says.length ≤ i) ∧ Hid (Hp w wr [DR db c s, CR cb c s, IM tb (m : Int) (.slice (some ⟨g, 0, none⟩) d.length p) (.slice (some ⟨g', 0, none⟩) c.length p'), OwnTN g' p' c, OwnT g p d, IM xb (m : Int) (.slice ad d.length dc) (.slice ac c.length cc)])) (fun _ s16 _ => x.toNat - (intOf s16).toNat)
  case atStart => exact ⟨0, 0, s0, Nat.zero_le _, rfl, Nat.le_refl _, rfl, q0, H7⟩
  case round =>
    obtain ⟨i, k, s, hi, rfl, hki, rfl, HI, HH⟩ := hrel
    clear H7 q0
    by_cases hlt : i < x.toNat
    · have t1 : (i : Int) < (x.toNat : Int) := by omega
      have t2 : IntKind.i64.wrap ((i : Int) + 1) = (i : Int) + 1 := by rw [IntKind.wrap_i64]; omega
      have t3 : IntKind.i64.wrap ((k : Int) + 1) = (k : Int) + 1 := by rw [IntKind.wrap_i64]; omega
      have hs : s.says.length < 256 := by have := HI.out; omega
      have HLT := Lib.hid (And.intro hlt hki)
      have C1 := Lib.hid (step_c (s := s) HB.out.2.2.2 HB.out.2.2.1 hs (HH.out.pull 1 rfl))
      have C2 := Lib.hid (fun (W : World) (r : List Thing) (H : Hp w W (DR db c s :: r)) => rstep_c (s := s) HB.out.2.2.2 HB.out.2.2.1 hs H)
      have HS : Hid ((stepC c s).1.says.length ≤ i + 1) := Lib.hid (Nat.le_trans (stepC_says c s) (by have := HI.out; omega))
      clear hlt hi hki hs HI
      generalize (stepC c s).1 = t at *
      generalize (stepC c s).2.1 = one at *
      generalize (stepC c s).2.2.1 = ak at *
      generalize (stepC c s).2.2.2 = er at *
      go_wp2_with fail
      refine C1.out.mono ?_; rintro e w8 ⟨rfl, K⟩
      have H8 : Hid (Hp w _ [Blk _ (.cells #[bv ak.what, wv ak.h, wv ak.v, wv ak.m, .int .i64 ak.wait] 37 (0, 0)), DR db c s, CR cb c t, IM tb (m : Int) (.slice (some ⟨g, 0, none⟩) d.length p) (.slice (some ⟨g', 0, none⟩) c.length p'), OwnTN g' p' c, OwnT g p d, IM xb (m : Int) (.slice ad d.length dc) (.slice ac c.length cc)]) := Lib.hid (blk_new (K.pull 1 rfl) (.cells #[bv ak.what, wv ak.h, wv ak.v, wv ak.m, .int .i64 ak.wait] 37))
      clear K C1 HH
      rw [show stV one ak er = .tuple #[.bool one, .agg #[bv ak.what, wv ak.h, wv ak.v, wv ak.m, .int .i64 ak.wait], .int .i64 er] from rfl]
      go_upto_region 16 with fail
      generalize (w8.alloc _) = w9 at *
      generalize w8.heap.size = a1 at *
      go_wp2_with fail
      refine (C2.out _ _ (H8.out.pull 1 rfl)).mono ?_; rintro e w10 ⟨rfl, K⟩
      have H10 : Hid (Hp w _ [Blk _ (.cells #[bv ak.what, wv ak.h, wv ak.v, wv ak.m, .int .i64 ak.wait] 37 (0, 0)), DR db c t, Blk a1 (.cells #[bv ak.what, wv ak.h, wv ak.v, wv ak.m, .int .i64 ak.wait] 37 (0, 0)), CR cb c t, IM tb (m : Int) (.slice (some ⟨g, 0, none⟩) d.length p) (.slice (some ⟨g', 0, none⟩) c.length p'), OwnTN g' p' c, OwnT g p d, IM xb (m : Int) (.slice ad d.length dc) (.slice ac c.length cc)]) := Lib.hid (blk_new K (.cells #[bv ak.what, wv ak.h, wv ak.v, wv ak.m, .int .i64 ak.wait] 37))
      clear K C2 H8
      rw [show stV one ak er = .tuple #[.bool one, .agg #[bv ak.what, wv ak.h, wv ak.v, wv ak.m, .int .i64 ak.wait], .int .i64 er] from rfl]
      go_upto_region 17 with fail
      generalize (w10.alloc _) = w11 at *
      generalize w10.heap.size = a2 at *
      have y0 : w11.cell? ⟨a2, 0, none⟩ = _ := cell_blk (blk_get H10.out) 0
      have y1 : w11.cell? ⟨a2, 1, none⟩ = _ := cell_blk (blk_get H10.out) 1
      have y2 : w11.cell? ⟨a2, 2, none⟩ = _ := cell_blk (blk_get H10.out) 2
      have y3 : w11.cell? ⟨a2, 3, none⟩ = _ := cell_blk (blk_get H10.out) 3
      have y4 : w11.cell? ⟨a2, 4, none⟩ = _ := cell_blk (blk_get H10.out) 4
      have x0 : w11.cell? ⟨a1, 0, none⟩ = _ := cell_blk (blk_get (H10.out.pull 2 rfl)) 0
      have x1 : w11.cell? ⟨a1, 1, none⟩ = _ := cell_blk (blk_get (H10.out.pull 2 rfl)) 1
      have x2 : w11.cell? ⟨a1, 2, none⟩ = _ := cell_blk (blk_get (H10.out.pull 2 rfl)) 2
      have x3 : w11.cell? ⟨a1, 3, none⟩ = _ := cell_blk (blk_get (H10.out.pull 2 rfl)) 3
      have x4 : w11.cell? ⟨a1, 4, none⟩ = _ := cell_blk (blk_get (H10.out.pull 2 rfl)) 4
      go_upto_region 19 with fail
      clear y0 y1 y2 y3 y4 x0 x1 x2 x3 x4
      have z12 : w11.cell? ⟨db, 12, none⟩ = some (.bool t.asked) := (fun ⟨mb, vc, hl, hm, H2⟩ => db_cell H2 hl 4) (dr_open (H10.out.pull 1 rfl))
      cases hta : t.asked with
      | false =>
        rw [hta] at z12
        go_upto_region 23 with fail
        clear z12
        have HKI : Hid (k ≤ i + 1) := Lib.hid (by have := HLT.out.2; omega)
        have hT : Hid (Hp w w11 [Blk a2 (.cells #[bv ak.what, wv ak.h, wv ak.v, wv ak.m, .int .i64 ak.wait] 37 (0, 0)), DR db c t, Blk a1 (.cells #[bv ak.what, wv ak.h, wv ak.v, wv ak.m, .int .i64 ak.wait] 37 (0, 0)), CR cb c t, IM tb (m : Int) (.slice (some ⟨g, 0, none⟩) d.length p) (.slice (some ⟨g', 0, none⟩) c.length p'), OwnTN g' p' c, OwnT g p d, IM xb (m : Int) (.slice ad d.length dc) (.slice ac c.length cc)]) := H10
        clear H10
        obtain ⟨u0, u1, u2, u3, u4, u5, u6, u7, hr⟩ := eight ((fun ⟨_, _, hl, _, _⟩ => hl) (dr_open (hT.out.pull 1 rfl)))
        have HRR := Lib.hid hr
        clear hr
        have her := eq_regsN
        have hes := str_same
        go_wp2_with fail
        refine (regs_of u0 u1 u2 u3 u4 u5 u6 u7 HRR.out (hT.out.pull 3 rfl)).mono ?_; intro e wa hp
        rw [HRR.out] at hp
        obtain ⟨rfl, K⟩ : e = .returned (.agg #[wv u0, wv u1, wv u2, wv u3, wv u4, wv u5, wv u6, wv u7]) ∧ _ := hp
        have Ha : Hid (Hp w wa [CR cb c t, Blk a2 (.cells #[bv ak.what, wv ak.h, wv ak.v, wv ak.m, .int .i64 ak.wait] 37 (0, 0)), DR db c t, Blk a1 (.cells #[bv ak.what, wv ak.h, wv ak.v, wv ak.m, .int .i64 ak.wait] 37 (0, 0)), IM tb (m : Int) (.slice (some ⟨g, 0, none⟩) d.length p) (.slice (some ⟨g', 0, none⟩) c.length p'), OwnTN g' p' c, OwnT g p d, IM xb (m : Int) (.slice ad d.length dc) (.slice ac c.length cc)]) := Lib.hid K
        clear K hT
        go_wp2_with fail
        refine (rregs_of u0 u1 u2 u3 u4 u5 u6 u7 HRR.out (Ha.out.pull 2 rfl)).mono ?_; rintro e wb ⟨rfl, K⟩
        have Hb : Hid (Hp w wb [DR db c t, CR cb c t, Blk a2 (.cells #[bv ak.what, wv ak.h, wv ak.v, wv ak.m, .int .i64 ak.wait] 37 (0, 0)), Blk a1 (.cells #[bv ak.what, wv ak.h, wv ak.v, wv ak.m, .int .i64 ak.wait] 37 (0, 0)), IM tb (m : Int) (.slice (some ⟨g, 0, none⟩) d.length p) (.slice (some ⟨g', 0, none⟩) c.length p'), OwnTN g' p' c, OwnT g p d, IM xb (m : Int) (.slice ad d.length dc) (.slice ac c.length cc)]) := Lib.hid K
        clear K Ha
        go_wp2_with fail
        refine (at_of (Hb.out.pull 1 rfl)).mono ?_; rintro e wc ⟨rfl, K⟩
        have Hc : Hid (Hp w wc [CR cb c t, DR db c t, Blk a2 (.cells #[bv ak.what, wv ak.h, wv ak.v, wv ak.m, .int .i64 ak.wait] 37 (0, 0)), Blk a1 (.cells #[bv ak.what, wv ak.h, wv ak.v, wv ak.m, .int .i64 ak.wait] 37 (0, 0)), IM tb (m : Int) (.slice (some ⟨g, 0, none⟩) d.length p) (.slice (some ⟨g', 0, none⟩) c.length p'), OwnTN g' p' c, OwnT g p d, IM xb (m : Int) (.slice ad d.length dc) (.slice ac c.length cc)]) := Lib.hid K
        clear K Hb
        go_wp2_with fail
        refine (rat_of (Hc.out.pull 1 rfl)).mono ?_; rintro e wd ⟨rfl, K⟩
        have Hd : Hid (Hp w wd [DR db c t, CR cb c t, Blk a2 (.cells #[bv ak.what, wv ak.h, wv ak.v, wv ak.m, .int .i64 ak.wait] 37 (0, 0)), Blk a1 (.cells #[bv ak.what, wv ak.h, wv ak.v, wv ak.m, .int .i64 ak.wait] 37 (0, 0)), IM tb (m : Int) (.slice (some ⟨g, 0, none⟩) d.length p) (.slice (some ⟨g', 0, none⟩) c.length p'), OwnTN g' p' c, OwnT g p d, IM xb (m : Int) (.slice ad d.length dc) (.slice ac c.length cc)]) := Lib.hid K
        clear K Hc
        go_wp2_with fail
        refine (console_of (Hd.out.pull 1 rfl)).mono ?_; rintro e we ⟨rfl, K⟩
        have He : Hid (Hp w we [CR cb c t, DR db c t, Blk a2 (.cells #[bv ak.what, wv ak.h, wv ak.v, wv ak.m, .int .i64 ak.wait] 37 (0, 0)), Blk a1 (.cells #[bv ak.what, wv ak.h, wv ak.v, wv ak.m, .int .i64 ak.wait] 37 (0, 0)), IM tb (m : Int) (.slice (some ⟨g, 0, none⟩) d.length p) (.slice (some ⟨g', 0, none⟩) c.length p'), OwnTN g' p' c, OwnT g p d, IM xb (m : Int) (.slice ad d.length dc) (.slice ac c.length cc)]) := Lib.hid K
        clear K Hd
        go_wp2_with fail
        refine (rconsole_of (He.out.pull 1 rfl)).mono ?_; rintro e wf ⟨rfl, K⟩
        have Hf : Hid (Hp w wf [DR db c t, CR cb c t, Blk a2 (.cells #[bv ak.what, wv ak.h, wv ak.v, wv ak.m, .int .i64 ak.wait] 37 (0, 0)), Blk a1 (.cells #[bv ak.what, wv ak.h, wv ak.v, wv ak.m, .int .i64 ak.wait] 37 (0, 0)), IM tb (m : Int) (.slice (some ⟨g, 0, none⟩) d.length p) (.slice (some ⟨g', 0, none⟩) c.length p'), OwnTN g' p' c, OwnT g p d, IM xb (m : Int) (.slice ad d.length dc) (.slice ac c.length cc)]) := Lib.hid K
        clear K He
        go_wp2
        go_roundw
        case rel => exact ⟨i + 1, k, t, by have := HLT.out.1; omega, rfl, HKI.out, by go_num, HS, Lib.hid ((((Hf.out.pull 2 rfl).tail).pull 2 rfl).tail)⟩
        case measure => have := HLT.out.1; simp [intOf]; omega
      | true =>
        rw [hta] at z12
        by_cases hkl : k < rs.length
        · have j1 : (k : Int) < (rs.length : Int) := by omega
          by_cases hpar : i % 2 = 1
          · have j2 : (i : Int).tmod 2 = 1 := by rw [Int.tmod_eq_emod_of_nonneg (by omega)]; omega
            obtain ⟨rg, ro, rfl, e0, e1⟩ := reps_cell H10.out HR.out k hkl
            have RC := Lib.hid (fun (W : World) (r : List Thing) (H : Hp w W r) => reps_cell H HR.out k hkl)
            generalize rs[k].1 = re at *
            generalize rs[k].2 = rv at *
            go_upto_region 20 with fail
            clear z12 e0 e1
            have HKI : Hid (k + 1 ≤ i + 1) := Lib.hid (by have := HLT.out.2; omega)
            refine wp_region_Tn 25 24 (fun W => W.cell? ⟨rg, ro + k * 2, none⟩ = some (.int .i64 re) ∧ W.cell? ⟨rg, ro + k * 2 + 1, none⟩ = some (wv rv)) (by as_aux_lemma => kernel_rfl) (by rfl) ?_
            have hSS : (fun (W : World) => W.cell? ⟨rg, ro + k * 2, none⟩ = some (.int .i64 re) ∧ W.cell? ⟨rg, ro + k * 2 + 1, none⟩ = some (wv rv)) w11.drew := (fun ⟨_, _, q1, q2, q3⟩ => by cases q1; exact ⟨q2, q3⟩) (RC.out _ _ H10.out.drew)
            iterate 11
              refine wpT_sq 25 (by as_aux_lemma => kernel_rfl) (by intro c a d v w h; cases d <;> exact h) hSS (fun oi hoi => ?_)
              simp only [Nat.reduceAdd, Nat.reduceSub, List.getElem?_toArray, List.getElem?_cons_zero, List.getElem?_cons_succ, Option.some.injEq] at hoi
              subst hoi
              refine ⟨?_, by rfl, fun wx hSx => ?_, ?_⟩
              rotate_left
              · obtain ⟨s0, s1⟩ := hSx
                go_simp
                try with_reducible rfl
              try simp only [Nat.reduceAdd, Nat.reduceSub, Act.put, List.setIfInBounds_toArray, List.set_cons_zero, List.set_cons_succ]
            refine wpT_tk (i := 12) (by as_aux_lemma => kernel_rfl) (by intro c a d v w h; cases d <;> exact h) hSS (fun oi hoi => ?_)
            simp only [List.getElem?_toArray, List.getElem?_cons_zero, List.getElem?_cons_succ, Option.some.injEq] at hoi; subst hoi
            refine ⟨?_, by rfl, fun wx hSx => ?_, ?_⟩
            rotate_left
            · obtain ⟨s0, s1⟩ := hSx
              go_simp
              try with_reducible rfl
            try simp only [Act.put, List.setIfInBounds_toArray, List.set_cons_zero, List.set_cons_succ]
            refine wpT_tk (i := 13) (by as_aux_lemma => kernel_rfl) (by intro c a d v w h; cases d <;> exact h) hSS (fun oi hoi => ?_)
            simp only [List.getElem?_toArray, List.getElem?_cons_zero, List.getElem?_cons_succ, Option.some.injEq] at hoi; subst hoi
            refine ⟨?_, by rfl, fun wx hSx => ?_, ?_⟩
            rotate_left
            · obtain ⟨s0, s1⟩ := hSx
              go_simp
              try with_reducible rfl
            try simp only [Act.put, List.setIfInBounds_toArray, List.set_cons_zero, List.set_cons_succ]
            refine wpT_tk (i := 14) (by as_aux_lemma => kernel_rfl) (by intro c a d v w h; cases d <;> exact h) hSS (fun oi hoi => ?_)
            simp only [List.getElem?_toArray, List.getElem?_cons_zero, List.getElem?_cons_succ, Option.some.injEq] at hoi; subst hoi
            refine ⟨?_, by rfl, fun wx hSx => ?_, ?_⟩
            rotate_left
            · obtain ⟨s0, s1⟩ := hSx
              go_simp
              try with_reducible rfl
            try simp only [Act.put, List.setIfInBounds_toArray, List.set_cons_zero, List.set_cons_succ]
            refine wpT_tk (i := 15) (by as_aux_lemma => kernel_rfl) (by intro c a d v w h; cases d <;> exact h) hSS (fun oi hoi => ?_)
            simp only [List.getElem?_toArray, List.getElem?_cons_zero, List.getElem?_cons_succ, Option.some.injEq] at hoi; subst hoi
            refine ⟨?_, by rfl, fun wx hSx => ?_, ?_⟩
            rotate_left
            · obtain ⟨s0, s1⟩ := hSx
              go_simp
              try with_reducible rfl
            try simp only [Act.put, List.setIfInBounds_toArray, List.set_cons_zero, List.set_cons_succ]
            refine wpT_tk (i := 16) (by as_aux_lemma => kernel_rfl) (by intro c a d v w h; cases d <;> exact h) hSS (fun oi hoi => ?_)
            simp only [List.getElem?_toArray, List.getElem?_cons_zero, List.getElem?_cons_succ, Option.some.injEq] at hoi; subst hoi
            refine ⟨?_, by rfl, fun wx hSx => ?_, ?_⟩
            rotate_left
            · obtain ⟨s0, s1⟩ := hSx
              go_simp
              try with_reducible rfl
            try simp only [Act.put, List.setIfInBounds_toArray, List.set_cons_zero, List.set_cons_succ]
            refine wpT_tk (i := 17) (by as_aux_lemma => kernel_rfl) (by intro c a d v w h; cases d <;> exact h) hSS (fun oi hoi => ?_)
            simp only [List.getElem?_toArray, List.getElem?_cons_zero, List.getElem?_cons_succ, Option.some.injEq] at hoi; subst hoi
            refine ⟨?_, by rfl, fun wx hSx => ?_, ?_⟩
            rotate_left
            · obtain ⟨s0, s1⟩ := hSx
              go_simp
              try with_reducible rfl
            try simp only [Act.put, List.setIfInBounds_toArray, List.set_cons_zero, List.set_cons_succ]
            refine wpT_tk (i := 18) (by as_aux_lemma => kernel_rfl) (by intro c a d v w h; cases d <;> exact h) hSS (fun oi hoi => ?_)
            simp only [List.getElem?_toArray, List.getElem?_cons_zero, List.getElem?_cons_succ, Option.some.injEq] at hoi; subst hoi
            refine ⟨?_, by rfl, fun wx hSx => ?_, ?_⟩
            rotate_left
            · obtain ⟨s0, s1⟩ := hSx
              go_simp
              try with_reducible rfl
            try simp only [Act.put, List.setIfInBounds_toArray, List.set_cons_zero, List.set_cons_succ]
            refine wpT_tk (i := 19) (by as_aux_lemma => kernel_rfl) (by intro c a d v w h; cases d <;> exact h) hSS (fun oi hoi => ?_)
            simp only [List.getElem?_toArray, List.getElem?_cons_zero, List.getElem?_cons_succ, Option.some.injEq] at hoi; subst hoi
            refine ⟨?_, by rfl, fun wx hSx => ?_, ?_⟩
            rotate_left
            · obtain ⟨s0, s1⟩ := hSx
              go_simp
              try with_reducible rfl
            try simp only [Act.put, List.setIfInBounds_toArray, List.set_cons_zero, List.set_cons_succ]
            refine wpT_tk (i := 20) (by as_aux_lemma => kernel_rfl) (by intro c a d v w h; cases d <;> exact h) hSS (fun oi hoi => ?_)
            simp only [List.getElem?_toArray, List.getElem?_cons_zero, List.getElem?_cons_succ, Option.some.injEq] at hoi; subst hoi
            refine ⟨?_, by rfl, fun wx hSx => ?_, ?_⟩
            rotate_left
            · obtain ⟨s0, s1⟩ := hSx
              go_simp
              try with_reducible rfl
            try simp only [Act.put, List.setIfInBounds_toArray, List.set_cons_zero, List.set_cons_succ]
            refine wpT_tk (i := 21) (by as_aux_lemma => kernel_rfl) (by intro c a d v w h; cases d <;> exact h) hSS (fun oi hoi => ?_)
            simp only [List.getElem?_toArray, List.getElem?_cons_zero, List.getElem?_cons_succ, Option.some.injEq] at hoi; subst hoi
            refine ⟨?_, by rfl, fun wx hSx => ?_, ?_⟩
            rotate_left
            · obtain ⟨s0, s1⟩ := hSx
              go_simp
              try with_reducible rfl
            try simp only [Act.put, List.setIfInBounds_toArray, List.set_cons_zero, List.set_cons_succ]
            refine wpT_tk (i := 22) (by as_aux_lemma => kernel_rfl) (by intro c a d v w h; cases d <;> exact h) hSS (fun oi hoi => ?_)
            simp only [List.getElem?_toArray, List.getElem?_cons_zero, List.getElem?_cons_succ, Option.some.injEq] at hoi; subst hoi
            refine ⟨?_, by rfl, fun wx hSx => ?_, ?_⟩
            rotate_left
            · obtain ⟨s0, s1⟩ := hSx
              go_simp
              try with_reducible rfl
            try simp only [Act.put, List.setIfInBounds_toArray, List.set_cons_zero, List.set_cons_succ]
            refine wpT_one (i := 11) (by as_aux_lemma => kernel_rfl) ?_
            intro oi hoi K hK
            simp only [List.getElem?_toArray, List.getElem?_cons_zero, List.getElem?_cons_succ, Option.some.injEq] at hoi; subst hoi
            go_simp
            go_at_call 20
            refine (answer_y hta re rv (H10.out.drew.pull 3 rfl)).mono ?_; rintro e w12 ⟨rfl, K⟩
            have hS2 : (fun (W : World) => W.cell? ⟨rg, ro + k * 2, none⟩ = some (.int .i64 re) ∧ W.cell? ⟨rg, ro + k * 2 + 1, none⟩ = some (wv rv)) w12 := (fun ⟨_, _, q1, q2, q3⟩ => by cases q1; exact ⟨q2, q3⟩) (RC.out _ _ K)
            have H12 : Hid (Hp w w12 [CR cb c (answC t re rv).1, Blk a2 (.cells #[bv ak.what, wv ak.h, wv ak.v, wv ak.m, .int .i64 ak.wait] 37 (0, 0)), DR db c t, Blk a1 (.cells #[bv ak.what, wv ak.h, wv ak.v, wv ak.m, .int .i64 ak.wait] 37 (0, 0)), IM tb (m : Int) (.slice (some ⟨g, 0, none⟩) d.length p) (.slice (some ⟨g', 0, none⟩) c.length p'), OwnTN g' p' c, OwnT g p d, IM xb (m : Int) (.slice ad d.length dc) (.slice ac c.length cc)]) := Lib.hid K
            refine hK.out _ _ (fun _ => hS2) ?_
            clear K hSS H10
            have hSS := hS2
            clear hK K
            try simp only [Act.put, List.setIfInBounds_toArray, List.set_cons_zero, List.set_cons_succ]
            refine wpT_one (i := 23) (by as_aux_lemma => kernel_rfl) ?_
            intro oi hoi K hK
            simp only [List.getElem?_toArray, List.getElem?_cons_zero, List.getElem?_cons_succ, Option.some.injEq] at hoi; subst hoi
            go_simp
            go_at_call 21
            refine (ranswer_y hta re rv (H12.out.pull 2 rfl)).mono ?_; rintro e w13 ⟨rfl, K4⟩
            have hS3 : (fun (W : World) => W.cell? ⟨rg, ro + k * 2, none⟩ = some (.int .i64 re) ∧ W.cell? ⟨rg, ro + k * 2 + 1, none⟩ = some (wv rv)) w13 := (fun ⟨_, _, q1, q2, q3⟩ => by cases q1; exact ⟨q2, q3⟩) (RC.out _ _ K4)
            refine hK.out _ _ (fun _ => hS3) ?_
            clear hK K
            try simp only [Act.put, List.setIfInBounds_toArray, List.set_cons_zero, List.set_cons_succ]
            refine wpT_one (i := 24) (by as_aux_lemma => kernel_rfl) ?_
            intro oi hoi K hK
            simp only [List.getElem?_toArray, List.getElem?_cons_zero, List.getElem?_cons_succ, Option.some.injEq] at hoi; subst hoi
            go_simp
            refine hK.out _ _ (fun h => absurd h (by decide)) ?_
            clear hK K
            try simp only [Act.put, List.setIfInBounds_toArray, List.set_cons_zero, List.set_cons_succ]
            refine wpT_done (by as_aux_lemma => kernel_rfl) ?_ _
            clear hSS hS2 hS3 RC H12
            go_upto_region 23 with fail
            have Hx : Hid (Hp w w13 [Blk a2 (.cells #[bv ak.what, wv ak.h, wv ak.v, wv ak.m, .int .i64 ak.wait] 37 (0, 0)), DR db c (answC t re rv).1, Blk a1 (.cells #[bv ak.what, wv ak.h, wv ak.v, wv ak.m, .int .i64 ak.wait] 37 (0, 0)), CR cb c (answC t re rv).1, IM tb (m : Int) (.slice (some ⟨g, 0, none⟩) d.length p) (.slice (some ⟨g', 0, none⟩) c.length p'), OwnTN g' p' c, OwnT g p d, IM xb (m : Int) (.slice ad d.length dc) (.slice ac c.length cc)]) := Lib.hid ((((K4.pull 1 rfl).pull 3 rfl).pull 2 rfl).pull 3 rfl)
            clear K4
            have hT : Hid (Hp w w13 [Blk a2 (.cells #[bv ak.what, wv ak.h, wv ak.v, wv ak.m, .int .i64 ak.wait] 37 (0, 0)), DR db c (answC t re rv).1, Blk a1 (.cells #[bv ak.what, wv ak.h, wv ak.v, wv ak.m, .int .i64 ak.wait] 37 (0, 0)), CR cb c (answC t re rv).1, IM tb (m : Int) (.slice (some ⟨g, 0, none⟩) d.length p) (.slice (some ⟨g', 0, none⟩) c.length p'), OwnTN g' p' c, OwnT g p d, IM xb (m : Int) (.slice ad d.length dc) (.slice ac c.length cc)]) := Hx
            clear Hx
            have HS2 : Hid ((answC t re rv).1.says.length ≤ i + 1) := Lib.hid (by rw [answC_says]; exact HS.out)
            clear HS
            have HS := HS2
            clear HS2 hta
            generalize (answC t re rv).1 = t at *
            obtain ⟨u0, u1, u2, u3, u4, u5, u6, u7, hr⟩ := eight ((fun ⟨_, _, hl, _, _⟩ => hl) (dr_open (hT.out.pull 1 rfl)))
            have HRR := Lib.hid hr
            clear hr
            have her := eq_regsN
            have hes := str_same
            go_wp2_with fail
            refine (regs_of u0 u1 u2 u3 u4 u5 u6 u7 HRR.out (hT.out.pull 3 rfl)).mono ?_; intro e wa hp
            rw [HRR.out] at hp
            obtain ⟨rfl, K⟩ : e = .returned (.agg #[wv u0, wv u1, wv u2, wv u3, wv u4, wv u5, wv u6, wv u7]) ∧ _ := hp
            have Ha : Hid (Hp w wa [CR cb c t, Blk a2 (.cells #[bv ak.what, wv ak.h, wv ak.v, wv ak.m, .int .i64 ak.wait] 37 (0, 0)), DR db c t, Blk a1 (.cells #[bv ak.what, wv ak.h, wv ak.v, wv ak.m, .int .i64 ak.wait] 37 (0, 0)), IM tb (m : Int) (.slice (some ⟨g, 0, none⟩) d.length p) (.slice (some ⟨g', 0, none⟩) c.length p'), OwnTN g' p' c, OwnT g p d, IM xb (m : Int) (.slice ad d.length dc) (.slice ac c.length cc)]) := Lib.hid K
            clear K hT
            go_wp2_with fail
            refine (rregs_of u0 u1 u2 u3 u4 u5 u6 u7 HRR.out (Ha.out.pull 2 rfl)).mono ?_; rintro e wb ⟨rfl, K⟩
            have Hb : Hid (Hp w wb [DR db c t, CR cb c t, Blk a2 (.cells #[bv ak.what, wv ak.h, wv ak.v, wv ak.m, .int .i64 ak.wait] 37 (0, 0)), Blk a1 (.cells #[bv ak.what, wv ak.h, wv ak.v, wv ak.m, .int .i64 ak.wait] 37 (0, 0)), IM tb (m : Int) (.slice (some ⟨g, 0, none⟩) d.length p) (.slice (some ⟨g', 0, none⟩) c.length p'), OwnTN g' p' c, OwnT g p d, IM xb (m : Int) (.slice ad d.length dc) (.slice ac c.length cc)]) := Lib.hid K
            clear K Ha
            go_wp2_with fail
            refine (at_of (Hb.out.pull 1 rfl)).mono ?_; rintro e wc ⟨rfl, K⟩
            have Hc : Hid (Hp w wc [CR cb c t, DR db c t, Blk a2 (.cells #[bv ak.what, wv ak.h, wv ak.v, wv ak.m, .int .i64 ak.wait] 37 (0, 0)), Blk a1 (.cells #[bv ak.what, wv ak.h, wv ak.v, wv ak.m, .int .i64 ak.wait] 37 (0, 0)), IM tb (m : Int) (.slice (some ⟨g, 0, none⟩) d.length p) (.slice (some ⟨g', 0, none⟩) c.length p'), OwnTN g' p' c, OwnT g p d, IM xb (m : Int) (.slice ad d.length dc) (.slice ac c.length cc)]) := Lib.hid K
            clear K Hb
            go_wp2_with fail
            refine (rat_of (Hc.out.pull 1 rfl)).mono ?_; rintro e wd ⟨rfl, K⟩
            have Hd : Hid (Hp w wd [DR db c t, CR cb c t, Blk a2 (.cells #[bv ak.what, wv ak.h, wv ak.v, wv ak.m, .int .i64 ak.wait] 37 (0, 0)), Blk a1 (.cells #[bv ak.what, wv ak.h, wv ak.v, wv ak.m, .int .i64 ak.wait] 37 (0, 0)), IM tb (m : Int) (.slice (some ⟨g, 0, none⟩) d.length p) (.slice (some ⟨g', 0, none⟩) c.length p'), OwnTN g' p' c, OwnT g p d, IM xb (m : Int) (.slice ad d.length dc) (.slice ac c.length cc)]) := Lib.hid K
            clear K Hc
            go_wp2_with fail
            refine (console_of (Hd.out.pull 1 rfl)).mono ?_; rintro e we ⟨rfl, K⟩
            have He : Hid (Hp w we [CR cb c t, DR db c t, Blk a2 (.cells #[bv ak.what, wv ak.h, wv ak.v, wv ak.m, .int .i64 ak.wait] 37 (0, 0)), Blk a1 (.cells #[bv ak.what, wv ak.h, wv ak.v, wv ak.m, .int .i64 ak.wait] 37 (0, 0)), IM tb (m : Int) (.slice (some ⟨g, 0, none⟩) d.length p) (.slice (some ⟨g', 0, none⟩) c.length p'), OwnTN g' p' c, OwnT g p d, IM xb (m : Int) (.slice ad d.length dc) (.slice ac c.length cc)]) := Lib.hid K
            clear K Hd
            go_wp2_with fail
            refine (rconsole_of (He.out.pull 1 rfl)).mono ?_; rintro e wf ⟨rfl, K⟩
            have Hf : Hid (Hp w wf [DR db c t, CR cb c t, Blk a2 (.cells #[bv ak.what, wv ak.h, wv ak.v, wv ak.m, .int .i64 ak.wait] 37 (0, 0)), Blk a1 (.cells #[bv ak.what, wv ak.h, wv ak.v, wv ak.m, .int .i64 ak.wait] 37 (0, 0)), IM tb (m : Int) (.slice (some ⟨g, 0, none⟩) d.length p) (.slice (some ⟨g', 0, none⟩) c.length p'), OwnTN g' p' c, OwnT g p d, IM xb (m : Int) (.slice ad d.length dc) (.slice ac c.length cc)]) := Lib.hid K
            clear K He
            go_wp2
            go_roundw
            case rel => exact ⟨i + 1, k + 1, t, by have := HLT.out.1; omega, by go_num, HKI.out, by go_num, HS, Lib.hid ((((Hf.out.pull 2 rfl).tail).pull 2 rfl).tail)⟩
            case measure => have := HLT.out.1; simp [intOf]; omega
          · have j2 : ¬ (i : Int).tmod 2 = 1 := by rw [Int.tmod_eq_emod_of_nonneg (by omega)]; omega
            go_upto_region 23 with fail
            clear z12
            have HKI : Hid (k ≤ i + 1) := Lib.hid (by have := HLT.out.2; omega)
            have hT : Hid (Hp w w11 [Blk a2 (.cells #[bv ak.what, wv ak.h, wv ak.v, wv ak.m, .int .i64 ak.wait] 37 (0, 0)), DR db c t, Blk a1 (.cells #[bv ak.what, wv ak.h, wv ak.v, wv ak.m, .int .i64 ak.wait] 37 (0, 0)), CR cb c t, IM tb (m : Int) (.slice (some ⟨g, 0, none⟩) d.length p) (.slice (some ⟨g', 0, none⟩) c.length p'), OwnTN g' p' c, OwnT g p d, IM xb (m : Int) (.slice ad d.length dc) (.slice ac c.length cc)]) := H10
            clear H10
            obtain ⟨u0, u1, u2, u3, u4, u5, u6, u7, hr⟩ := eight ((fun ⟨_, _, hl, _, _⟩ => hl) (dr_open (hT.out.pull 1 rfl)))
            have HRR := Lib.hid hr
            clear hr
            have her := eq_regsN
            have hes := str_same
            go_wp2_with fail
            refine (regs_of u0 u1 u2 u3 u4 u5 u6 u7 HRR.out (hT.out.pull 3 rfl)).mono ?_; intro e wa hp
            rw [HRR.out] at hp
            obtain ⟨rfl, K⟩ : e = .returned (.agg #[wv u0, wv u1, wv u2, wv u3, wv u4, wv u5, wv u6, wv u7]) ∧ _ := hp
            have Ha : Hid (Hp w wa [CR cb c t, Blk a2 (.cells #[bv ak.what, wv ak.h, wv ak.v, wv ak.m, .int .i64 ak.wait] 37 (0, 0)), DR db c t, Blk a1 (.cells #[bv ak.what, wv ak.h, wv ak.v, wv ak.m, .int .i64 ak.wait] 37 (0, 0)), IM tb (m : Int) (.slice (some ⟨g, 0, none⟩) d.length p) (.slice (some ⟨g', 0, none⟩) c.length p'), OwnTN g' p' c, OwnT g p d, IM xb (m : Int) (.slice ad d.length dc) (.slice ac c.length cc)]) := Lib.hid K
            clear K hT
            go_wp2_with fail
            refine (rregs_of u0 u1 u2 u3 u4 u5 u6 u7 HRR.out (Ha.out.pull 2 rfl)).mono ?_; rintro e wb ⟨rfl, K⟩
            have Hb : Hid (Hp w wb [DR db c t, CR cb c t, Blk a2 (.cells #[bv ak.what, wv ak.h, wv ak.v, wv ak.m, .int .i64 ak.wait] 37 (0, 0)), Blk a1 (.cells #[bv ak.what, wv ak.h, wv ak.v, wv ak.m, .int .i64 ak.wait] 37 (0, 0)), IM tb (m : Int) (.slice (some ⟨g, 0, none⟩) d.length p) (.slice (some ⟨g', 0, none⟩) c.length p'), OwnTN g' p' c, OwnT g p d, IM xb (m : Int) (.slice ad d.length dc) (.slice ac c.length cc)]) := Lib.hid K
            clear K Ha
            go_wp2_with fail
            refine (at_of (Hb.out.pull 1 rfl)).mono ?_; rintro e wc ⟨rfl, K⟩
            have Hc : Hid (Hp w wc [CR cb c t, DR db c t, Blk a2 (.cells #[bv ak.what, wv ak.h, wv ak.v, wv ak.m, .int .i64 ak.wait] 37 (0, 0)), Blk a1 (.cells #[bv ak.what, wv ak.h, wv ak.v, wv ak.m, .int .i64 ak.wait] 37 (0, 0)), IM tb (m : Int) (.slice (some ⟨g, 0, none⟩) d.length p) (.slice (some ⟨g', 0, none⟩) c.length p'), OwnTN g' p' c, OwnT g p d, IM xb (m : Int) (.slice ad d.length dc) (.slice ac c.length cc)]) := Lib.hid K
            clear K Hb
            go_wp2_with fail
            refine (rat_of (Hc.out.pull 1 rfl)).mono ?_; rintro e wd ⟨rfl, K⟩
            have Hd : Hid (Hp w wd [DR db c t, CR cb c t, Blk a2 (.cells #[bv ak.what, wv ak.h, wv ak.v, wv ak.m, .int .i64 ak.wait] 37 (0, 0)), Blk a1 (.cells #[bv ak.what, wv ak.h, wv ak.v, wv ak.m, .int .i64 ak.wait] 37 (0, 0)), IM tb (m : Int) (.slice (some ⟨g, 0, none⟩) d.length p) (.slice (some ⟨g', 0, none⟩) c.length p'), OwnTN g' p' c, OwnT g p d, IM xb (m : Int) (.slice ad d.length dc) (.slice ac c.length cc)]) := Lib.hid K
            clear K Hc
            go_wp2_with fail
            refine (console_of (Hd.out.pull 1 rfl)).mono ?_; rintro e we ⟨rfl, K⟩
            have He : Hid (Hp w we [CR cb c t, DR db c t, Blk a2 (.cells #[bv ak.what, wv ak.h, wv ak.v, wv ak.m, .int .i64 ak.wait] 37 (0, 0)), Blk a1 (.cells #[bv ak.what, wv ak.h, wv ak.v, wv ak.m, .int .i64 ak.wait] 37 (0, 0)), IM tb (m : Int) (.slice (some ⟨g, 0, none⟩) d.length p) (.slice (some ⟨g', 0, none⟩) c.length p'), OwnTN g' p' c, OwnT g p d, IM xb (m : Int) (.slice ad d.length dc) (.slice ac c.length cc)]) := Lib.hid K
            clear K Hd
            go_wp2_with fail
            refine (rconsole_of (He.out.pull 1 rfl)).mono ?_; rintro e wf ⟨rfl, K⟩
            have Hf : Hid (Hp w wf [DR db c t, CR cb c t, Blk a2 (.cells #[bv ak.what, wv ak.h, wv ak.v, wv ak.m, .int .i64 ak.wait] 37 (0, 0)), Blk a1 (.cells #[bv ak.what, wv ak.h, wv ak.v, wv ak.m, .int .i64 ak.wait] 37 (0, 0)), IM tb (m : Int) (.slice (some ⟨g, 0, none⟩) d.length p) (.slice (some ⟨g', 0, none⟩) c.length p'), OwnTN g' p' c, OwnT g p d, IM xb (m : Int) (.slice ad d.length dc) (.slice ac c.length cc)]) := Lib.hid K
            clear K He
            go_wp2
            go_roundw
            case rel => exact ⟨i + 1, k, t, by have := HLT.out.1; omega, rfl, HKI.out, by go_num, HS, Lib.hid ((((Hf.out.pull 2 rfl).tail).pull 2 rfl).tail)⟩
            case measure => have := HLT.out.1; simp [intOf]; omega
        · have j1 : ¬ (k : Int) < (rs.length : Int) := by omega
          go_upto_region 23 with fail
          clear z12
          have HKI : Hid (k ≤ i + 1) := Lib.hid (by have := HLT.out.2; omega)
          have hT : Hid (Hp w w11 [Blk a2 (.cells #[bv ak.what, wv ak.h, wv ak.v, wv ak.m, .int .i64 ak.wait] 37 (0, 0)), DR db c t, Blk a1 (.cells #[bv ak.what, wv ak.h, wv ak.v, wv ak.m, .int .i64 ak.wait] 37 (0, 0)), CR cb c t, IM tb (m : Int) (.slice (some ⟨g, 0, none⟩) d.length p) (.slice (some ⟨g', 0, none⟩) c.length p'), OwnTN g' p' c, OwnT g p d, IM xb (m : Int) (.slice ad d.length dc) (.slice ac c.length cc)]) := H10
          clear H10
          obtain ⟨u0, u1, u2, u3, u4, u5, u6, u7, hr⟩ := eight ((fun ⟨_, _, hl, _, _⟩ => hl) (dr_open (hT.out.pull 1 rfl)))
          have HRR := Lib.hid hr
          clear hr
          have her := eq_regsN
          have hes := str_same
          go_wp2_with fail
          refine (regs_of u0 u1 u2 u3 u4 u5 u6 u7 HRR.out (hT.out.pull 3 rfl)).mono ?_; intro e wa hp
          rw [HRR.out] at hp
          obtain ⟨rfl, K⟩ : e = .returned (.agg #[wv u0, wv u1, wv u2, wv u3, wv u4, wv u5, wv u6, wv u7]) ∧ _ := hp
          have Ha : Hid (Hp w wa [CR cb c t, Blk a2 (.cells #[bv ak.what, wv ak.h, wv ak.v, wv ak.m, .int .i64 ak.wait] 37 (0, 0)), DR db c t, Blk a1 (.cells #[bv ak.what, wv ak.h, wv ak.v, wv ak.m, .int .i64 ak.wait] 37 (0, 0)), IM tb (m : Int) (.slice (some ⟨g, 0, none⟩) d.length p) (.slice (some ⟨g', 0, none⟩) c.length p'), OwnTN g' p' c, OwnT g p d, IM xb (m : Int) (.slice ad d.length dc) (.slice ac c.length cc)]) := Lib.hid K
          clear K hT
          go_wp2_with fail
          refine (rregs_of u0 u1 u2 u3 u4 u5 u6 u7 HRR.out (Ha.out.pull 2 rfl)).mono ?_; rintro e wb ⟨rfl, K⟩
          have Hb : Hid (Hp w wb [DR db c t, CR cb c t, Blk a2 (.cells #[bv ak.what, wv ak.h, wv ak.v, wv ak.m, .int .i64 ak.wait] 37 (0, 0)), Blk a1 (.cells #[bv ak.what, wv ak.h, wv ak.v, wv ak.m, .int .i64 ak.wait] 37 (0, 0)), IM tb (m : Int) (.slice (some ⟨g, 0, none⟩) d.length p) (.slice (some ⟨g', 0, none⟩) c.length p'), OwnTN g' p' c, OwnT g p d, IM xb (m : Int) (.slice ad d.length dc) (.slice ac c.length cc)]) := Lib.hid K
          clear K Ha
          go_wp2_with fail
          refine (at_of (Hb.out.pull 1 rfl)).mono ?_; rintro e wc ⟨rfl, K⟩
          have Hc : Hid (Hp w wc [CR cb c t, DR db c t, Blk a2 (.cells #[bv ak.what, wv ak.h, wv ak.v, wv ak.m, .int .i64 ak.wait] 37 (0, 0)), Blk a1 (.cells #[bv ak.what, wv ak.h, wv ak.v, wv ak.m, .int .i64 ak.wait] 37 (0, 0)), IM tb (m : Int) (.slice (some ⟨g, 0, none⟩) d.length p) (.slice (some ⟨g', 0, none⟩) c.length p'), OwnTN g' p' c, OwnT g p d, IM xb (m : Int) (.slice ad d.length dc) (.slice ac c.length cc)]) := Lib.hid K
          clear K Hb
          go_wp2_with fail
          refine (rat_of (Hc.out.pull 1 rfl)).mono ?_; rintro e wd ⟨rfl, K⟩
          have Hd : Hid (Hp w wd [DR db c t, CR cb c t, Blk a2 (.cells #[bv ak.what, wv ak.h, wv ak.v, wv ak.m, .int .i64 ak.wait] 37 (0, 0)), Blk a1 (.cells #[bv ak.what, wv ak.h, wv ak.v, wv ak.m, .int .i64 ak.wait] 37 (0, 0)), IM tb (m : Int) (.slice (some ⟨g, 0, none⟩) d.length p) (.slice (some ⟨g', 0, none⟩) c.length p'), OwnTN g' p' c, OwnT g p d, IM xb (m : Int) (.slice ad d.length dc) (.slice ac c.length cc)]) := Lib.hid K
          clear K Hc
          go_wp2_with fail
          refine (console_of (Hd.out.pull 1 rfl)).mono ?_; rintro e we ⟨rfl, K⟩
          have He : Hid (Hp w we [CR cb c t, DR db c t, Blk a2 (.cells #[bv ak.what, wv ak.h, wv ak.v, wv ak.m, .int .i64 ak.wait] 37 (0, 0)), Blk a1 (.cells #[bv ak.what, wv ak.h, wv ak.v, wv ak.m, .int .i64 ak.wait] 37 (0, 0)), IM tb (m : Int) (.slice (some ⟨g, 0, none⟩) d.length p) (.slice (some ⟨g', 0, none⟩) c.length p'), OwnTN g' p' c, OwnT g p d, IM xb (m : Int) (.slice ad d.length dc) (.slice ac c.length cc)]) := Lib.hid K
          clear K Hd
          go_wp2_with fail
          refine (rconsole_of (He.out.pull 1 rfl)).mono ?_; rintro e wf ⟨rfl, K⟩
          have Hf : Hid (Hp w wf [DR db c t, CR cb c t, Blk a2 (.cells #[bv ak.what, wv ak.h, wv ak.v, wv ak.m, .int .i64 ak.wait] 37 (0, 0)), Blk a1 (.cells #[bv ak.what, wv ak.h, wv ak.v, wv ak.m, .int .i64 ak.wait] 37 (0, 0)), IM tb (m : Int) (.slice (some ⟨g, 0, none⟩) d.length p) (.slice (some ⟨g', 0, none⟩) c.length p'), OwnTN g' p' c, OwnT g p d, IM xb (m : Int) (.slice ad d.length dc) (.slice ac c.length cc)]) := Lib.hid K
          clear K He
          go_wp2
          go_roundw
          case rel => exact ⟨i + 1, k, t, by have := HLT.out.1; omega, rfl, HKI.out, by go_num, HS, Lib.hid ((((Hf.out.pull 2 rfl).tail).pull 2 rfl).tail)⟩
          case measure => have := HLT.out.1; simp [intOf]; omega
    · have t1 : ¬ (i : Int) < (x.toNat : Int) := by omega
      clear hlt hi hki HI
      have hm : s.mem.length ≤ 4096 := (fun ⟨_, _, _, hm, _⟩ => hm) (dr_open HH.out)
      have HM := Lib.hid hm
      clear hm
      go_wp2_with fail
      refine (bytes_of (HH.out.pull 1 rfl)).mono ?_; rintro e w8 ⟨va, rfl, K⟩
      obtain ⟨aa, na, rfl⟩ := own_slice K
      have H8 : Hid (Hp w w8 [OwnU8 (.slice aa s.mem.length na) s.mem, CR cb c s, DR db c s, IM tb (m : Int) (.slice (some ⟨g, 0, none⟩) d.length p) (.slice (some ⟨g', 0, none⟩) c.length p'), OwnTN g' p' c, OwnT g p d, IM xb (m : Int) (.slice ad d.length dc) (.slice ac c.length cc)]) := Lib.hid K
      clear K HH
      go_wp2_with fail
      refine (rbytes_of (H8.out.pull 2 rfl)).mono ?_; rintro e w9 ⟨vb, rfl, K⟩
      obtain ⟨ab, nb, rfl⟩ := own_slice K
      have H9 : Hid (Hp w w9 [OwnU8 (.slice ab s.mem.length nb) s.mem, DR db c s, OwnU8 (.slice aa s.mem.length na) s.mem, CR cb c s, IM tb (m : Int) (.slice (some ⟨g, 0, none⟩) d.length p) (.slice (some ⟨g', 0, none⟩) c.length p'), OwnTN g' p' c, OwnT g p d, IM xb (m : Int) (.slice ad d.length dc) (.slice ac c.length cc)]) := Lib.hid K
      clear K H8
      have SM := Lib.hid (same_bytes aa ab na nb s.mem s.mem _ (CellsIn.own (H9.out.pull 2 rfl)) (CellsIn.own H9.out) (by have := HM.out; omega) (by have := HM.out; omega))
      rw [show decide (s.mem = s.mem) = true by simp] at SM
      go_wp2_with fail
      refine SM.out.mono ?_; rintro e w10 ⟨rfl, hb⟩
      have H10 : Hid (Hp w w10 [OwnU8 (.slice ab s.mem.length nb) s.mem, DR db c s, OwnU8 (.slice aa s.mem.length na) s.mem, CR cb c s, IM tb (m : Int) (.slice (some ⟨g, 0, none⟩) d.length p) (.slice (some ⟨g', 0, none⟩) c.length p'), OwnTN g' p' c, OwnT g p d, IM xb (m : Int) (.slice ad d.length dc) (.slice ac c.length cc)]) := Lib.hid (H9.out.below_read hb)
      clear hb SM H9
      have A1 : Hid (∀ (W : World) (r : List Thing), Hp w W (CR cb c s :: r) → Calls Tryz.prog 20 #[.pointer (some ⟨cb, 0, none⟩), .int .i64 1, wv 2] W fun e' w' => e' = .returned (.int .i64 (answC s 1 2).2) ∧ Hp w w' (CR cb c (answC s 1 2).1 :: r)) := Lib.hid (fun W r HW => by
        cases ha : s.asked with
        | true => rw [answC_y ha]; have := answer_y ha 1 2 HW; rw [answC_y ha] at this; exact this
        | false => rw [answC_n ha]; exact answer_n ha 1 2 HW)
      have A2 : Hid (∀ (W : World) (r : List Thing), Hp w W (DR db c s :: r) → Calls Tryz.prog 21 #[.pointer (some ⟨db, 0, none⟩), .int .i64 1, wv 2] W fun e' w' => e' = .returned (.int .i64 (answC s 1 2).2) ∧ Hp w w' (DR db c (answC s 1 2).1 :: r)) := Lib.hid (fun W r HW => by
        cases ha : s.asked with
        | true => rw [answC_y ha]; have := ranswer_y ha 1 2 HW; rw [answC_y ha] at this; exact this
        | false => rw [answC_n ha]; exact ranswer_n ha 1 2 HW)
      rw [show wv 2 = .int .u32 2 from rfl] at A1 A2
      generalize (answC s 1 2).2 = er at *
      generalize (answC s 1 2).1 = t at *
      go_wp2_with fail
      refine (A1.out _ _ (H10.out.pull 3 rfl)).mono ?_; rintro e w11 ⟨rfl, K⟩
      have H11 : Hid (Hp w w11 [CR cb c t, OwnU8 (.slice ab s.mem.length nb) s.mem, DR db c s, OwnU8 (.slice aa s.mem.length na) s.mem, IM tb (m : Int) (.slice (some ⟨g, 0, none⟩) d.length p) (.slice (some ⟨g', 0, none⟩) c.length p'), OwnTN g' p' c, OwnT g p d, IM xb (m : Int) (.slice ad d.length dc) (.slice ac c.length cc)]) := Lib.hid K
      clear K A1 H10
      go_wp2_with fail
      refine (A2.out _ _ (H11.out.pull 2 rfl)).mono ?_; rintro e w12 ⟨rfl, K⟩
      have H12 : Hid (Hp w w12 [DR db c t, CR cb c t, OwnU8 (.slice ab s.mem.length nb) s.mem, OwnU8 (.slice aa s.mem.length na) s.mem, IM tb (m : Int) (.slice (some ⟨g, 0, none⟩) d.length p) (.slice (some ⟨g', 0, none⟩) c.length p'), OwnTN g' p' c, OwnT g p d, IM xb (m : Int) (.slice ad d.length dc) (.slice ac c.length cc)]) := Lib.hid K
      clear K A2 H11
      obtain ⟨u0, u1, u2, u3, u4, u5, u6, u7, hr⟩ := eight ((fun ⟨_, _, hl, _, _⟩ => hl) (dr_open H12.out))
      have HRR := Lib.hid hr
      clear hr
      have her := eq_regsN
      go_wp2_with fail
      refine (regs_of u0 u1 u2 u3 u4 u5 u6 u7 HRR.out (H12.out.pull 1 rfl)).mono ?_; intro e w13 hp
      rw [HRR.out] at hp
      obtain ⟨rfl, K⟩ : e = .returned (.agg #[wv u0, wv u1, wv u2, wv u3, wv u4, wv u5, wv u6, wv u7]) ∧ _ := hp
      have H13 : Hid (Hp w w13 [CR cb c t, DR db c t, OwnU8 (.slice ab s.mem.length nb) s.mem, OwnU8 (.slice aa s.mem.length na) s.mem, IM tb (m : Int) (.slice (some ⟨g, 0, none⟩) d.length p) (.slice (some ⟨g', 0, none⟩) c.length p'), OwnTN g' p' c, OwnT g p d, IM xb (m : Int) (.slice ad d.length dc) (.slice ac c.length cc)]) := Lib.hid K
      clear K H12
      go_wp2_with fail
      refine (rregs_of u0 u1 u2 u3 u4 u5 u6 u7 HRR.out (H13.out.pull 1 rfl)).mono ?_; rintro e w14 ⟨rfl, K⟩
      have H14 : Hid (Hp w w14 [OwnU (.slice aa s.mem.length na) s.mem, IM tb (m : Int) (.slice (some ⟨g, 0, none⟩) d.length p) (.slice (some ⟨g', 0, none⟩) c.length p'), OwnTN g' p' c, OwnT g p d, IM xb (m : Int) (.slice ad d.length dc) (.slice ac c.length cc)]) := Lib.hid (K.tail.tail.tail)
      clear K H13
      go_upto_region 29 with fail
      have HB1 := Lib.hid (own_nil (own_nil (blk_new H14.out (.cells (BkB.bk (.slice none 0 0) 0 (.slice none 0 0)) 69)) 136 3) 122 3)
      have HB2 := Lib.hid (HB1.out.pull 2 rfl)
      clear HB1
      have HB3 : Hid (Hp w (w14.alloc (.cells #[.int .i64 0, .slice none 0 0, .slice none 0 0, .slice none 0 0, .slice none 0 0, .slice none 0 0, .slice none 0 0, .slice none 0 0, .slice none 0 0] 69)) (BkB.Bkt (.slice none 0 0) w14.heap.size 0 (.slice none 0 0) :: BkB.Rows_ (.slice none 0 0) [] :: BkI.Rows_ (.slice none 0 0) [] :: [OwnU (.slice aa s.mem.length na) s.mem, IM tb (m : Int) (.slice (some ⟨g, 0, none⟩) d.length p) (.slice (some ⟨g', 0, none⟩) c.length p'), OwnTN g' p' c, OwnT g p d, IM xb (m : Int) (.slice ad d.length dc) (.slice ac c.length cc)])) := HB2
      clear HB2
      obtain ⟨y0, y1, y2⟩ := im_cells (HB3.out.pull 4 rfl)
      generalize (w14.alloc (.cells #[.int .i64 0, .slice none 0 0, .slice none 0 0, .slice none 0 0, .slice none 0 0, .slice none 0 0, .slice none 0 0, .slice none 0 0, .slice none 0 0] 69)) = wb at *
      generalize w14.heap.size = kb at *
      have K1 := Lib.hid (kimage_c (m : Int) (some ⟨g, 0, none⟩) (some ⟨g', 0, none⟩) d.length p c.length p' HB3.out (by omega) (by simp) (by simp))
      go_wp2_with fail
      refine K1.out.mono ?_; rintro ea wk1 ⟨rfl, vb1, vi1, K⟩
      have HB4 := Lib.hid K
      clear K K1 HB3 H14 y0 y1 y2
      have K2 := Lib.hid (BkB.ints_c aa s.mem.length na HB4.out (by omega) (by simp))
      go_wp2_with fail
      refine K2.out.mono ?_; rintro eb wk2 ⟨rfl, vb2, K⟩
      have L1 := u_keepp (K.pull 3 rfl)
      have L3 := u_keepp (ownT_cut (L1.pull 6 rfl))
      have L4 := BkI.ownx_of (ownTN_cut (L3.pull 6 rfl))
      have HX := Lib.hid (((((L4.pull 5 rfl).pull 3 rfl).pull 3 rfl).pull 5 rfl).pull 5 rfl)
      clear K K2 HB4 L1 L3 L4
      have AP := Lib.hid (apart_c (xs := [⟨(.slice (some ⟨g, 0, none⟩) d.length p), d.length, 0 + 1⟩, ⟨(.slice aa s.mem.length na), s.mem.length, 0 + 1 + 1 + 1⟩]) (ys := [⟨(.slice (some ⟨g', 0, none⟩) c.length p'), c.length, 0 + 1 + 1⟩]) HX.out (by have := HL.out; have := HM.out; intro h hh; simp only [List.mem_cons, List.not_mem_nil, or_false] at hh; rcases hh with rfl | rfl <;> (dsimp only; omega)) (by simp) (by have := HL.out; intro h hh; simp only [List.mem_cons, List.not_mem_nil, or_false] at hh; subst hh; dsimp only; omega) (by simp))
      go_wp2_with fail
      refine AP.out.mono ?_; rintro ed wk4 ⟨rfl, hb⟩
      have HZ := Lib.hid (hb.trans (Below.refl _ _))
      clear hb AP HX
      go_wp2_with fail
      refine (lives_c _).mono ?_; rintro e wz ⟨rfl, hb⟩
      have HY := Lib.hid (HZ.out.trans (hb.mono HZ.out.size))
      clear HZ hb
      go_wp2
      go_ret
      exact ⟨rfl, HY.out⟩
end Go.Proofs.YtijkkompnfpdeaaGreatDoor
