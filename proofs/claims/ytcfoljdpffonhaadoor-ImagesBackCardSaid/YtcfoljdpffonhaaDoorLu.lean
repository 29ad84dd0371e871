/- Images: ImagesBack, walked. -/
import Derived.Test.YtcfoljdpffonhaaDoorLq
import Derived.Test.YtcfoljdpffonhaaDoorLx
set_option linter.unusedVariables false
set_option linter.unusedSimpArgs false
namespace Go.Proofs.YtcfoljdpffonhaaDoor
open Go.RowKit Go.Joins Go.Shelf
attribute [local go_sem] Oper.semAt_some

set_option maxHeartbeats 16000000 in
set_option maxRecDepth 20000 in
theorem back_c (w : World) (L : Lf w) (n : Int) (ad ac ab : Option Addr) (dc cc cb : Nat) (d b : List UInt8) (c : List I4) (hd : CellsIn w ad (d.map bv)) (hc : CellsIn w ac (ics c)) (hb : CellsIn w ab (b.map bv)) :
    Calls Tryd.prog 3 #[imV n ad d.length dc ac c.length cc, .slice ab b.length cb] w fun e w' => e = .returned (.bool true) ∧ Below w.heap.size w w' := by
  have H0 := Lib.hid (blk_new (Hp.start w) (.cells #[.int .i64 n, .slice ad d.length dc, .slice ac c.length cc] 25))
  have HD := Lib.hid hd
  have HC := Lib.hid hc
  have HB := Lib.hid hb
  clear hd hc hb
  have AC := Lib.hid (fun (w' : World) (r : List Thing) (H : Hp w w' r) => alive_c L H)
  have AB := Lib.hid (alive_c L H0.out)
  go_enter Tryd.func3, Tryd.ntmps3
  go_wp2_with fail
  refine AB.out.mono ?_; rintro e1 w1 ⟨rfl, H1'⟩
  have H1 := Lib.hid H1'
  clear AB H1' H0
  generalize w.heap.size = xb at *
  have bx := blk_get H1.out
  have x0 : w1.cell? ⟨xb, 0, none⟩ = some (.int .i64 n) := cell_blk bx 0
  have x1 : w1.cell? ⟨xb, 1, none⟩ = some (.slice ad d.length dc) := cell_blk bx 1
  have x2 : w1.cell? ⟨xb, 2, none⟩ = some (.slice ac c.length cc) := cell_blk bx 2
  clear bx
  have G1 := Lib.hid (great_c n ad ac dc cc d c w1)
  cases hg1 : grt d c with
  | true =>
    rw [hg1] at G1
    clear hg1
    go_wp2_with fail
    refine G1.out.mono ?_; rintro e2 w2 ⟨rfl, hb⟩
    have H2 := Lib.hid (H1.out.below_read hb)
    clear hb G1 H1 x0 x1 x2
    go_wp2_with fail
    refine (AC.out w2 _ H2.out).mono ?_; rintro e3 w3 ⟨rfl, H3⟩
    have H4 := Lib.hid H3
    clear H3
    go_wp2
    go_ret
    exact ⟨rfl, H4.out.below⟩
  | false =>
    rw [hg1] at G1
    have HG := Lib.hid hg1
    clear hg1
    by_cases hbl : 10000 < b.length
    · have d1 : decide ((10000 : Int) < (b.length : Int)) = true := by simp; omega
      go_wp2_with fail
      refine G1.out.mono ?_; rintro e2 w2 ⟨rfl, hb⟩
      have H2 := Lib.hid (H1.out.below_read hb)
      clear hb G1 H1 x0 x1 x2
      go_wp2_with fail
      refine (AC.out w2 _ H2.out).mono ?_; rintro e3 w3 ⟨rfl, H3⟩
      have H4 := Lib.hid H3
      clear H3
      go_wp2
      go_ret
      exact ⟨rfl, H4.out.below⟩
    · have d1 : decide ((10000 : Int) < (b.length : Int)) = false := by simp; omega
      have HBL := Lib.hid hbl
      go_wp2_with fail
      refine G1.out.mono ?_; rintro e2 w2 ⟨rfl, hb⟩
      have H2 := Lib.hid (H1.out.below_read hb)
      clear hb G1 H1 x0 x1 x2 hbl
      have bx := blk_get (H2.out.pull 0 rfl)
      have x0 : w2.cell? ⟨xb, 0, none⟩ = some (.int .i64 n) := cell_blk bx 0
      have x1 : w2.cell? ⟨xb, 1, none⟩ = some (.slice ad d.length dc) := cell_blk bx 1
      have x2 : w2.cell? ⟨xb, 2, none⟩ = some (.slice ac c.length cc) := cell_blk bx 2
      clear bx
      cases hck : imck n d c with
      | false =>
        have P := Lib.hid (imput_no n ad ac dc cc d c w2 (HC.out.hp H2.out) hck)
        go_wp2_with fail
        refine P.out.mono ?_; rintro e3 w3 ⟨rfl, hb⟩
        have H3 := Lib.hid (H2.out.below_read hb)
        clear hb P H2 x0 x1 x2
        have bx := blk_get (H3.out.pull 0 rfl)
        have x0 : w3.cell? ⟨xb, 0, none⟩ = some (.int .i64 n) := cell_blk bx 0
        have x1 : w3.cell? ⟨xb, 1, none⟩ = some (.slice ad d.length dc) := cell_blk bx 1
        have x2 : w3.cell? ⟨xb, 2, none⟩ = some (.slice ac c.length cc) := cell_blk bx 2
        clear bx
        have CK := Lib.hid (imcheck_c n ad ac dc cc d c w3 (HC.out.hp H3.out))
        rw [hck] at CK
        go_wp2_with fail
        refine CK.out.mono ?_; rintro e4 w4 ⟨rfl, hb⟩
        have H4 := Lib.hid (H3.out.below_read hb)
        clear hb CK H3 x0 x1 x2
        have GB := Lib.hid (imget_c ab cb b w4 (HB.out.hp H4.out) (by have := HBL.out; omega))
        cases hgb : imget b with
        | none =>
          rw [hgb] at GB
          clear hgb
          go_wp2_with fail
          refine GB.out.mono ?_; rintro e6 wx6 ⟨hb, rfl⟩
          have HX6 := Lib.hid (blk_new (H4.out.below_read hb) (.cells #[.int .i64 0, .slice none 0 0, .slice none 0 0] 25))
          clear hb GB H4
          go_wp2
          go_ret
          exact ⟨rfl, HX6.out.below⟩
        | some p =>
          obtain ⟨n2, d2, c2⟩ := p
          rw [hgb] at GB
          have HK2 := Lib.hid (imget_some hgb).1
          have HP2 := Lib.hid (imget_some hgb).2
          clear hgb
          go_wp2_with fail
          refine GB.out.mono ?_; rintro e6 wx6 ⟨hb, a2, q2, a3, q3, rfl, hd2, hc2⟩
          have HX6 := Lib.hid (blk_new (H4.out.below_read hb) (.cells #[.int .i64 n2, .slice a2 d2.length q2, .slice a3 c2.length q3] 25))
          have HD2 := Lib.hid (hd2.read ((Tch.refl _ _).alloc (.cells #[.int .i64 n2, .slice a2 d2.length q2, .slice a3 c2.length q3] 25)))
          have HC2 := Lib.hid (hc2.read ((Tch.refl _ _).alloc (.cells #[.int .i64 n2, .slice a2 d2.length q2, .slice a3 c2.length q3] 25)))
          clear hb GB H4 hd2 hc2
          have P2 := Lib.hid (imput_c n2 a2 a3 q2 q3 d2 c2 _ HD2.out HC2.out HK2.out)
          rw [HP2.out] at P2
          go_wp2_with fail
          refine P2.out.mono ?_; rintro e7 w7 ⟨v7, rfl, K⟩
          have H7 := Lib.hid (HX6.out.lift K)
          have HC7 := Lib.hid (HC2.out.below K.below)
          obtain ⟨a7, c7, rfl⟩ := own_slice K
          clear P2 K HX6 HD2 HC2
          generalize wx6.heap.size = nb at *
          obtain ⟨y0, y1, y2⟩ := im_cells (H7.out.pull 1 rfl)
          have CK2 := Lib.hid (imcheck_c n2 a2 a3 q2 q3 d2 c2 w7 HC7.out)
          rw [HK2.out] at CK2
          go_wp2_with fail
          refine CK2.out.mono ?_; rintro e8 w8 ⟨rfl, hb⟩
          have H8 := Lib.hid (H7.out.below_read hb)
          clear hb CK2 H7 HC7 y0 y1 y2
          have SB := Lib.hid (same_bytes a7 ab c7 cb b b w8 (CellsIn.own H8.out) (HB.out.hp H8.out) (by have := HBL.out; omega) (by have := HBL.out; omega))
          go_wp2_with fail
          refine SB.out.mono ?_; rintro e9 w9 ⟨rfl, hb⟩
          have H9 := Lib.hid (H8.out.below_read hb)
          clear hb SB H8
          go_wp2
          go_ret
          exact ⟨by simp, H9.out.below⟩
      | true =>
        obtain ⟨N, rfl⟩ := Int.eq_ofNat_of_zero_le (imck_bounds hck).1
        have HK := Lib.hid hck
        clear hck
        have P := Lib.hid (imput_c N ad ac dc cc d c w2 (HD.out.hp H2.out) (HC.out.hp H2.out) HK.out)
        have HL := Lib.hid (imput_short HK.out)
        have HLE := Lib.hid (imput_le N d c)
        have HG2 := Lib.hid (imget_put HK.out)
        obtain ⟨bb, hbb⟩ : ∃ x, x = imput N d c := ⟨_, rfl⟩
        rw [← hbb] at P HL HLE HG2
        clear hbb
        go_wp2_with fail
        refine P.out.mono ?_; rintro e3 w3 ⟨v3, rfl, K⟩
        have H3 := Lib.hid (H2.out.lift K)
        obtain ⟨a3', c3', rfl⟩ := own_slice K
        clear P K H2 x0 x1 x2
        obtain ⟨x0, x1, x2⟩ := im_cells (H3.out.pull 1 rfl)
        have CK := Lib.hid (imcheck_c N ad ac dc cc d c w3 (HC.out.hp H3.out))
        rw [HK.out] at CK
        go_wp2_with fail
        refine CK.out.mono ?_; rintro e4 w4 ⟨rfl, hb⟩
        have H4 := Lib.hid (H3.out.below_read hb)
        clear hb CK H3 x0 x1 x2
        have GC := Lib.hid (imget_c a3' c3' bb w4 (CellsIn.own H4.out) (by have := HL.out; omega))
        rw [HG2.out] at GC
        go_wp2_with fail
        refine GC.out.mono ?_; rintro e5 w5 ⟨hb, ae, de, af, df, rfl, he, hf⟩
        have H5 := Lib.hid (blk_new (H4.out.below_read hb) (.cells #[.int .i64 N, .slice ae d.length de, .slice af c.length df] 25))
        have HE := Lib.hid (he.read ((Tch.refl _ _).alloc (.cells #[.int .i64 N, .slice ae d.length de, .slice af c.length df] 25)))
        have HF := Lib.hid (hf.read ((Tch.refl _ _).alloc (.cells #[.int .i64 N, .slice ae d.length de, .slice af c.length df] 25)))
        clear hb GC H4 he hf
        have hb3 := imck_bounds HK.out
        have SI := Lib.hid (same_image N N ae ad af ac de dc df cc d d c c _ HE.out (HD.out.hp H5.out) HF.out (HC.out.hp H5.out) (by omega) (by omega) (by omega) (by omega))
        obtain ⟨x0, x1, x2⟩ := im_cells (H5.out.pull 2 rfl)
        clear hb3
        have le1 : bb.length ≤ 9 + d.length + 4 * c.length := HLE.out.1
        have le2 : 9 + d.length + 4 * c.length ≤ bb.length := HLE.out.2
        have b1 : bb.length < 100000 := HL.out
        go_wp2_with fail
        refine SI.out.mono ?_; rintro e6 w6 ⟨rfl, hb⟩
        have H6 := Lib.hid (H5.out.below_read hb)
        clear hb SI H5 HE HF x0 x1 x2
        obtain ⟨x0, x1, x2⟩ := im_cells (H6.out.pull 2 rfl)
        go_wp2_with fail
        clear le1 le2 b1 x0 x1 x2
        have GB := Lib.hid (imget_c ab cb b w6 (HB.out.hp H6.out) (by have := HBL.out; omega))
        cases hgb : imget b with
        | none =>
          rw [hgb] at GB
          clear hgb
          go_wp2_with fail
          refine GB.out.mono ?_; rintro e6 wx6 ⟨hb, rfl⟩
          have HX6 := Lib.hid (blk_new (H6.out.below_read hb) (.cells #[.int .i64 0, .slice none 0 0, .slice none 0 0] 25))
          clear hb GB H6
          go_wp2
          go_ret
          exact ⟨rfl, HX6.out.below⟩
        | some p =>
          obtain ⟨n2, d2, c2⟩ := p
          rw [hgb] at GB
          have HK2 := Lib.hid (imget_some hgb).1
          have HP2 := Lib.hid (imget_some hgb).2
          clear hgb
          go_wp2_with fail
          refine GB.out.mono ?_; rintro e6 wx6 ⟨hb, a2, q2, a3, q3, rfl, hd2, hc2⟩
          have HX6 := Lib.hid (blk_new (H6.out.below_read hb) (.cells #[.int .i64 n2, .slice a2 d2.length q2, .slice a3 c2.length q3] 25))
          have HD2 := Lib.hid (hd2.read ((Tch.refl _ _).alloc (.cells #[.int .i64 n2, .slice a2 d2.length q2, .slice a3 c2.length q3] 25)))
          have HC2 := Lib.hid (hc2.read ((Tch.refl _ _).alloc (.cells #[.int .i64 n2, .slice a2 d2.length q2, .slice a3 c2.length q3] 25)))
          clear hb GB H6 hd2 hc2
          have P2 := Lib.hid (imput_c n2 a2 a3 q2 q3 d2 c2 _ HD2.out HC2.out HK2.out)
          rw [HP2.out] at P2
          go_wp2_with fail
          refine P2.out.mono ?_; rintro e7 w7 ⟨v7, rfl, K⟩
          have H7 := Lib.hid (HX6.out.lift K)
          have HC7 := Lib.hid (HC2.out.below K.below)
          obtain ⟨a7, c7, rfl⟩ := own_slice K
          clear P2 K HX6 HD2 HC2
          generalize wx6.heap.size = nb at *
          obtain ⟨y0, y1, y2⟩ := im_cells (H7.out.pull 1 rfl)
          have CK2 := Lib.hid (imcheck_c n2 a2 a3 q2 q3 d2 c2 w7 HC7.out)
          rw [HK2.out] at CK2
          go_wp2_with fail
          refine CK2.out.mono ?_; rintro e8 w8 ⟨rfl, hb⟩
          have H8 := Lib.hid (H7.out.below_read hb)
          clear hb CK2 H7 HC7 y0 y1 y2
          have SB := Lib.hid (same_bytes a7 ab c7 cb b b w8 (CellsIn.own H8.out) (HB.out.hp H8.out) (by have := HBL.out; omega) (by have := HBL.out; omega))
          go_wp2_with fail
          refine SB.out.mono ?_; rintro e9 w9 ⟨rfl, hb⟩
          have H9 := Lib.hid (H8.out.below_read hb)
          clear hb SB H8
          go_wp2
          go_ret
          exact ⟨by simp, H9.out.below⟩
end Go.Proofs.YtcfoljdpffonhaaDoor
