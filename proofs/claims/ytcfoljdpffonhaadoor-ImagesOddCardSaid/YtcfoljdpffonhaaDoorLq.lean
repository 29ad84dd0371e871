/- Images: great; two images' bytes: plain. -/
import Derived.Test.YtcfoljdpffonhaaDoorLp
set_option linter.unusedVariables false
set_option linter.unusedSimpArgs false
namespace Go.Proofs.YtcfoljdpffonhaaDoor
open Go.RowKit Go.Joins Go.Shelf
attribute [local go_sem] Oper.semAt_some

def grt (d : List UInt8) (c : List I4) : Bool := decide (5000 < d.length) || decide (1100 < c.length)
set_option maxHeartbeats 2000000 in
set_option maxRecDepth 20000 in
theorem great_c (n : Int) (ad ac : Option Addr) (dc cc : Nat) (d : List UInt8) (c : List I4) (w : World) :
    Calls Tryd.prog 10 #[imV n ad d.length dc ac c.length cc] w fun e w' => e = .returned (.bool (grt d c)) ∧ Below w.heap.size w w' := by
  have H1 := Lib.hid (blk_new (Hp.start w) (.cells #[.int .i64 n, .slice ad d.length dc, .slice ac c.length cc] 25))
  have hg : grt d c = (decide (5000 < d.length) || decide (1100 < c.length)) := rfl
  generalize grt d c = g at *
  by_cases h1 : 5000 < d.length
  · have d1 : decide ((5000 : Int) < (d.length : Int)) = true := by simp; omega
    obtain rfl : g = true := by rw [hg]; simp [h1]
    clear hg
    go_enter Tryd.func10, Tryd.ntmps10
    go_wp2
    go_ret
    exact ⟨rfl, H1.out.below⟩
  · have d1 : decide ((5000 : Int) < (d.length : Int)) = false := by simp; omega
    by_cases h2 : 1100 < c.length
    · have d2 : decide ((1100 : Int) < (c.length : Int)) = true := by simp; omega
      obtain rfl : g = true := by rw [hg]; simp [h2]
      clear hg
      go_enter Tryd.func10, Tryd.ntmps10
      go_wp2
      go_ret
      exact ⟨rfl, H1.out.below⟩
    · have d2 : decide ((1100 : Int) < (c.length : Int)) = false := by simp; omega
      obtain rfl : g = false := by rw [hg]; simp [h1, h2]
      clear hg
      go_enter Tryd.func10, Tryd.ntmps10
      go_wp2
      go_ret
      exact ⟨rfl, H1.out.below⟩
theorem imput_inj {n m : Nat} {d e : List UInt8} {c f : List I4} (h : imck n d c = true) (h' : imck m e f = true) : decide (imput n d c = imput m e f) = (decide ((n : Int) = m) && decide (d = e) && decide (c = f)) := by
  have h1 := imget_put h
  have h2 := imget_put h'
  by_cases he : imput n d c = imput m e f
  · rw [he, h2] at h1
    simp only [Option.some.injEq, Prod.mk.injEq] at h1
    obtain ⟨rfl, rfl, rfl⟩ := h1
    simp
  · have : ¬ ((n : Int) = m ∧ d = e ∧ c = f) := by
      rintro ⟨h1, rfl, rfl⟩
      have : n = m := by omega
      subst this
      exact he rfl
    rw [decide_eq_false he]
    symm
    rw [Bool.eq_false_iff]
    intro h3
    simp only [Bool.and_eq_true, decide_eq_true_eq] at h3
    exact this ⟨h3.1.1, h3.1.2, h3.2⟩
theorem imput_short {n : Nat} {d : List UInt8} {c : List I4} (h : imck n d c = true) : (imput n d c).length < 100000 := by
  obtain ⟨_, h2, h3, h4, _⟩ := imck_bounds h
  have := ibs_len c
  unfold imput
  simp only [List.length_append, two, List.length_cons, List.length_nil, this]
  omega
def unlikeG (n m : Int) (d e : List UInt8) (c f : List I4) : Bool := !grt d c && !grt e f && imck n d c && imck m e f
set_option maxHeartbeats 16000000 in
set_option maxRecDepth 20000 in
theorem unlike_c (w : World) (L : Lf w) (n m : Int) (ad ac ae af : Option Addr) (dc cc de df : Nat) (d e : List UInt8) (c f : List I4) (hd : CellsIn w ad (d.map bv)) (hc : CellsIn w ac (ics c)) (he : CellsIn w ae (e.map bv)) (hf : CellsIn w af (ics f)) :
    Calls Tryd.prog 6 #[imV n ad d.length dc ac c.length cc, imV m ae e.length de af f.length df] w fun e w' => e = .returned (.bool true) ∧ Below w.heap.size w w' := by
  have H0 := Lib.hid (blk_new_at (blk_new (Hp.start w) (.cells #[.int .i64 n, .slice ad d.length dc, .slice ac c.length cc] 25)) (.cells #[.int .i64 m, .slice ae e.length de, .slice af f.length df] 25) (w.heap.size + 1) (size_alloc1 _ _))
  have HD := Lib.hid hd
  have HC := Lib.hid hc
  have HE := Lib.hid he
  have HF := Lib.hid hf
  clear hd hc he hf
  have AC := Lib.hid (fun (w' : World) (r : List Thing) (H : Hp w w' r) => alive_c L H)
  have AB := Lib.hid (alive_c L H0.out)
  go_enter Tryd.func6, Tryd.ntmps6
  go_wp2_with fail
  refine AB.out.mono ?_; rintro e1 w1 ⟨rfl, H1'⟩
  have H1 := Lib.hid H1'
  clear AB H1' H0
  generalize w.heap.size = xb at *
  have bx := blk_get (H1.out.pull 1 rfl)
  have by_ := blk_get H1.out
  have x0 : w1.cell? ⟨xb, 0, none⟩ = some (.int .i64 n) := cell_blk bx 0
  have x1 : w1.cell? ⟨xb, 1, none⟩ = some (.slice ad d.length dc) := cell_blk bx 1
  have x2 : w1.cell? ⟨xb, 2, none⟩ = some (.slice ac c.length cc) := cell_blk bx 2
  have y0 : w1.cell? ⟨xb + 1, 0, none⟩ = some (.int .i64 m) := cell_blk by_ 0
  have y1 : w1.cell? ⟨xb + 1, 1, none⟩ = some (.slice ae e.length de) := cell_blk by_ 1
  have y2 : w1.cell? ⟨xb + 1, 2, none⟩ = some (.slice af f.length df) := cell_blk by_ 2
  clear bx by_
  have G1 := Lib.hid (great_c n ad ac dc cc d c w1)
  cases hg1 : grt d c with
  | true =>
    rw [hg1] at G1
    clear hg1
    go_wp2_with fail
    refine G1.out.mono ?_; rintro e2 w2 ⟨rfl, hb⟩
    have H2 := Lib.hid (H1.out.below_read hb)
    clear hb G1 H1 x0 x1 x2 y0 y1 y2
    go_wp2_with fail
    refine (AC.out w2 _ H2.out).mono ?_; rintro e3 w3 ⟨rfl, H3⟩
    have H4 := Lib.hid H3
    clear H3
    go_wp2
    go_ret
    exact ⟨rfl, H4.out.below⟩
  | false =>
    rw [hg1] at G1
    clear hg1
    go_wp2_with fail
    refine G1.out.mono ?_; rintro e2 w2 ⟨rfl, hb⟩
    have H2 := Lib.hid (H1.out.below_read hb)
    clear hb G1 H1 x0 x1 x2 y0 y1 y2
    have bx := blk_get (H2.out.pull 1 rfl)
    have by_ := blk_get (H2.out.pull 0 rfl)
    have x0 : w2.cell? ⟨xb, 0, none⟩ = some (.int .i64 n) := cell_blk bx 0
    have x1 : w2.cell? ⟨xb, 1, none⟩ = some (.slice ad d.length dc) := cell_blk bx 1
    have x2 : w2.cell? ⟨xb, 2, none⟩ = some (.slice ac c.length cc) := cell_blk bx 2
    have y0 : w2.cell? ⟨xb + 1, 0, none⟩ = some (.int .i64 m) := cell_blk by_ 0
    have y1 : w2.cell? ⟨xb + 1, 1, none⟩ = some (.slice ae e.length de) := cell_blk by_ 1
    have y2 : w2.cell? ⟨xb + 1, 2, none⟩ = some (.slice af f.length df) := cell_blk by_ 2
    clear bx by_
    have G := Lib.hid (great_c m ae af de df e f w2)
    cases hg2 : grt e f with
    | true =>
      rw [hg2] at G
      have HG2 := Lib.hid hg2
      clear hg2
      go_wp2_with fail
      refine G.out.mono ?_; rintro e2 w3 ⟨rfl, hb⟩
      have H3 := Lib.hid (H2.out.below_read hb)
      clear hb G H2 x0 x1 x2 y0 y1 y2
      go_wp2_with fail
      refine (AC.out _ _ H3.out).mono ?_; rintro e3 wz ⟨rfl, H3⟩
      have HZ := Lib.hid H3
      clear H3
      go_wp2
      go_ret
      exact ⟨rfl, HZ.out.below⟩
    | false =>
      rw [hg2] at G
      have HG2 := Lib.hid hg2
      clear hg2
      go_wp2_with fail
      refine G.out.mono ?_; rintro e2 w3 ⟨rfl, hb⟩
      have H3 := Lib.hid (H2.out.below_read hb)
      clear hb G H2 x0 x1 x2 y0 y1 y2
      have bx := blk_get (H3.out.pull 1 rfl)
      have by_ := blk_get (H3.out.pull 0 rfl)
      have x0 : w3.cell? ⟨xb, 0, none⟩ = some (.int .i64 n) := cell_blk bx 0
      have x1 : w3.cell? ⟨xb, 1, none⟩ = some (.slice ad d.length dc) := cell_blk bx 1
      have x2 : w3.cell? ⟨xb, 2, none⟩ = some (.slice ac c.length cc) := cell_blk bx 2
      have y0 : w3.cell? ⟨xb + 1, 0, none⟩ = some (.int .i64 m) := cell_blk by_ 0
      have y1 : w3.cell? ⟨xb + 1, 1, none⟩ = some (.slice ae e.length de) := cell_blk by_ 1
      have y2 : w3.cell? ⟨xb + 1, 2, none⟩ = some (.slice af f.length df) := cell_blk by_ 2
      clear bx by_
      have G := Lib.hid (imcheck_c n ad ac dc cc d c w3 (HC.out.hp H3.out))
      cases hg3 : imck n d c with
      | false =>
        rw [hg3] at G
        have HG3 := Lib.hid hg3
        clear hg3
        go_wp2_with fail
        refine G.out.mono ?_; rintro e2 w4 ⟨rfl, hb⟩
        have H4 := Lib.hid (H3.out.below_read hb)
        clear hb G H3 x0 x1 x2 y0 y1 y2
        go_wp2_with fail
        refine (AC.out _ _ H4.out).mono ?_; rintro e3 wz ⟨rfl, H3⟩
        have HZ := Lib.hid H3
        clear H3
        go_wp2
        go_ret
        exact ⟨rfl, HZ.out.below⟩
      | true =>
        rw [hg3] at G
        have HG3 := Lib.hid hg3
        clear hg3
        go_wp2_with fail
        refine G.out.mono ?_; rintro e2 w4 ⟨rfl, hb⟩
        have H4 := Lib.hid (H3.out.below_read hb)
        clear hb G H3 x0 x1 x2 y0 y1 y2
        have bx := blk_get (H4.out.pull 1 rfl)
        have by_ := blk_get (H4.out.pull 0 rfl)
        have x0 : w4.cell? ⟨xb, 0, none⟩ = some (.int .i64 n) := cell_blk bx 0
        have x1 : w4.cell? ⟨xb, 1, none⟩ = some (.slice ad d.length dc) := cell_blk bx 1
        have x2 : w4.cell? ⟨xb, 2, none⟩ = some (.slice ac c.length cc) := cell_blk bx 2
        have y0 : w4.cell? ⟨xb + 1, 0, none⟩ = some (.int .i64 m) := cell_blk by_ 0
        have y1 : w4.cell? ⟨xb + 1, 1, none⟩ = some (.slice ae e.length de) := cell_blk by_ 1
        have y2 : w4.cell? ⟨xb + 1, 2, none⟩ = some (.slice af f.length df) := cell_blk by_ 2
        clear bx by_
        have G := Lib.hid (imcheck_c m ae af de df e f w4 (HF.out.hp H4.out))
        cases hg4 : imck m e f with
        | false =>
          rw [hg4] at G
          have HG4 := Lib.hid hg4
          clear hg4
          go_wp2_with fail
          refine G.out.mono ?_; rintro e2 w5 ⟨rfl, hb⟩
          have H5 := Lib.hid (H4.out.below_read hb)
          clear hb G H4 x0 x1 x2 y0 y1 y2
          go_wp2_with fail
          refine (AC.out _ _ H5.out).mono ?_; rintro e3 wz ⟨rfl, H3⟩
          have HZ := Lib.hid H3
          clear H3
          go_wp2
          go_ret
          exact ⟨rfl, HZ.out.below⟩
        | true =>
          rw [hg4] at G
          have HG4 := Lib.hid hg4
          clear hg4
          go_wp2_with fail
          refine G.out.mono ?_; rintro e2 w5 ⟨rfl, hb⟩
          have H5 := Lib.hid (H4.out.below_read hb)
          clear hb G H4 x0 x1 x2 y0 y1 y2
          obtain ⟨N, rfl⟩ := Int.eq_ofNat_of_zero_le (imck_bounds HG3.out).1
          obtain ⟨M, rfl⟩ := Int.eq_ofNat_of_zero_le (imck_bounds HG4.out).1
          have bx := blk_get (H5.out.pull 1 rfl)
          have by_ := blk_get (H5.out.pull 0 rfl)
          have x0 : w5.cell? ⟨xb, 0, none⟩ = some (.int .i64 (N : Int)) := cell_blk bx 0
          have x1 : w5.cell? ⟨xb, 1, none⟩ = some (.slice ad d.length dc) := cell_blk bx 1
          have x2 : w5.cell? ⟨xb, 2, none⟩ = some (.slice ac c.length cc) := cell_blk bx 2
          have y0 : w5.cell? ⟨xb + 1, 0, none⟩ = some (.int .i64 (M : Int)) := cell_blk by_ 0
          have y1 : w5.cell? ⟨xb + 1, 1, none⟩ = some (.slice ae e.length de) := cell_blk by_ 1
          have y2 : w5.cell? ⟨xb + 1, 2, none⟩ = some (.slice af f.length df) := cell_blk by_ 2
          clear bx by_
          have P1 := Lib.hid (imput_c N ad ac dc cc d c w5 (HD.out.hp H5.out) (HC.out.hp H5.out) HG3.out)
          have hl1 := imput_short HG3.out
          have hl2 := imput_short HG4.out
          have HI := Lib.hid (imput_inj HG3.out HG4.out)
          generalize imput N d c = b1 at *
          generalize hb2 : imput M e f = b2 at *
          have HB2 := Lib.hid hb2
          have HL := Lib.hid (And.intro hl1 hl2)
          clear hb2 hl1 hl2
          go_wp2_with fail
          refine P1.out.mono ?_; rintro e2 w6 ⟨v1, rfl, K⟩
          have H6 := Lib.hid (H5.out.lift K)
          obtain ⟨a1, c1, rfl⟩ := own_slice K
          clear P1 K H5 x0 x1 x2 y0 y1 y2
          have bx := blk_get (H6.out.pull 2 rfl)
          have by_ := blk_get (H6.out.pull 1 rfl)
          have x0 : w6.cell? ⟨xb, 0, none⟩ = some (.int .i64 (N : Int)) := cell_blk bx 0
          have x1 : w6.cell? ⟨xb, 1, none⟩ = some (.slice ad d.length dc) := cell_blk bx 1
          have x2 : w6.cell? ⟨xb, 2, none⟩ = some (.slice ac c.length cc) := cell_blk bx 2
          have y0 : w6.cell? ⟨xb + 1, 0, none⟩ = some (.int .i64 (M : Int)) := cell_blk by_ 0
          have y1 : w6.cell? ⟨xb + 1, 1, none⟩ = some (.slice ae e.length de) := cell_blk by_ 1
          have y2 : w6.cell? ⟨xb + 1, 2, none⟩ = some (.slice af f.length df) := cell_blk by_ 2
          clear bx by_
          have P2 := Lib.hid (imput_c M ae af de df e f w6 (HE.out.hp H6.out) (HF.out.hp H6.out) HG4.out)
          rw [HB2.out] at P2
          go_wp2_with fail
          refine P2.out.mono ?_; rintro e2 w7 ⟨v2, rfl, K⟩
          have H7 := Lib.hid (H6.out.lift K)
          obtain ⟨a2, c2, rfl⟩ := own_slice K
          clear P2 K H6 x0 x1 x2 y0 y1 y2 HB2
          have bx := blk_get (H7.out.pull 3 rfl)
          have by_ := blk_get (H7.out.pull 2 rfl)
          have x0 : w7.cell? ⟨xb, 0, none⟩ = some (.int .i64 (N : Int)) := cell_blk bx 0
          have x1 : w7.cell? ⟨xb, 1, none⟩ = some (.slice ad d.length dc) := cell_blk bx 1
          have x2 : w7.cell? ⟨xb, 2, none⟩ = some (.slice ac c.length cc) := cell_blk bx 2
          have y0 : w7.cell? ⟨xb + 1, 0, none⟩ = some (.int .i64 (M : Int)) := cell_blk by_ 0
          have y1 : w7.cell? ⟨xb + 1, 1, none⟩ = some (.slice ae e.length de) := cell_blk by_ 1
          have y2 : w7.cell? ⟨xb + 1, 2, none⟩ = some (.slice af f.length df) := cell_blk by_ 2
          clear bx by_
          have HK : Hid (Hp w w7 [OwnU (.slice a2 b2.length c2) b2, OwnU (.slice a1 b1.length c1) b1, Blk (xb + 1) (.cells #[.int .i64 (M : Int), .slice ae e.length de, .slice af f.length df] 25 (0, 0)), Blk xb (.cells #[.int .i64 (N : Int), .slice ad d.length dc, .slice ac c.length cc] 25 (0, 0))]) := H7
          have hb3 := imck_bounds HG3.out
          have hb4 := imck_bounds HG4.out
          have SB0 : Hid (∀ W, Hp w W [OwnU (.slice a2 b2.length c2) b2, OwnU (.slice a1 b1.length c1) b1, Blk (xb + 1) (.cells #[.int .i64 (M : Int), .slice ae e.length de, .slice af f.length df] 25 (0, 0)), Blk xb (.cells #[.int .i64 (N : Int), .slice ad d.length dc, .slice ac c.length cc] 25 (0, 0))] → Calls Tryd.prog 15 #[.slice a1 b1.length c1, .slice a2 b2.length c2] W fun e' w' => e' = .returned (.bool (decide ((N : Int) = M) && decide (d = e) && decide (c = f))) ∧ Hp w w' [OwnU (.slice a2 b2.length c2) b2, OwnU (.slice a1 b1.length c1) b1, Blk (xb + 1) (.cells #[.int .i64 (M : Int), .slice ae e.length de, .slice af f.length df] 25 (0, 0)), Blk xb (.cells #[.int .i64 (N : Int), .slice ad d.length dc, .slice ac c.length cc] 25 (0, 0))]) := Lib.hid (fun W HW => (same_bytes a1 a2 c1 c2 b1 b2 W (CellsIn.own (HW.pull 1 rfl)) (CellsIn.own HW) (by have := HL.out.1; omega) (by have := HL.out.2; omega)).mono (fun e' w' h => ⟨h.1.trans (by rw [HI.out]), HW.below_read h.2⟩))
          have SI0 : Hid (∀ W, Hp w W [OwnU (.slice a2 b2.length c2) b2, OwnU (.slice a1 b1.length c1) b1, Blk (xb + 1) (.cells #[.int .i64 (M : Int), .slice ae e.length de, .slice af f.length df] 25 (0, 0)), Blk xb (.cells #[.int .i64 (N : Int), .slice ad d.length dc, .slice ac c.length cc] 25 (0, 0))] → Calls Tryd.prog 14 #[imV N ad d.length dc ac c.length cc, imV M ae e.length de af f.length df] W fun e' w' => e' = .returned (.bool (decide ((N : Int) = M) && decide (d = e) && decide (c = f))) ∧ Hp w w' [OwnU (.slice a2 b2.length c2) b2, OwnU (.slice a1 b1.length c1) b1, Blk (xb + 1) (.cells #[.int .i64 (M : Int), .slice ae e.length de, .slice af f.length df] 25 (0, 0)), Blk xb (.cells #[.int .i64 (N : Int), .slice ad d.length dc, .slice ac c.length cc] 25 (0, 0))]) := Lib.hid (fun W HW => (same_image N M ad ae ac af dc de cc df d e c f W (HD.out.hp HW) (HE.out.hp HW) (HC.out.hp HW) (HF.out.hp HW) (by omega) (by omega) (by omega) (by omega)).mono (fun e' w' h => ⟨h.1, HW.below_read h.2⟩))
          generalize (decide ((N : Int) = M) && decide (d = e) && decide (c = f)) = q at SB0 SI0
          clear hb3 hb4 HI H7 HG2 HG3 HG4
          go_upto_region 5 with fail
          go_region_held3 (fun x => x.cell? ⟨xb, 0, none⟩ = some (.int .i64 (N : Int)) ∧ x.cell? ⟨xb, 1, none⟩ = some (.slice ad d.length dc) ∧ x.cell? ⟨xb, 2, none⟩ = some (.slice ac c.length cc) ∧ x.cell? ⟨xb + 1, 0, none⟩ = some (.int .i64 (M : Int)) ∧ x.cell? ⟨xb + 1, 1, none⟩ = some (.slice ae e.length de) ∧ x.cell? ⟨xb + 1, 2, none⟩ = some (.slice af f.length df)) (exact ⟨x0, x1, x2, y0, y1, y2⟩) (first | (go_at_call 15; (first | refine (SB0.out _ HK.out.drew).mono ?_ | refine (SB0.out _ HK.out).mono ?_); rintro e9 wz ⟨rfl, HKn⟩; have HK := Lib.hid HKn; clear HKn; have bx := blk_get (HK.out.pull 3 rfl); have by_ := blk_get (HK.out.pull 2 rfl); have x0 : wz.cell? ⟨xb, 0, none⟩ = some (.int .i64 (N : Int)) := cell_blk bx 0; have x1 : wz.cell? ⟨xb, 1, none⟩ = some (.slice ad d.length dc) := cell_blk bx 1; have x2 : wz.cell? ⟨xb, 2, none⟩ = some (.slice ac c.length cc) := cell_blk bx 2; have y0 : wz.cell? ⟨xb + 1, 0, none⟩ = some (.int .i64 (M : Int)) := cell_blk by_ 0; have y1 : wz.cell? ⟨xb + 1, 1, none⟩ = some (.slice ae e.length de) := cell_blk by_ 1; have y2 : wz.cell? ⟨xb + 1, 2, none⟩ = some (.slice af f.length df) := cell_blk by_ 2; clear bx by_) | (go_at_call 14; (first | refine (SI0.out _ HK.out.drew).mono ?_ | refine (SI0.out _ HK.out).mono ?_); rintro e9 wz ⟨rfl, HKn⟩; have HK := Lib.hid HKn; clear HKn; have bx := blk_get (HK.out.pull 3 rfl); have by_ := blk_get (HK.out.pull 2 rfl); have x0 : wz.cell? ⟨xb, 0, none⟩ = some (.int .i64 (N : Int)) := cell_blk bx 0; have x1 : wz.cell? ⟨xb, 1, none⟩ = some (.slice ad d.length dc) := cell_blk bx 1; have x2 : wz.cell? ⟨xb, 2, none⟩ = some (.slice ac c.length cc) := cell_blk bx 2; have y0 : wz.cell? ⟨xb + 1, 0, none⟩ = some (.int .i64 (M : Int)) := cell_blk by_ 0; have y1 : wz.cell? ⟨xb + 1, 1, none⟩ = some (.slice ae e.length de) := cell_blk by_ 1; have y2 : wz.cell? ⟨xb + 1, 2, none⟩ = some (.slice af f.length df) := cell_blk by_ 2; clear bx by_))
          all_goals go_wp2
          all_goals go_ret
          all_goals exact ⟨by simp, HK.out.below⟩
end Go.Proofs.YtcfoljdpffonhaaDoor
