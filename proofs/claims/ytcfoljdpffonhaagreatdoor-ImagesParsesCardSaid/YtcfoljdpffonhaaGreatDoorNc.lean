/- Images: the document's Check and Put: walked. -/
import Derived.Test.YtcfoljdpffonhaaGreatDoorIe
import Derived.Test.YtcfoljdpffonhaaGreatDoorMc
import Derived.Test.YtcfoljdpffonhaaGreatDoorNa
import Derived.Test.YtcfoljdpffonhaaGreatDoorLx
set_option linter.unusedVariables false
set_option linter.unusedSimpArgs false
namespace Go.Proofs.YtcfoljdpffonhaaGreatDoor
open Go.RowKit Go.Joins Go.Shelf
attribute [local go_sem] Oper.semAt_some

set_option maxHeartbeats 4000000 in
set_option maxRecDepth 20000 in
theorem rimck_c (n : Int) (ad ac : Option Addr) (dc cc : Nat) (d : List UInt8) (c : List I4) (w : World) (hc : CellsIn w ac (ics c)) :
    Calls Tryz.prog 12 #[imV n ad d.length dc ac c.length cc] w fun e w' => e = .returned (.bool (imck n d c)) ∧ Below w.heap.size w w' := by
  have H1 := Lib.hid (blk_new (Hp.start w) (.cells #[.int .i64 n, .slice ad d.length dc, .slice ac c.length cc] 25))
  have HC := Lib.hid hc
  generalize hm : imck n d c = m
  unfold imck at hm
  clear hc
  by_cases h1 : n < 0
  · have d1 : decide (n < 0) = true := by simpa using h1
    obtain rfl : m = false := by rw [← hm]; have : ¬ (0 ≤ n ∧ n ≤ 4096 ∧ (d.length : Int) ≤ n ∧ c.length ≤ 1024) := by omega
                                 simp [this]
    clear hm HC h1
    go_enter Tryz.func12, Tryz.ntmps12
    go_wp2
    go_ret
    exact ⟨rfl, H1.out.below⟩
  have d1 : decide (n < 0) = false := by simpa using h1
  by_cases h2 : 4096 < n
  · have d2 : decide (4096 < n) = true := by simpa using h2
    obtain rfl : m = false := by rw [← hm]; have : ¬ (0 ≤ n ∧ n ≤ 4096 ∧ (d.length : Int) ≤ n ∧ c.length ≤ 1024) := by omega
                                 simp [this]
    clear hm HC h1 h2
    go_enter Tryz.func12, Tryz.ntmps12
    go_wp2
    go_ret
    exact ⟨rfl, H1.out.below⟩
  have d2 : decide (4096 < n) = false := by simpa using h2
  by_cases h3 : n < (d.length : Int)
  · have d3 : decide (n < (d.length : Int)) = true := by simpa using h3
    obtain rfl : m = false := by rw [← hm]; have : ¬ (0 ≤ n ∧ n ≤ 4096 ∧ (d.length : Int) ≤ n ∧ c.length ≤ 1024) := by omega
                                 simp [this]
    clear hm HC h1 h2 h3
    go_enter Tryz.func12, Tryz.ntmps12
    go_wp2
    go_ret
    exact ⟨rfl, H1.out.below⟩
  have d3 : decide (n < (d.length : Int)) = false := by simpa using h3
  by_cases h4 : 1024 < c.length
  · have d4 : decide ((1024 : Int) < (c.length : Int)) = true := by simp; omega
    obtain rfl : m = false := by rw [← hm]; have : ¬ (0 ≤ n ∧ n ≤ 4096 ∧ (d.length : Int) ≤ n ∧ c.length ≤ 1024) := by omega
                                 simp [this]
    clear hm HC h1 h2 h3 h4
    go_enter Tryz.func12, Tryz.ntmps12
    go_wp2
    go_ret
    exact ⟨rfl, H1.out.below⟩
  have d4 : decide ((1024 : Int) < (c.length : Int)) = false := by simp; omega
  have hm2 : c.all ik = m := by rw [← hm]; have : (0 ≤ n ∧ n ≤ 4096 ∧ (d.length : Int) ≤ n ∧ c.length ≤ 1024) := by omega
                                simp [this]
  have HM := Lib.hid hm2
  have HL := Lib.hid h4
  clear hm hm2 h1 h2 h3 h4
  go_enter Tryz.func12, Tryz.ntmps12
  go_wp2
  clear d1 d2 d3 d4
  generalize (w.alloc (.cells #[.int .i64 n, .slice ad d.length dc, .slice ac c.length cc] 25)) = w1 at *
  generalize w.heap.size = xb at *
  go_loopw [3] (fun s3 wr => ∃ k : Nat, k ≤ c.length ∧ s3 = .int .i64 k ∧ Hid (∀ j (h : j < c.length), j < k → ik c[j] = true) ∧ Hid (Hp w wr [IM xb n (.slice ad d.length dc) (.slice ac c.length cc)])) (fun s3 _ => c.length - (intOf s3).toNat)
  case atStart => exact ⟨0, Nat.zero_le _, rfl, Lib.hid (fun j _ h => by omega), H1⟩
  case round =>
    obtain ⟨k, hk, rfl, hN, hH⟩ := hrel
    clear H1
    obtain ⟨x0, x1, x2⟩ := im_cells hH.out
    by_cases hlt : k < c.length
    · obtain ⟨g, o, rfl, c0, c1, c2, c3⟩ := ins_cells (HC.out.hp hH.out) hlt
      have hkw : IntKind.i64.wrap ((k : Int) + 1) = (k : Int) + 1 := by rw [IntKind.wrap_i64]; have := HL.out; omega
      have hN2 : Hid (ik c[k] = true → ∀ j (h : j < c.length), j < k + 1 → ik c[j] = true) := Lib.hid (fun h j hj hjk => by
        by_cases e : j = k
        · subst e; exact h
        · exact hN.out j hj (by omega))
      have hN3 : Hid (ik c[k] = false → m = false) := Lib.hid (fun h => by
        rw [← HM.out, Bool.eq_false_iff]
        intro h2
        have := List.all_eq_true.1 h2 c[k] (List.getElem_mem hlt)
        rw [h] at this; cases this)
      have CK := Lib.hid (rcheck_c (op := c[k].1.toNat) hH.out (by4 c[k]) c[k].1.toNat_lt)
      have hik : ck c[k].1.toNat c[k].2.1.toNat c[k].2.2.1.toNat c[k].2.2.2.toNat = ik c[k] := rfl
      rw [hik] at CK
      clear hik
      generalize ik c[k] = ikx at *
      generalize c[k] = x at *
      have j1 : (k : Int) < (c.length : Int) := by omega
      cases ikx with
      | true =>
        have hn := Lib.hid (hN2.out rfl)
        have HLT := Lib.hid hlt
        clear hN hN2 hN3 hlt hk
        go_wp2_with fail
        refine CK.out.mono ?_; rintro e w1 ⟨rfl, K⟩
        have H2 := Lib.hid K
        clear K CK hH c0 c1 c2 c3 x0 x1 x2
        go_wp2
        go_roundw
        case rel => exact ⟨k + 1, by have := HLT.out; omega, by go_num, hn, H2⟩
        case measure => have := HLT.out; simp [intOf]; omega
      | false =>
        obtain rfl := hN3.out rfl
        clear hN hN2 hN3 hlt hk
        go_wp2_with fail
        refine CK.out.mono ?_; rintro e w1 ⟨rfl, K⟩
        have H2 := Lib.hid K
        clear K CK hH c0 c1 c2 c3 x0 x1 x2
        go_wp2
        go_ret
        exact ⟨rfl, H2.out.below⟩
    · have hall : c.all ik = true := List.all_eq_true.2 (fun x hx => by
        obtain ⟨j, hj, rfl⟩ := List.getElem_of_mem hx
        exact hN.out j hj (by omega))
      obtain rfl : m = true := by rw [← HM.out]; exact hall
      have j1 : ¬ (k : Int) < (c.length : Int) := by omega
      clear hall hN hlt hk
      go_wp2
      go_ret
      exact ⟨rfl, hH.out.below⟩
set_option maxHeartbeats 2000000 in
set_option maxRecDepth 20000 in
theorem two_c (n : Nat) (hn : n < 65536) (w : World) :
    Calls Tryz.prog 29 #[.int .i64 (n : Int)] w fun e w' => ∃ g, e = .returned (.slice (some ⟨g, 0, none⟩) 2 2) ∧ Hp w w' [Own 5 1 (.slice (some ⟨g, 0, none⟩) 2 2) 2 ((two n).map bv)] := by
  have HB := Lib.hid (bv_two hn)
  have q1 : (n : Int).tdiv 256 = (n : Int) / 256 := Int.tdiv_eq_ediv_of_nonneg (by omega)
  have q2 : (n : Int).tmod 256 = (n : Int) % 256 := Int.tmod_eq_emod_of_nonneg (by omega)
  have q3 : IntKind.u8.wrap ((n : Int) / 256) = (n : Int) / 256 := by rw [IntKind.wrap_u8]; omega
  have q4 : IntKind.u8.wrap ((n : Int) % 256) = (n : Int) % 256 := by rw [IntKind.wrap_u8]; omega
  have q5 : IntKind.i64.wrap ((n : Int) / 256) = (n : Int) / 256 := by rw [IntKind.wrap_i64]; omega
  have H := Lib.hid (own_lit (n := 2) (size := 1) (e := 5) (cs := #[.int .u8 ((n : Int) / 256), .int .u8 ((n : Int) % 256)]) (Hp.start w) rfl (by unfold maxLen; omega))
  go_enter Tryz.func29, Tryz.ntmps29
  go_wp2
  go_ret
  exact ⟨w.heap.size, rfl, by rw [← HB.out]; exact H.out⟩
set_option maxHeartbeats 16000000 in
set_option maxRecDepth 20000 in
theorem rimput_c (n : Nat) (ad ac : Option Addr) (dc cc : Nat) (d : List UInt8) (c : List I4) (w : World) (hd : CellsIn w ad (d.map bv)) (hc : CellsIn w ac (ics c)) (hk : imck n d c = true) :
    Calls Tryz.prog 10 #[imV n ad d.length dc ac c.length cc] w fun e w' => ∃ v, e = .returned (.tuple #[v, .int .i64 0]) ∧ Hp w w' [OwnU v (imput n d c)] := by
  have H1 := Lib.hid (blk_new (Hp.start w) (.cells #[.int .i64 n, .slice ad d.length dc, .slice ac c.length cc] 25))
  have CK := rimck_c n ad ac dc cc d c _ (hc.hp H1.out)
  rw [hk] at CK
  have C := Lib.hid CK
  obtain ⟨b1, b2, b3, b4, b5⟩ := imck_bounds hk
  have HB : Hid (n ≤ 4096 ∧ d.length ≤ 4096 ∧ c.length ≤ 1024) := Lib.hid ⟨by omega, by omega, b4⟩
  have HD := Lib.hid hd
  have HCC := Lib.hid hc
  obtain ⟨i0, hi, hz0, hz1, hz2⟩ := info_parts info_u8
  have T1 := Lib.hid (two_c n (by omega))
  have T2 := Lib.hid (two_c d.length (by omega))
  have T3 := Lib.hid (two_c c.length (by omega))
  clear CK hk b1 b2 b3 b4 b5 hd hc
  go_enter Tryz.func10, Tryz.ntmps10
  go_upto_region 1 with fail
  obtain ⟨x0, x1, x2⟩ := im_cells H1.out
  generalize (w.alloc (.cells #[.int .i64 n, .slice ad d.length dc, .slice ac c.length cc] 25)) = w1 at *
  generalize hxb : w.heap.size = xb at *
  clear hxb
  go_wp2_with fail
  refine C.out.mono ?_; rintro e w2 ⟨rfl, hb⟩
  have H2 := Lib.hid (H1.out.below_read hb)
  clear hb C H1 x0 x1 x2
  have kc := run_convert_bytes_const_at (P := Tryz.prog) w2 22 5 #[.int .u8 116, .int .u8 107, .int .u8 49] 3 3 w2.heap.size rfl Tryz.underlying22 Tryz.underlying5
  have H3 := Lib.hid (blk_new H2.out (.cells #[.int .u8 116, .int .u8 107, .int .u8 49] 5 (3, 4)))
  clear H2
  obtain ⟨x0, x1, x2⟩ := im_cells (H3.out.pull 1 rfl)
  go_wp2_with fail
  clear kc
  refine (T1.out _).mono ?_; rintro e w3 ⟨g1, rfl, K⟩
  have H4 := Lib.hid (H3.out.lift K)
  clear T1 K H3 x0 x1 x2
  go_wp2_with (at_builtin; refine wpList_append_full rfl (.tmp 11) (.tmp 14) 22 rfl 5 i0 _ 1 1 Tryz.underlying22 hi hz0 hz1 hz2 rfl H4.out w2.heap.size 3 [.int .u8 116, .int .u8 107, .int .u8 49] rfl rfl (blk_newsU (l := [.int .u8 116, .int .u8 107, .int .u8 49]) (blk_get (H4.out.pull 1 rfl))) ⟨g1, 0, none⟩ 2 2 ((two n).map bv) rfl (by simp [two]) ((own_get H4.out).cells (g := g1) rfl) (by omega) (by omega) (by omega) ?_; intro v4 w4 HA0; have HA := Lib.hid (ou_snoc (zs := [116, 107, 49]) (ys := two n) HA0 rfl rfl); have HA := Lib.hid (HA.out.up1.tail.up1.tail); clear HA0 H4; obtain ⟨a4, c4, rfl⟩ := own_slice HA.out; obtain ⟨x0, x1, x2⟩ := im_cells (HA.out.pull 1 rfl))
  refine (T2.out _).mono ?_; rintro e w5 ⟨g2, rfl, K⟩
  have H5 := Lib.hid (HA.out.lift K)
  clear T2 K HA x0 x1 x2
  go_wp2_with (at_builtin; refine wpList_append_hp rfl (.tmp 16) (.tmp 20) 22 rfl 5 i0 _ 1 1 Tryz.underlying22 hi hz0 hz1 hz2 rfl (by decide) (H5.out.pull 1 rfl) rfl ⟨g2, 0, none⟩ 2 2 ((two d.length).map bv) rfl (by simp [two]) ((own_get H5.out).cells (g := g2) rfl) (by simp [Value.oneCell', bv]) (by simp [two]) (by omega) ?_; intro v6 w6 HA0; have HA := Lib.hid (ou_snoc (zs := [116, 107, 49] ++ two n) (ys := two d.length) HA0 rfl rfl); have HA := Lib.hid (HA.out.up1.tail); clear HA0 H5; obtain ⟨a6, c6, rfl⟩ := own_slice HA.out; obtain ⟨x0, x1, x2⟩ := im_cells (HA.out.pull 1 rfl))
  refine (T3.out _).mono ?_; rintro e w7 ⟨g3, rfl, K⟩
  have H7 := Lib.hid (HA.out.lift K)
  clear T3 K HA x0 x1 x2
  obtain ⟨pp, hpp⟩ : ∃ pp, pp = [116, 107, 49] ++ two n ++ two d.length ++ two c.length := ⟨_, rfl⟩
  have HPP := Lib.hid hpp
  have hpl : Hid (pp.length = 9) := Lib.hid (by rw [hpp]; simp [two])
  clear hpp
  have HDD := Lib.hid (fun (wz : World) (r : List Thing) (HW : Hp w wz r) => HD.out.hp HW)
  go_wp2_with (first | (at_builtin; refine wpList_append_hp rfl (.tmp 22) (.tmp 26) 22 rfl 5 i0 _ 1 1 Tryz.underlying22 hi hz0 hz1 hz2 rfl (by decide) (H7.out.pull 1 rfl) rfl ⟨g3, 0, none⟩ 2 2 ((two c.length).map bv) rfl (by simp [two]) ((own_get H7.out).cells (g := g3) rfl) (by simp [Value.oneCell', bv]) (by simp [two]) (by omega) ?_; intro v8 w8 HA0; have HA := Lib.hid (ou_snoc (zs := [116, 107, 49] ++ two n ++ two d.length) (ys := two c.length) HA0 rfl rfl); rw [← HPP.out] at HA; have HA := Lib.hid (HA.out.up1.tail); clear HA0 H7; obtain ⟨a8, c8, rfl⟩ := own_slice HA.out; obtain ⟨x0, x1, x2⟩ := im_cells (HA.out.pull 1 rfl)) | (at_builtin; refine wpList_append_in rfl (.tmp 28) (.tmp 30) 22 rfl 5 i0 _ 1 1 Tryz.underlying22 hi hz0 hz1 hz2 rfl (by decide) HA.out rfl (by have := hpl.out; omega) ad d.length dc (d.map bv) rfl (by simp) (HDD.out _ _ HA.out) (by simp [Value.oneCell', bv]) (by have := hpl.out; have := HB.out; omega) (by omega) ?_; intro v' w6 HA0; have HA := Lib.hid (ou_snoc (zs := pp) (ys := d) HA0 rfl rfl); obtain ⟨a5, c5, rfl⟩ := own_slice HA0; clear HA0 x0 x1 x2; obtain ⟨x0, x1, x2⟩ := im_cells (HA.out.pull 1 rfl)))
  clear x0 x1 x2 HDD
  go_loopw [4, 5] (fun s4 s45 wr => ∃ (k : Nat) (bs : List UInt8), k ≤ c.length ∧ s45 = .int .i64 k ∧ Hid (bs = pp ++ d ++ ibs (c.take k)) ∧ Hid (Hp w wr [OwnU s4 bs, Blk xb (.cells #[.int .i64 n, .slice ad d.length dc, .slice ac c.length cc] 25 (0, 0))])) (fun _ s45 _ => c.length - (intOf s45).toNat)
  case atStart => exact ⟨0, pp ++ d, Nat.zero_le _, rfl, Lib.hid (by simp [ibs]), HA⟩
  case round =>
    obtain ⟨k, bs, hk, rfl, hbs, hH⟩ := hrel
    clear HA
    have hbl : bs.length = pp.length + d.length + k * 4 := by
      have := congrArg List.length hbs.out
      have h2 := ibs_len (c.take k)
      rw [List.length_take] at h2
      simp at this
      rw [this, h2]
      omega
    have HBL := Lib.hid hbl
    clear hbl
    obtain ⟨x0, x1, x2⟩ := im_cells (hH.out.pull 1 rfl)
    by_cases hlt : k < c.length
    · obtain ⟨gc, oc, rfl, c0, c1, c2, c3⟩ := ins_cells (HCC.out.hp hH.out) hlt
      have hkw : IntKind.i64.wrap ((k : Int) + 1) = (k : Int) + 1 := by rw [IntKind.wrap_i64]; have := HB.out; omega
      have hst := Lib.hid (ibs_take c k hlt)
      have HLT := Lib.hid hlt
      generalize c[k] = x at *
      obtain ⟨yo, ya, yb, yc⟩ := x
      simp only at c0 c1 c2 c3
      obtain ⟨g4, c4, rfl⟩ := Go.Joins.ownsRow_form (own_get hH.out) (by have := HBL.out; have := hpl.out; omega)
      have HPC := Lib.hid (rput_c (op := yo.toNat) (a := ya.toNat) (b := yb.toNat) (c := yc.toNat) hH.out)
      have j1 : (k : Int) < (c.length : Int) := by have := HLT.out; omega
      clear hk hlt
      go_wp2_with fail
      refine HPC.out.mono ?_; rintro e w7 ⟨rfl, H7⟩
      have H8 := Lib.hid (blk_new H7 (.cells #[bv yo, bv ya, bv yb, bv yc] 62))
      have H9 := Lib.hid (H8.out.pull 1 rfl)
      clear HPC H7 hH c0 c1 c2 c3 x0 x1 x2 j1
      go_wp2_with (at_builtin; refine wpList_append_hp rfl (.tmp 45) (.tmp 46) 22 rfl 5 i0 _ 1 1 Tryz.underlying22 hi hz0 hz1 hz2 rfl (by decide) H9.out rfl ⟨w7.heap.size, 0, none⟩ 4 4 [bv yo, bv ya, bv yb, bv yc] rfl rfl (blk_newsU (blk_get H8.out)) (by simp [Value.oneCell', bv]) (by have := HBL.out; have := hpl.out; have := HB.out; have := HLT.out; omega) (by omega) ?_)
      intro v' w8 HA0
      have HA : Hid (Hp w w8 (OwnU v' (bs ++ i4b (yo, ya, yb, yc)) :: _)) := Lib.hid (ou_snoc (zs := bs) (ys := i4b (yo, ya, yb, yc)) HA0 rfl rfl)
      have HB2 := Lib.hid HA.out.up1.tail
      obtain ⟨a5, c5, rfl⟩ := own_slice HA0
      clear HA0 HA H8 H9
      go_wp2
      go_roundw
      case rel => exact ⟨k + 1, bs ++ i4b (yo, ya, yb, yc), by have := HLT.out; omega, by go_num, Lib.hid (by rw [hbs.out, hst.out]; simp), HB2⟩
      case measure => have := HLT.out; simp [intOf]; omega
    · obtain rfl : k = c.length := by omega
      have he : bs = imput n d c := by rw [hbs.out, HPP.out, List.take_length]; rfl
      have HE := Lib.hid he
      clear hbs HBL he
      obtain ⟨a4, c4, rfl⟩ := own_slice hH.out
      have j1 : ¬ (c.length : Int) < (c.length : Int) := by omega
      clear hk hlt
      go_wp2
      go_ret2
      exact ⟨.slice a4 bs.length c4, rfl, by rw [← HE.out]; exact hH.out.up1.tail⟩
set_option maxHeartbeats 4000000 in
set_option maxRecDepth 20000 in
theorem rimput_no (n : Int) (ad ac : Option Addr) (dc cc : Nat) (d : List UInt8) (c : List I4) (w : World) (hc : CellsIn w ac (ics c)) (hk : imck n d c = false) :
    Calls Tryz.prog 10 #[imV n ad d.length dc ac c.length cc] w fun e w' => e = .returned (.tuple #[.slice none 0 0, .int .i64 1]) ∧ Below w.heap.size w w' := by
  have H1 := Lib.hid (blk_new (Hp.start w) (.cells #[.int .i64 n, .slice ad d.length dc, .slice ac c.length cc] 25))
  have CK := rimck_c n ad ac dc cc d c _ (hc.hp H1.out)
  rw [hk] at CK
  have C := Lib.hid CK
  clear CK hk hc
  go_enter Tryz.func10, Tryz.ntmps10
  go_upto_region 1 with fail
  obtain ⟨x0, x1, x2⟩ := im_cells H1.out
  generalize (w.alloc (.cells #[.int .i64 n, .slice ad d.length dc, .slice ac c.length cc] 25)) = w1 at *
  go_wp2_with fail
  refine C.out.mono ?_; rintro e w2 ⟨rfl, hb⟩
  have H2 := Lib.hid (H1.out.below_read hb)
  clear hb C H1 x0 x1 x2
  go_wp2
  go_ret2
  exact ⟨rfl, H2.out.below⟩
end Go.Proofs.YtcfoljdpffonhaaGreatDoor
