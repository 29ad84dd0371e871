/- CpuCounts: a core that adds up its bytes: walked. -/
import Derived.Test.YtijkkompnfpdeaaGreatDoorUw
import Derived.Test.YtijkkompnfpdeaaGreatDoorVa
set_option linter.unusedVariables false
set_option linter.unusedSimpArgs false
namespace Go.Proofs.YtijkkompnfpdeaaGreatDoor
open Go.RowKit Go.Joins Go.Shelf
attribute [local go_sem] Oper.semAt_some

theorem C8_im {n : UInt8} {d : List UInt8} (h : d.length ≤ 250) : imck (d.length : Int) d (C8 n) = true := by
  unfold imck
  rw [C8_ok]
  simp [C8]; omega
theorem st8_zero (n : UInt8) (d : List UInt8) : firstC d.length d = st8 n d 0 := by simp [firstC, st8, List.replicate]
def CouP (w : World) (e : Ending) (w' : World) : Prop := e = .returned (.bool true) ∧ Below w.heap.size w w'
theorem eq_self_str (x : ByteArray) (w : World) : (binOp .eql 9 (.string x) (.string x)).run Tryz.prog w = .ok (.bool true) w := by
  simp [go_sem]
abbrev L20 (b rb ab : Nat) (n : UInt8) (s7 : Cs) (v k1 su k2 : UInt32) : List Thing := [CR b (C8 n) s7, Blk rb (.cells #[.int .u32 0, wv v, wv k1, wv su, wv k2, .int .u32 1, .int .u32 0, .int .u32 0] 40 (0, 0)), Blk ab (.cells #[.int .u8 20, wv ak0.h, wv ak0.v, wv ak0.m, .int .i64 ak0.wait] 37 (0, 0))]
theorem s20 {w W : World} {b rb ab : Nat} {n : UInt8} {s7 : Cs} {v k1 su k2 : UInt32} (H : Hp w W (L20 b rb ab n s7 v k1 su k2)) : W.cell? ⟨ab, 0, none⟩ = some (.int .u8 20) ∧ W.cell? ⟨ab, 1, none⟩ = some (.int .u32 0) ∧ W.cell? ⟨ab, 2, none⟩ = some (.int .u32 0) ∧ W.cell? ⟨ab, 3, none⟩ = some (.int .u32 0) ∧ W.cell? ⟨ab, 4, none⟩ = some (.int .i64 0) ∧ W.cell? ⟨rb, 3, none⟩ = some (wv su) :=
  ⟨cell_blk (blk_get (H.pull 2 rfl)) 0, cell_blk (blk_get (H.pull 2 rfl)) 1, cell_blk (blk_get (H.pull 2 rfl)) 2, cell_blk (blk_get (H.pull 2 rfl)) 3, cell_blk (blk_get (H.pull 2 rfl)) 4, cell_blk (blk_get (H.pull 1 rfl)) 3⟩
theorem eq_end (w : World) : (binOp .eql 37 (.agg #[.int .u8 20, .int .u32 0, .int .u32 0, .int .u32 0, .int .i64 0]) (.agg #[.int .u8 20, .int .u32 0, .int .u32 0, .int .u32 0, .int .i64 0])).run Tryz.prog w = .ok (.bool true) w := by kernel_rfl
set_option maxHeartbeats 16000000 in
set_option maxRecDepth 20000 in
theorem counts_c (w : World) (ad : Option Addr) (dc : Nat) (d : List UInt8) (hd : CellsIn w ad (d.map bv)) :
    Calls Tryz.prog 3 #[.slice ad d.length dc] w (CouP w) := by
  have LV := Lib.hid (lives_c w)
  by_cases hz : d.length = 0
  · have h1 : (d.length : Int) = 0 := by omega
    have h1' : ((d.length : Int) == 0) = true := by simp; exact List.eq_nil_of_length_eq_zero hz
    clear hd
    go_enter Tryz.func3, Tryz.ntmps3
    go_wp2_with fail
    refine LV.out.mono ?_; rintro e w1 ⟨rfl, hb⟩
    have HB := Lib.hid hb
    clear LV hb
    go_wp2
    go_ret
    exact ⟨rfl, HB.out⟩
  by_cases hlen : 250 < d.length
  · have h1 : (250 : Int) < (d.length : Int) := by omega
    have h2 : ¬ (d.length : Int) = 0 := by omega
    have h3 : ((d.length : Int) == 0) = false := by simp; intro h; rw [h] at hz; simp at hz
    clear hd
    go_enter Tryz.func3, Tryz.ntmps3
    go_wp2_with fail
    refine LV.out.mono ?_; rintro e w1 ⟨rfl, hb⟩
    have HB := Lib.hid hb
    clear LV hb
    go_wp2
    go_ret
    exact ⟨rfl, HB.out⟩
  · have h1 : ¬ (250 : Int) < (d.length : Int) := by omega
    have h2 : ¬ (d.length : Int) = 0 := by omega
    have h3 : ((d.length : Int) == 0) = false := by simp; intro h; rw [h] at hz; simp at hz
    clear LV
    obtain ⟨n, hn⟩ : ∃ n : UInt8, n.toNat = d.length := ⟨UInt8.ofNat d.length, by rw [UInt8.toNat_ofNat']; omega⟩
    have q1 : IntKind.u8.wrap (d.length : Int) = (n.toNat : Int) := by rw [IntKind.wrap_u8, hn]; omega
    have HL := Lib.hid (show 0 < d.length ∧ d.length ≤ 250 from ⟨by omega, by omega⟩)
    have HN := Lib.hid hn
    have H0 := own_lit (n := 8) (size := 4) (e := 26) (cs := #[.int .u8 1, .int .u8 4, .int .u8 0, bv n, .int .u8 1, .int .u8 5, .int .u8 0, .int .u8 1, .int .u8 13, .int .u8 1, .int .u8 2, .int .u8 0, .int .u8 3, .int .u8 3, .int .u8 3, .int .u8 1, .int .u8 20, .int .u8 1, .int .u8 0, .int .u8 0, .int .u8 3, .int .u8 2, .int .u8 2, .int .u8 5, .int .u8 16, .int .u8 2, .int .u8 4, .int .u8 251, .int .u8 22, .int .u8 0, .int .u8 0, .int .u8 0]) (Hp.start w) rfl (by decide)
    have H1 := Lib.hid (blk_new_at H0 (.cells #[.int .i64 (d.length : Int), .slice ad d.length dc, .slice (some ⟨w.heap.size, 0, none⟩) 8 8] 29) (w.heap.size + 1) (size_alloc1 _ _))
    have HD0 := Lib.hid hd
    clear H0 hd hlen hz hn
    go_enter Tryz.func3, Tryz.ntmps3
    go_upto_region 4 with fail
    generalize w.heap.size + 1 = mb at *
    generalize hcb : w.heap.size = cb at *
    have HCB := Lib.hid hcb
    clear hcb h1 h2 h3 q1
    generalize (w.alloc _).alloc _ = W at *
    have hm := blk_get H1.out
    have x0 : W.cell? ⟨mb, 0, none⟩ = some (.int .i64 (d.length : Int)) := cell_blk hm 0
    have x1 : W.cell? ⟨mb, 1, none⟩ = some (.slice ad d.length dc) := cell_blk hm 1
    have x2 : W.cell? ⟨mb, 2, none⟩ = some (.slice (some ⟨cb, 0, none⟩) 8 8) := cell_blk hm 2
    have HC : CellsIn W (some ⟨cb, 0, none⟩) (ics (C8 n)) := CellsIn.own (H1.out.pull 1 rfl)
    have NC := Lib.hid (new_y d.length ad (some ⟨cb, 0, none⟩) dc 8 d (C8 n) (C8_im HL.out.2) (HD0.out.below H1.out.below) HC H1.out)
    clear hm HC
    go_wp2_with fail
    refine NC.out.mono ?_; rintro e w1 ⟨b, rfl, H2'⟩
    rw [st8_zero n d] at H2'
    have H2 := Lib.hid (H2'.take 1)
    clear NC H1 H2' x0 x1 x2
    have m1 : IntKind.i64.wrap (5 * (d.length : Int)) = 5 * (d.length : Int) := by have := HL.out; rw [IntKind.wrap_i64]; omega
    have m2 : IntKind.i64.wrap (2 + 5 * (d.length : Int)) = 2 + 5 * (d.length : Int) := by have := HL.out; rw [IntKind.wrap_i64]; omega
    go_wp2
    go_loopw [6] (fun s6 wr => ∃ i : Nat, i ≤ 2 + 5 * d.length ∧ s6 = .int .i64 (i : Int) ∧ Hid (Hp w wr [CR b (C8 n) (st8 n d i)])) (fun s6 _ => 2 + 5 * d.length - (intOf s6).toNat)
    case atStart => exact ⟨0, by omega, rfl, H2⟩
    case round =>
      obtain ⟨i, hi, rfl, HI⟩ := hrel
      clear H2
      by_cases hlt : i < 2 + 5 * d.length
      · have PH := (st8_five HL.out.2 HN.out HL.out.1 d.length (Nat.le_refl _)).2 i hlt
        have SE := Lib.hid (fun W r (H : Hp w W (CR b (C8 n) (st8 n d i) :: r)) => step_e (st8_step PH) (C8_ok n) (by simp [C8]) PH.2 H)
        have t1 : (i : Int) < 2 + 5 * (d.length : Int) := by omega
        have t2 : IntKind.i64.wrap ((i : Int) + 1) = (i : Int) + 1 := by have := HL.out; rw [IntKind.wrap_i64]; omega
        have HLT := Lib.hid hlt
        clear PH hlt hi
        go_wp2_with fail
        refine (SE.out _ _ HI.out).mono ?_; rintro e w2 ⟨rfl, H3'⟩
        have H3 := Lib.hid H3'
        clear SE HI H3'
        go_wp2
        go_roundw
        case rel => exact ⟨i + 1, by have := HLT.out; omega, by go_num, Lib.hid (H3.out.alloc _)⟩
        case measure => have := HLT.out; simp [intOf]; omega
      obtain rfl : i = 2 + 5 * d.length := by omega
      obtain ⟨v, hv⟩ := st8_end (n := n) HL.out.2 HN.out HL.out.1
      have HI2 := Lib.hid (by have := HI.out; rwa [hv] at this)
      have t1 : ¬ ((2 + 5 * d.length : Nat) : Int) < 2 + 5 * (d.length : Int) := by omega
      clear hv HI hi hlt
      go_wp2_with fail
      refine (step_e st8_last (C8_ok n) (by simp [C8]) (by show d.length < 256; have := HL.out; omega) HI2.out).mono ?_; rintro e w3 ⟨rfl, H3'⟩
      have H3 := Lib.hid H3'
      clear HI2 H3' m1 m2 t1
      go_upto_region 14 with fail
      have H4 := Lib.hid (blk_new H3.out (.cells #[.int .u8 20, wv ak0.h, wv ak0.v, wv ak0.m, .int .i64 ak0.wait] 37)).up1
      generalize w3.heap.size = ab at *
      generalize w3.alloc _ = W4 at *
      clear H3
      have HD := Lib.hid (HD0.out.below H4.out.below)
      go_wp2
      go_loopw [13, 14] (fun s13 s14 wr => ∃ k : Nat, k ≤ d.length ∧ s13 = wv (sm d k) ∧ s14 = .int .i64 (k : Int) ∧ wr = W4) (fun _ s14 _ => d.length - (intOf s14).toNat)
      case atStart => exact ⟨0, by omega, rfl, rfl, by trivial⟩
      case round =>
        obtain ⟨k, hk, rfl, rfl, rfl⟩ := hrel
        by_cases hlt : k < d.length
        · obtain ⟨g, oo, rfl, c0⟩ := byte_cell HD.out hlt
          have y1 : IntKind.i64.wrap ((k : Int) + 1) = (k : Int) + 1 := by have := HL.out; rw [IntKind.wrap_i64]; omega
          have y2 := w8_32 d[k]
          have y3 : IntKind.u32.wrap (((sm d k).toNat : Int) + (d[k].toNat : Int)) = ((sm d (k + 1)).toNat : Int) := by
            have h := u32_add (sm d k) (UInt32.ofNat d[k].toNat)
            rw [UInt32.toNat_ofNat', Nat.mod_eq_of_lt (by have := d[k].toNat_lt; omega)] at h
            rw [h]
            simp [sm, hlt]
          have HLT := Lib.hid hlt
          generalize d[k] = x at *
          clear hk hlt
          go_wp2
          go_roundw
          case rel => exact ⟨k + 1, by have := HLT.out; omega, rfl, by go_num, by trivial⟩
          case measure => have := HLT.out; simp [intOf]; omega
        obtain rfl : k = d.length := by omega
        clear hlt hk
        go_wp2_with fail
        refine (regs_of (s := ⟨[0, v, UInt32.ofNat d.length, sm d d.length, UInt32.ofNat (0 * 256 + n.toNat), 1, 0, 0], 8, d, d, true⟩) 0 v (UInt32.ofNat d.length) (sm d d.length) (UInt32.ofNat (0 * 256 + n.toNat)) 1 0 0 rfl H4.out).mono ?_; intro e w5 hp
        obtain ⟨rfl, H5'⟩ : e = .returned (.agg #[wv 0, wv v, wv (UInt32.ofNat d.length), wv (sm d d.length), wv (UInt32.ofNat (0 * 256 + n.toNat)), wv 1, wv 0, wv 0]) ∧ _ := hp
        have H5 := Lib.hid H5'
        clear H4 H5'
        generalize UInt32.ofNat d.length = k1 at *
        generalize UInt32.ofNat (0 * 256 + n.toNat) = k2 at *
        generalize sm d d.length = su at *
        go_upto_region 20 with fail
        have H6 := Lib.hid (blk_new H5.out (.cells #[.int .u32 0, wv v, wv k1, wv su, wv k2, .int .u32 1, .int .u32 0, .int .u32 0] 40)).up1
        generalize w5.heap.size = rb at *
        generalize w5.alloc _ = W6 at *
        clear H5
        have hes := eq_self_str
        have hee := eq_end
        refine wp_region_S 32 (fun W => Hp w W (L20 b rb ab n ⟨[0, v, k1, su, k2, 1, 0, 0], 8, d, d, true⟩ v k1 su k2)) (by as_aux_lemma => kernel_rfl) ?_
        have hSS : (fun (W : World) => Hp w W (L20 b rb ab n ⟨[0, v, k1, su, k2, 1, 0, 0], 8, d, d, true⟩ v k1 su k2)) W6.drew := H6.out.drew
        clear H6
        refine wpAnyS_tk (i := 0) (by as_aux_lemma => kernel_rfl) (by intro c a d v w h; cases d <;> exact h) hSS (fun oi hoi => ?_)
        simp only [List.getElem?_toArray, List.getElem?_cons_zero, List.getElem?_cons_succ, Option.some.injEq] at hoi; subst hoi
        refine ⟨?_, by rfl, fun wx hSx => ?_, ?_⟩
        rotate_left
        · obtain ⟨c0, c1, c2, c3, c4, c5⟩ := s20 hSx; have hcv := conv_cells wx ad dc d (HD0.out.below hSx.below)
          go_simp
          try with_reducible rfl
        try simp only [Act.put, List.setIfInBounds_toArray, List.set_cons_zero, List.set_cons_succ]
        refine wpAnyS_tk (i := 1) (by as_aux_lemma => kernel_rfl) (by intro c a d v w h; cases d <;> exact h) hSS (fun oi hoi => ?_)
        simp only [List.getElem?_toArray, List.getElem?_cons_zero, List.getElem?_cons_succ, Option.some.injEq] at hoi; subst hoi
        refine ⟨?_, by rfl, fun wx hSx => ?_, ?_⟩
        rotate_left
        · obtain ⟨c0, c1, c2, c3, c4, c5⟩ := s20 hSx; have hcv := conv_cells wx ad dc d (HD0.out.below hSx.below)
          go_simp
          try with_reducible rfl
        try simp only [Act.put, List.setIfInBounds_toArray, List.set_cons_zero, List.set_cons_succ]
        refine wpAnyS_tk (i := 2) (by as_aux_lemma => kernel_rfl) (by intro c a d v w h; cases d <;> exact h) hSS (fun oi hoi => ?_)
        simp only [List.getElem?_toArray, List.getElem?_cons_zero, List.getElem?_cons_succ, Option.some.injEq] at hoi; subst hoi
        refine ⟨?_, by rfl, fun wx hSx => ?_, ?_⟩
        rotate_left
        · obtain ⟨c0, c1, c2, c3, c4, c5⟩ := s20 hSx; have hcv := conv_cells wx ad dc d (HD0.out.below hSx.below)
          go_simp
          try with_reducible rfl
        try simp only [Act.put, List.setIfInBounds_toArray, List.set_cons_zero, List.set_cons_succ]
        refine wpAnyS_tk (i := 3) (by as_aux_lemma => kernel_rfl) (by intro c a d v w h; cases d <;> exact h) hSS (fun oi hoi => ?_)
        simp only [List.getElem?_toArray, List.getElem?_cons_zero, List.getElem?_cons_succ, Option.some.injEq] at hoi; subst hoi
        refine ⟨?_, by rfl, fun wx hSx => ?_, ?_⟩
        rotate_left
        · obtain ⟨c0, c1, c2, c3, c4, c5⟩ := s20 hSx; have hcv := conv_cells wx ad dc d (HD0.out.below hSx.below)
          go_simp
          try with_reducible rfl
        try simp only [Act.put, List.setIfInBounds_toArray, List.set_cons_zero, List.set_cons_succ]
        refine wpAnyS_tk (i := 4) (by as_aux_lemma => kernel_rfl) (by intro c a d v w h; cases d <;> exact h) hSS (fun oi hoi => ?_)
        simp only [List.getElem?_toArray, List.getElem?_cons_zero, List.getElem?_cons_succ, Option.some.injEq] at hoi; subst hoi
        refine ⟨?_, by rfl, fun wx hSx => ?_, ?_⟩
        rotate_left
        · obtain ⟨c0, c1, c2, c3, c4, c5⟩ := s20 hSx; have hcv := conv_cells wx ad dc d (HD0.out.below hSx.below)
          go_simp
          try with_reducible rfl
        try simp only [Act.put, List.setIfInBounds_toArray, List.set_cons_zero, List.set_cons_succ]
        refine wpAnyS_tk (i := 5) (by as_aux_lemma => kernel_rfl) (by intro c a d v w h; cases d <;> exact h) hSS (fun oi hoi => ?_)
        simp only [List.getElem?_toArray, List.getElem?_cons_zero, List.getElem?_cons_succ, Option.some.injEq] at hoi; subst hoi
        refine ⟨?_, by rfl, fun wx hSx => ?_, ?_⟩
        rotate_left
        · obtain ⟨c0, c1, c2, c3, c4, c5⟩ := s20 hSx; have hcv := conv_cells wx ad dc d (HD0.out.below hSx.below)
          go_simp
          try with_reducible rfl
        try simp only [Act.put, List.setIfInBounds_toArray, List.set_cons_zero, List.set_cons_succ]
        refine wpAnyS_tk (i := 6) (by as_aux_lemma => kernel_rfl) (by intro c a d v w h; cases d <;> exact h) hSS (fun oi hoi => ?_)
        simp only [List.getElem?_toArray, List.getElem?_cons_zero, List.getElem?_cons_succ, Option.some.injEq] at hoi; subst hoi
        refine ⟨?_, by rfl, fun wx hSx => ?_, ?_⟩
        rotate_left
        · obtain ⟨c0, c1, c2, c3, c4, c5⟩ := s20 hSx; have hcv := conv_cells wx ad dc d (HD0.out.below hSx.below)
          go_simp
          try with_reducible rfl
        try simp only [Act.put, List.setIfInBounds_toArray, List.set_cons_zero, List.set_cons_succ]
        refine wpAnyS_tk (i := 7) (by as_aux_lemma => kernel_rfl) (by intro c a d v w h; cases d <;> exact h) hSS (fun oi hoi => ?_)
        simp only [List.getElem?_toArray, List.getElem?_cons_zero, List.getElem?_cons_succ, Option.some.injEq] at hoi; subst hoi
        refine ⟨?_, by rfl, fun wx hSx => ?_, ?_⟩
        rotate_left
        · obtain ⟨c0, c1, c2, c3, c4, c5⟩ := s20 hSx; have hcv := conv_cells wx ad dc d (HD0.out.below hSx.below)
          go_simp
          try with_reducible rfl
        try simp only [Act.put, List.setIfInBounds_toArray, List.set_cons_zero, List.set_cons_succ]
        refine wpAnyS_tk (i := 8) (by as_aux_lemma => kernel_rfl) (by intro c a d v w h; cases d <;> exact h) hSS (fun oi hoi => ?_)
        simp only [List.getElem?_toArray, List.getElem?_cons_zero, List.getElem?_cons_succ, Option.some.injEq] at hoi; subst hoi
        refine ⟨?_, by rfl, fun wx hSx => ?_, ?_⟩
        rotate_left
        · obtain ⟨c0, c1, c2, c3, c4, c5⟩ := s20 hSx; have hcv := conv_cells wx ad dc d (HD0.out.below hSx.below)
          go_simp
          try with_reducible rfl
        try simp only [Act.put, List.setIfInBounds_toArray, List.set_cons_zero, List.set_cons_succ]
        refine wpAnyS_tk (i := 9) (by as_aux_lemma => kernel_rfl) (by intro c a d v w h; cases d <;> exact h) hSS (fun oi hoi => ?_)
        simp only [List.getElem?_toArray, List.getElem?_cons_zero, List.getElem?_cons_succ, Option.some.injEq] at hoi; subst hoi
        refine ⟨?_, by rfl, fun wx hSx => ?_, ?_⟩
        rotate_left
        · obtain ⟨c0, c1, c2, c3, c4, c5⟩ := s20 hSx; have hcv := conv_cells wx ad dc d (HD0.out.below hSx.below)
          go_simp
          try with_reducible rfl
        try simp only [Act.put, List.setIfInBounds_toArray, List.set_cons_zero, List.set_cons_succ]
        refine wpAnyS_tk (i := 10) (by as_aux_lemma => kernel_rfl) (by intro c a d v w h; cases d <;> exact h) hSS (fun oi hoi => ?_)
        simp only [List.getElem?_toArray, List.getElem?_cons_zero, List.getElem?_cons_succ, Option.some.injEq] at hoi; subst hoi
        refine ⟨?_, by rfl, fun wx hSx => ?_, ?_⟩
        rotate_left
        · obtain ⟨c0, c1, c2, c3, c4, c5⟩ := s20 hSx; have hcv := conv_cells wx ad dc d (HD0.out.below hSx.below)
          go_simp
          try with_reducible rfl
        try simp only [Act.put, List.setIfInBounds_toArray, List.set_cons_zero, List.set_cons_succ]
        refine wpAnyS_tk (i := 11) (by as_aux_lemma => kernel_rfl) (by intro c a d v w h; cases d <;> exact h) hSS (fun oi hoi => ?_)
        simp only [List.getElem?_toArray, List.getElem?_cons_zero, List.getElem?_cons_succ, Option.some.injEq] at hoi; subst hoi
        refine ⟨?_, by rfl, fun wx hSx => ?_, ?_⟩
        rotate_left
        · obtain ⟨c0, c1, c2, c3, c4, c5⟩ := s20 hSx; have hcv := conv_cells wx ad dc d (HD0.out.below hSx.below)
          go_simp
          try with_reducible rfl
        try simp only [Act.put, List.setIfInBounds_toArray, List.set_cons_zero, List.set_cons_succ]
        refine wpAnyS_tk (i := 12) (by as_aux_lemma => kernel_rfl) (by intro c a d v w h; cases d <;> exact h) hSS (fun oi hoi => ?_)
        simp only [List.getElem?_toArray, List.getElem?_cons_zero, List.getElem?_cons_succ, Option.some.injEq] at hoi; subst hoi
        refine ⟨?_, by rfl, fun wx hSx => ?_, ?_⟩
        rotate_left
        · obtain ⟨c0, c1, c2, c3, c4, c5⟩ := s20 hSx; have hcv := conv_cells wx ad dc d (HD0.out.below hSx.below)
          go_simp
          try with_reducible rfl
        try simp only [Act.put, List.setIfInBounds_toArray, List.set_cons_zero, List.set_cons_succ]
        refine wpAnyS_tk (i := 13) (by as_aux_lemma => kernel_rfl) (by intro c a d v w h; cases d <;> exact h) hSS (fun oi hoi => ?_)
        simp only [List.getElem?_toArray, List.getElem?_cons_zero, List.getElem?_cons_succ, Option.some.injEq] at hoi; subst hoi
        refine ⟨?_, by rfl, fun wx hSx => ?_, ?_⟩
        rotate_left
        · obtain ⟨c0, c1, c2, c3, c4, c5⟩ := s20 hSx; have hcv := conv_cells wx ad dc d (HD0.out.below hSx.below)
          go_simp
          try with_reducible rfl
        try simp only [Act.put, List.setIfInBounds_toArray, List.set_cons_zero, List.set_cons_succ]
        refine wpAnyS_tk (i := 14) (by as_aux_lemma => kernel_rfl) (by intro c a d v w h; cases d <;> exact h) hSS (fun oi hoi => ?_)
        simp only [List.getElem?_toArray, List.getElem?_cons_zero, List.getElem?_cons_succ, Option.some.injEq] at hoi; subst hoi
        refine ⟨?_, by rfl, fun wx hSx => ?_, ?_⟩
        rotate_left
        · obtain ⟨c0, c1, c2, c3, c4, c5⟩ := s20 hSx; have hcv := conv_cells wx ad dc d (HD0.out.below hSx.below)
          go_simp
          try with_reducible rfl
        try simp only [Act.put, List.setIfInBounds_toArray, List.set_cons_zero, List.set_cons_succ]
        refine wpAnyS_tk (i := 15) (by as_aux_lemma => kernel_rfl) (by intro c a d v w h; cases d <;> exact h) hSS (fun oi hoi => ?_)
        simp only [List.getElem?_toArray, List.getElem?_cons_zero, List.getElem?_cons_succ, Option.some.injEq] at hoi; subst hoi
        refine ⟨?_, by rfl, fun wx hSx => ?_, ?_⟩
        rotate_left
        · obtain ⟨c0, c1, c2, c3, c4, c5⟩ := s20 hSx; have hcv := conv_cells wx ad dc d (HD0.out.below hSx.below)
          go_simp
          try with_reducible rfl
        try simp only [Act.put, List.setIfInBounds_toArray, List.set_cons_zero, List.set_cons_succ]
        refine wpAnyS_tk (i := 16) (by as_aux_lemma => kernel_rfl) (by intro c a d v w h; cases d <;> exact h) hSS (fun oi hoi => ?_)
        simp only [List.getElem?_toArray, List.getElem?_cons_zero, List.getElem?_cons_succ, Option.some.injEq] at hoi; subst hoi
        refine ⟨?_, by rfl, fun wx hSx => ?_, ?_⟩
        rotate_left
        · obtain ⟨c0, c1, c2, c3, c4, c5⟩ := s20 hSx; have hcv := conv_cells wx ad dc d (HD0.out.below hSx.below)
          go_simp
          try with_reducible rfl
        try simp only [Act.put, List.setIfInBounds_toArray, List.set_cons_zero, List.set_cons_succ]
        refine wpAnyS_tk (i := 17) (by as_aux_lemma => kernel_rfl) (by intro c a d v w h; cases d <;> exact h) hSS (fun oi hoi => ?_)
        simp only [List.getElem?_toArray, List.getElem?_cons_zero, List.getElem?_cons_succ, Option.some.injEq] at hoi; subst hoi
        refine ⟨?_, by rfl, fun wx hSx => ?_, ?_⟩
        rotate_left
        · obtain ⟨c0, c1, c2, c3, c4, c5⟩ := s20 hSx; have hcv := conv_cells wx ad dc d (HD0.out.below hSx.below)
          go_simp
          try with_reducible rfl
        try simp only [Act.put, List.setIfInBounds_toArray, List.set_cons_zero, List.set_cons_succ]
        refine wpAnyS_tk (i := 19) (by as_aux_lemma => kernel_rfl) (by intro c a d v w h; cases d <;> exact h) hSS (fun oi hoi => ?_)
        simp only [List.getElem?_toArray, List.getElem?_cons_zero, List.getElem?_cons_succ, Option.some.injEq] at hoi; subst hoi
        refine ⟨?_, by rfl, fun wx hSx => ?_, ?_⟩
        rotate_left
        · obtain ⟨c0, c1, c2, c3, c4, c5⟩ := s20 hSx; have hcv := conv_cells wx ad dc d (HD0.out.below hSx.below)
          go_simp
          try with_reducible rfl
        try simp only [Act.put, List.setIfInBounds_toArray, List.set_cons_zero, List.set_cons_succ]
        refine wpAnyS_tk (i := 20) (by as_aux_lemma => kernel_rfl) (by intro c a d v w h; cases d <;> exact h) hSS (fun oi hoi => ?_)
        simp only [List.getElem?_toArray, List.getElem?_cons_zero, List.getElem?_cons_succ, Option.some.injEq] at hoi; subst hoi
        refine ⟨?_, by rfl, fun wx hSx => ?_, ?_⟩
        rotate_left
        · obtain ⟨c0, c1, c2, c3, c4, c5⟩ := s20 hSx; have hcv := conv_cells wx ad dc d (HD0.out.below hSx.below)
          go_simp
          try with_reducible rfl
        try simp only [Act.put, List.setIfInBounds_toArray, List.set_cons_zero, List.set_cons_succ]
        refine wpAnyS_one (i := 18) (by as_aux_lemma => kernel_rfl) ?_
        intro oi hoi K hK
        simp only [List.getElem?_toArray, List.getElem?_cons_zero, List.getElem?_cons_succ, Option.some.injEq] at hoi; subst hoi
        go_simp
        go_at_call 11
        refine (console_of hSS).mono ?_; intro e w7 hp
        obtain ⟨rfl, H7⟩ : e = .returned (.string ⟨d.toArray⟩) ∧ _ := hp
        clear hSS
        have hSS : (fun (W : World) => Hp w W (L20 b rb ab n ⟨[0, v, k1, su, k2, 1, 0, 0], 8, d, d, true⟩ v k1 su k2)) w7 := H7
        clear H7
        refine hK.out _ _ (fun _ => hSS) ?_
        clear hK K
        try simp only [Act.put, List.setIfInBounds_toArray, List.set_cons_zero, List.set_cons_succ]
        refine wpAnyS_tk (i := 21) (by as_aux_lemma => kernel_rfl) (by intro c a d v w h; cases d <;> exact h) hSS (fun oi hoi => ?_)
        simp only [List.getElem?_toArray, List.getElem?_cons_zero, List.getElem?_cons_succ, Option.some.injEq] at hoi; subst hoi
        refine ⟨?_, by rfl, fun wx hSx => ?_, ?_⟩
        rotate_left
        · obtain ⟨c0, c1, c2, c3, c4, c5⟩ := s20 hSx; have hcv := conv_cells wx ad dc d (HD0.out.below hSx.below)
          go_simp
          try with_reducible rfl
        try simp only [Act.put, List.setIfInBounds_toArray, List.set_cons_zero, List.set_cons_succ]
        refine wpAnyS_tk (i := 22) (by as_aux_lemma => kernel_rfl) (by intro c a d v w h; cases d <;> exact h) hSS (fun oi hoi => ?_)
        simp only [List.getElem?_toArray, List.getElem?_cons_zero, List.getElem?_cons_succ, Option.some.injEq] at hoi; subst hoi
        refine ⟨?_, by rfl, fun wx hSx => ?_, ?_⟩
        rotate_left
        · obtain ⟨c0, c1, c2, c3, c4, c5⟩ := s20 hSx; have hcv := conv_cells wx ad dc d (HD0.out.below hSx.below)
          go_simp
          try with_reducible rfl
        try simp only [Act.put, List.setIfInBounds_toArray, List.set_cons_zero, List.set_cons_succ]
        refine wpAnyS_tk (i := 23) (by as_aux_lemma => kernel_rfl) (by intro c a d v w h; cases d <;> exact h) hSS (fun oi hoi => ?_)
        simp only [List.getElem?_toArray, List.getElem?_cons_zero, List.getElem?_cons_succ, Option.some.injEq] at hoi; subst hoi
        refine ⟨?_, by rfl, fun wx hSx => ?_, ?_⟩
        rotate_left
        · obtain ⟨c0, c1, c2, c3, c4, c5⟩ := s20 hSx; have hcv := conv_cells wx ad dc d (HD0.out.below hSx.below)
          go_simp
          try with_reducible rfl
        try simp only [Act.put, List.setIfInBounds_toArray, List.set_cons_zero, List.set_cons_succ]
        refine wpAnyS_tk (i := 24) (by as_aux_lemma => kernel_rfl) (by intro c a d v w h; cases d <;> exact h) hSS (fun oi hoi => ?_)
        simp only [List.getElem?_toArray, List.getElem?_cons_zero, List.getElem?_cons_succ, Option.some.injEq] at hoi; subst hoi
        refine ⟨?_, by rfl, fun wx hSx => ?_, ?_⟩
        rotate_left
        · obtain ⟨c0, c1, c2, c3, c4, c5⟩ := s20 hSx; have hcv := conv_cells wx ad dc d (HD0.out.below hSx.below)
          go_simp
          try with_reducible rfl
        try simp only [Act.put, List.setIfInBounds_toArray, List.set_cons_zero, List.set_cons_succ]
        refine wpAnyS_tk (i := 26) (by as_aux_lemma => kernel_rfl) (by intro c a d v w h; cases d <;> exact h) hSS (fun oi hoi => ?_)
        simp only [List.getElem?_toArray, List.getElem?_cons_zero, List.getElem?_cons_succ, Option.some.injEq] at hoi; subst hoi
        refine ⟨?_, by rfl, fun wx hSx => ?_, ?_⟩
        rotate_left
        · obtain ⟨c0, c1, c2, c3, c4, c5⟩ := s20 hSx; have hcv := conv_cells wx ad dc d (HD0.out.below hSx.below)
          go_simp
          try with_reducible rfl
        try simp only [Act.put, List.setIfInBounds_toArray, List.set_cons_zero, List.set_cons_succ]
        refine wpAnyS_one (i := 25) (by as_aux_lemma => kernel_rfl) ?_
        intro oi hoi K hK
        simp only [List.getElem?_toArray, List.getElem?_cons_zero, List.getElem?_cons_succ, Option.some.injEq] at hoi; subst hoi
        go_simp
        go_at_call 13
        refine (bytes_of hSS).mono ?_; rintro e w8 ⟨vb, rfl, H8⟩
        obtain ⟨av, nv, rfl⟩ := own_slice H8
        clear hSS
        have hSS : (fun (W : World) => Hp w W (L20 b rb ab n ⟨[0, v, k1, su, k2, 1, 0, 0], 8, d, d, true⟩ v k1 su k2)) w8 := H8.tail
        have HB8 : Hid (CellsIn w8 av (d.map bv)) := Lib.hid (CellsIn.own H8)
        clear H8
        refine hK.out _ _ (fun _ => hSS) ?_
        clear hK K
        try simp only [Act.put, List.setIfInBounds_toArray, List.set_cons_zero, List.set_cons_succ]
        refine wpAnyS_one (i := 27) (by as_aux_lemma => kernel_rfl) ?_
        intro oi hoi K hK
        simp only [List.getElem?_toArray, List.getElem?_cons_zero, List.getElem?_cons_succ, Option.some.injEq] at hoi; subst hoi
        go_simp
        go_at_call 12
        refine (same_bytes av ad nv dc d d w8 HB8.out (HD0.out.below hSS.below) (by have := HL.out; omega) (by have := HL.out; omega)).mono ?_; intro e w9 hp
        obtain ⟨rfl, hb⟩ : e = .returned (.bool true) ∧ _ := ⟨by simpa using hp.1, hp.2⟩
        have hSS9 := hSS.below_read hb
        clear hSS hb hp HB8
        have hSS : (fun (W : World) => Hp w W (L20 b rb ab n ⟨[0, v, k1, su, k2, 1, 0, 0], 8, d, d, true⟩ v k1 su k2)) w9 := hSS9
        clear hSS9
        refine hK.out _ _ (fun _ => hSS) ?_
        clear hK K
        try simp only [Act.put, List.setIfInBounds_toArray, List.set_cons_zero, List.set_cons_succ]
        refine wpAnyS_tk (i := 28) (by as_aux_lemma => kernel_rfl) (by intro c a d v w h; cases d <;> exact h) hSS (fun oi hoi => ?_)
        simp only [List.getElem?_toArray, List.getElem?_cons_zero, List.getElem?_cons_succ, Option.some.injEq] at hoi; subst hoi
        refine ⟨?_, by rfl, fun wx hSx => ?_, ?_⟩
        rotate_left
        · obtain ⟨c0, c1, c2, c3, c4, c5⟩ := s20 hSx; have hcv := conv_cells wx ad dc d (HD0.out.below hSx.below)
          go_simp
          try with_reducible rfl
        try simp only [Act.put, List.setIfInBounds_toArray, List.set_cons_zero, List.set_cons_succ]
        refine wpAnyS_tk (i := 29) (by as_aux_lemma => kernel_rfl) (by intro c a d v w h; cases d <;> exact h) hSS (fun oi hoi => ?_)
        simp only [List.getElem?_toArray, List.getElem?_cons_zero, List.getElem?_cons_succ, Option.some.injEq] at hoi; subst hoi
        refine ⟨?_, by rfl, fun wx hSx => ?_, ?_⟩
        rotate_left
        · obtain ⟨c0, c1, c2, c3, c4, c5⟩ := s20 hSx; have hcv := conv_cells wx ad dc d (HD0.out.below hSx.below)
          go_simp
          try with_reducible rfl
        try simp only [Act.put, List.setIfInBounds_toArray, List.set_cons_zero, List.set_cons_succ]
        refine wpAnyS_one (i := 30) (by as_aux_lemma => kernel_rfl) ?_
        intro oi hoi K hK
        simp only [List.getElem?_toArray, List.getElem?_cons_zero, List.getElem?_cons_succ, Option.some.injEq] at hoi; subst hoi
        go_simp
        go_at_call 7
        refine (lives_c _).mono ?_; rintro e w10 ⟨rfl, hb⟩
        have hSS10 := hSS.below_read hb
        clear hSS hb
        have hSS : (fun (W : World) => Hp w W (L20 b rb ab n ⟨[0, v, k1, su, k2, 1, 0, 0], 8, d, d, true⟩ v k1 su k2)) w10 := hSS10
        clear hSS10
        refine hK.out _ _ (fun _ => hSS) ?_
        clear hK K
        try simp only [Act.put, List.setIfInBounds_toArray, List.set_cons_zero, List.set_cons_succ]
        refine wpAnyS_tk (i := 31) (by as_aux_lemma => kernel_rfl) (by intro c a d v w h; cases d <;> exact h) hSS (fun oi hoi => ?_)
        simp only [List.getElem?_toArray, List.getElem?_cons_zero, List.getElem?_cons_succ, Option.some.injEq] at hoi; subst hoi
        refine ⟨?_, by rfl, fun wx hSx => ?_, ?_⟩
        rotate_left
        · obtain ⟨c0, c1, c2, c3, c4, c5⟩ := s20 hSx; have hcv := conv_cells wx ad dc d (HD0.out.below hSx.below)
          go_simp
          try with_reducible rfl
        try simp only [Act.put, List.setIfInBounds_toArray, List.set_cons_zero, List.set_cons_succ]
        refine wpAnyS_one (i := 32) (by as_aux_lemma => kernel_rfl) ?_
        intro oi hoi K hK
        simp only [List.getElem?_toArray, List.getElem?_cons_zero, List.getElem?_cons_succ, Option.some.injEq] at hoi; subst hoi
        go_simp
        refine hK.out _ _ (fun h => absurd h (by decide)) ?_
        clear hK K
        try simp only [Act.put, List.setIfInBounds_toArray, List.set_cons_zero, List.set_cons_succ]
        refine wpAnyS_done (by as_aux_lemma => kernel_rfl) ?_ _
        have HZ := Lib.hid hSS
        clear hSS
        go_wp2
        go_ret
        exact ⟨rfl, HZ.out.below⟩
end Go.Proofs.YtijkkompnfpdeaaGreatDoor
