/- CpuFaults: an instruction that is at fault turns nothing, and is at fault again: walked. -/
import Derived.Test.YtijkkompnfpdeaaGreatDoorVb
set_option linter.unusedVariables false
set_option linter.unusedSimpArgs false
namespace Go.Proofs.YtijkkompnfpdeaaGreatDoor
open Go.RowKit Go.Joins Go.Shelf
attribute [local go_sem] Oper.semAt_some

def FauP (w : World) (e : Ending) (w' : World) : Prop := e = .returned (.bool true) ∧ Below w.heap.size w w'
theorem str_self (x : ByteArray) (w : World) : (binOp .eql 9 (.string x) (.string x)).run Tryz.prog w = .ok (.bool true) w := by
  simp [go_sem]
theorem eight {l : List UInt32} (h : l.length = 8) : ∃ u0 u1 u2 u3 u4 u5 u6 u7, l = [u0, u1, u2, u3, u4, u5, u6, u7] := by
  match l, h with
  | [u0, u1, u2, u3, u4, u5, u6, u7], _ => exact ⟨_, _, _, _, _, _, _, _, rfl⟩
set_option maxHeartbeats 16000000 in
set_option maxRecDepth 20000 in
theorem faults_c (w : World) (n : Int) (ad ac : Option Addr) (dc cc : Nat) (d : List UInt8) (c : List I4) (x : UInt8) (hd : CellsIn w ad (d.map bv)) (hc : CellsIn w ac (ics c)) :
    Calls Tryz.prog 6 #[imV n ad d.length dc ac c.length cc, bv x] w (FauP w) := by
  have H1 := Lib.hid (blk_new (Hp.start w) (.cells #[.int .i64 n, .slice ad d.length dc, .slice ac c.length cc] 29))
  have HD0 := Lib.hid hd
  have HC0 := Lib.hid hc
  clear hd hc
  cases hk : imck n d c with
  | false =>
    have HK := Lib.hid hk
    clear hk
    go_enter Tryz.func6, Tryz.ntmps6
    go_wp2_with fail
    refine (new_n n ad ac dc cc d c _ HK.out (HC0.out.below H1.out.below)).mono ?_; rintro e w1 ⟨rfl, hb⟩
    have H2 := Lib.hid (H1.out.below_read hb)
    clear hb H1
    go_wp2_with fail
    refine (lives_c _).mono ?_; rintro e wc ⟨rfl, hb⟩
    have HZ := Lib.hid (H2.out.below_read hb)
    clear H2 hb
    go_wp2
    go_ret
    exact ⟨rfl, HZ.out.below⟩
  | true =>
    have hb := hk
    unfold imck at hb
    simp only [Bool.and_eq_true, decide_eq_true_eq] at hb
    obtain ⟨⟨b1, b2, b3, b4⟩, b5⟩ := hb
    obtain ⟨m, rfl⟩ : ∃ m : Nat, n = (m : Int) := ⟨n.toNat, by omega⟩
    have HK := Lib.hid hk
    have HB := Lib.hid (show m ≤ 4096 ∧ d.length ≤ 4096 ∧ c.length ≤ 1024 ∧ c.all ik = true from ⟨by omega, by omega, b4, b5⟩)
    clear hk b1 b2 b3 b4 b5
    go_enter Tryz.func6, Tryz.ntmps6
    go_upto_region 1 with fail
    generalize w.heap.size = xb at *
    generalize w.alloc _ = W at *
    have x0 : W.cell? ⟨xb, 0, none⟩ = some (.int .i64 (m : Int)) := cell_blk (blk_get H1.out) 0
    have x1 : W.cell? ⟨xb, 1, none⟩ = some (.slice ad d.length dc) := cell_blk (blk_get H1.out) 1
    have x2 : W.cell? ⟨xb, 2, none⟩ = some (.slice ac c.length cc) := cell_blk (blk_get H1.out) 2
    go_wp2_with fail
    refine (new_y m ad ac dc cc d c HK.out (HD0.out.below H1.out.below) (HC0.out.below H1.out.below) H1.out).mono ?_; rintro e w1 ⟨b, rfl, H2'⟩
    have H2 := Lib.hid H2'
    clear H1 H2' x0 x1 x2
    have x0 : w1.cell? ⟨xb, 0, none⟩ = some (.int .i64 (m : Int)) := cell_blk (blk_get (H2.out.pull 1 rfl)) 0
    have x1 : w1.cell? ⟨xb, 1, none⟩ = some (.slice ad d.length dc) := cell_blk (blk_get (H2.out.pull 1 rfl)) 1
    have x2 : w1.cell? ⟨xb, 2, none⟩ = some (.slice ac c.length cc) := cell_blk (blk_get (H2.out.pull 1 rfl)) 2
    go_wp2_with fail
    refine (great_n (m : Int) ad ac d.length dc c.length cc _ (by have := HB.out.1; omega) HB.out.2.1 HB.out.2.2.1).mono ?_; rintro e w2 ⟨rfl, hb⟩
    have H3 := Lib.hid (H2.out.below_read hb)
    clear H2 hb x0 x1 x2
    have k1 := w8_64 x
    have q0 : Hid ((firstC m d).asked = false ∧ (firstC m d).says.length ≤ 0) := Lib.hid ⟨rfl, Nat.le_refl _⟩
    go_wp2
    generalize firstC m d = s0 at *
    go_loopw [7] (fun s7 wr => ∃ (i : Nat) (s : Cs), i ≤ x.toNat ∧ s7 = .int .i64 (i : Int) ∧ Hid (s.asked = false ∧ s.says.length ≤ i) ∧ Hid (Hp w wr [CR b c s, Blk xb (.cells #[.int .i64 (m : Int), .slice ad d.length dc, .slice ac c.length cc] 29 (0, 0))])) (fun s7 _ => x.toNat - (intOf s7).toNat)
    case atStart => exact ⟨0, s0, Nat.zero_le _, rfl, q0, H3⟩
    case round =>
      obtain ⟨i, s, hi, rfl, HI, HH⟩ := hrel
      clear H3 q0
      have hx := x.toNat_lt
      by_cases hlt : i < x.toNat
      · have t1 : (i : Int) < (x.toNat : Int) := by omega
        have t2 : IntKind.i64.wrap ((i : Int) + 1) = (i : Int) + 1 := by rw [IntKind.wrap_i64]; omega
        have hs : s.says.length < 256 := by have := HI.out.2; omega
        have HLT := Lib.hid hlt
        have HS := Lib.hid hs
        have hl : s.r.length = 8 := by obtain ⟨_, _, _, _, hl, _, _⟩ := cr_open HH.out; exact hl
        have hm : s.mem.length ≤ 4096 := by obtain ⟨_, _, _, _, _, hm, _⟩ := cr_open HH.out; exact hm
        obtain ⟨u0, u1, u2, u3, u4, u5, u6, u7, hr⟩ := eight hl
        have HR := Lib.hid hr
        have HM := Lib.hid hm
        have ST := Lib.hid (steps3 c s HI.out.1)
        clear hlt hi hx hs hl hr hm
        go_wp2_with fail
        refine (regs_of u0 u1 u2 u3 u4 u5 u6 u7 HR.out HH.out).mono ?_; intro e w3 hp
        rw [HR.out] at hp
        obtain ⟨rfl, H4'⟩ : e = .returned (.agg #[wv u0, wv u1, wv u2, wv u3, wv u4, wv u5, wv u6, wv u7]) ∧ _ := hp
        have H4 := Lib.hid H4'
        clear H4' HH
        go_wp2_with fail
        have H5 := Lib.hid (blk_new H4.out (.cells #[wv u0, wv u1, wv u2, wv u3, wv u4, wv u5, wv u6, wv u7] 40)).up1
        generalize w3.heap.size = rb at *
        generalize w3.alloc _ = W4 at *
        clear H4
        refine (at_of H5.out).mono ?_; rintro e w4 ⟨rfl, H6'⟩
        have H6 := Lib.hid H6'
        clear H5 H6'
        go_wp2_with fail
        refine (console_of H6.out).mono ?_; rintro e w5 ⟨rfl, H7'⟩
        have H7 := Lib.hid H7'
        clear H6 H7'
        go_wp2_with fail
        refine (bytes_of H7.out).mono ?_; rintro e w6 ⟨vb, rfl, H8'⟩
        obtain ⟨av, nv, rfl⟩ := own_slice H8'
        have H8 := Lib.hid H8'.up1
        clear H7 H8'
        go_wp2_with fail
        cases ST.out with
        | fault h =>
          refine (step_e h HB.out.2.2.2 HB.out.2.2.1 HS.out H8.out).mono ?_; rintro e w7 ⟨rfl, H9'⟩
          have H9 := Lib.hid H9'
          clear H8 H9'
          go_wp2_with fail
          refine (step_e h HB.out.2.2.2 HB.out.2.2.1 HS.out (H9.out.alloc _)).mono ?_; rintro e w8 ⟨rfl, H10'⟩
          have H10 := Lib.hid H10'
          clear H9 H10' h t1 t2 k1
          go_upto_region 18 with fail
          have H11 := Lib.hid (H10.out.alloc (.cells #[bv ak0.what, wv ak0.h, wv ak0.v, wv ak0.m, .int .i64 ak0.wait] 37))
          generalize w8.alloc _ = W8 at *
          clear H10
          have hes := str_self
          have her := eq_regs
          refine wp_region_S 34 (fun W => Hp w W [CR b c s, OwnU8 (.slice av s.mem.length nv) s.mem, Blk rb (.cells #[wv u0, wv u1, wv u2, wv u3, wv u4, wv u5, wv u6, wv u7] 40 (0, 0)), Blk xb (.cells #[.int .i64 (m : Int), .slice ad d.length dc, .slice ac c.length cc] 29 (0, 0))]) (by as_aux_lemma => kernel_rfl) ?_
          have hSS : (fun (W : World) => Hp w W [CR b c s, OwnU8 (.slice av s.mem.length nv) s.mem, Blk rb (.cells #[wv u0, wv u1, wv u2, wv u3, wv u4, wv u5, wv u6, wv u7] 40 (0, 0)), Blk xb (.cells #[.int .i64 (m : Int), .slice ad d.length dc, .slice ac c.length cc] 29 (0, 0))]) W8.drew := H11.out.drew
          clear H11
          refine wpAnyS_tk (i := 0) (by as_aux_lemma => kernel_rfl) (by intro c a d v w h; cases d <;> exact h) hSS (fun oi hoi => ?_)
          simp only [List.getElem?_toArray, List.getElem?_cons_zero, List.getElem?_cons_succ, Option.some.injEq] at hoi; subst hoi
          refine ⟨?_, by rfl, fun wx hSx => ?_, ?_⟩
          rotate_left
          · skip
            go_simp
            try with_reducible rfl
          try simp only [Act.put, List.setIfInBounds_toArray, List.set_cons_zero, List.set_cons_succ]
          refine wpAnyS_tk (i := 1) (by as_aux_lemma => kernel_rfl) (by intro c a d v w h; cases d <;> exact h) hSS (fun oi hoi => ?_)
          simp only [List.getElem?_toArray, List.getElem?_cons_zero, List.getElem?_cons_succ, Option.some.injEq] at hoi; subst hoi
          refine ⟨?_, by rfl, fun wx hSx => ?_, ?_⟩
          rotate_left
          · skip
            go_simp
            try with_reducible rfl
          try simp only [Act.put, List.setIfInBounds_toArray, List.set_cons_zero, List.set_cons_succ]
          refine wpAnyS_tk (i := 2) (by as_aux_lemma => kernel_rfl) (by intro c a d v w h; cases d <;> exact h) hSS (fun oi hoi => ?_)
          simp only [List.getElem?_toArray, List.getElem?_cons_zero, List.getElem?_cons_succ, Option.some.injEq] at hoi; subst hoi
          refine ⟨?_, by rfl, fun wx hSx => ?_, ?_⟩
          rotate_left
          · skip
            go_simp
            try with_reducible rfl
          try simp only [Act.put, List.setIfInBounds_toArray, List.set_cons_zero, List.set_cons_succ]
          refine wpAnyS_tk (i := 3) (by as_aux_lemma => kernel_rfl) (by intro c a d v w h; cases d <;> exact h) hSS (fun oi hoi => ?_)
          simp only [List.getElem?_toArray, List.getElem?_cons_zero, List.getElem?_cons_succ, Option.some.injEq] at hoi; subst hoi
          refine ⟨?_, by rfl, fun wx hSx => ?_, ?_⟩
          rotate_left
          · skip
            go_simp
            try with_reducible rfl
          try simp only [Act.put, List.setIfInBounds_toArray, List.set_cons_zero, List.set_cons_succ]
          refine wpAnyS_tk (i := 4) (by as_aux_lemma => kernel_rfl) (by intro c a d v w h; cases d <;> exact h) hSS (fun oi hoi => ?_)
          simp only [List.getElem?_toArray, List.getElem?_cons_zero, List.getElem?_cons_succ, Option.some.injEq] at hoi; subst hoi
          refine ⟨?_, by rfl, fun wx hSx => ?_, ?_⟩
          rotate_left
          · skip
            go_simp
            try with_reducible rfl
          try simp only [Act.put, List.setIfInBounds_toArray, List.set_cons_zero, List.set_cons_succ]
          refine wpAnyS_tk (i := 5) (by as_aux_lemma => kernel_rfl) (by intro c a d v w h; cases d <;> exact h) hSS (fun oi hoi => ?_)
          simp only [List.getElem?_toArray, List.getElem?_cons_zero, List.getElem?_cons_succ, Option.some.injEq] at hoi; subst hoi
          refine ⟨?_, by rfl, fun wx hSx => ?_, ?_⟩
          rotate_left
          · skip
            go_simp
            try with_reducible rfl
          try simp only [Act.put, List.setIfInBounds_toArray, List.set_cons_zero, List.set_cons_succ]
          refine wpAnyS_tk (i := 6) (by as_aux_lemma => kernel_rfl) (by intro c a d v w h; cases d <;> exact h) hSS (fun oi hoi => ?_)
          simp only [List.getElem?_toArray, List.getElem?_cons_zero, List.getElem?_cons_succ, Option.some.injEq] at hoi; subst hoi
          refine ⟨?_, by rfl, fun wx hSx => ?_, ?_⟩
          rotate_left
          · skip
            go_simp
            try with_reducible rfl
          try simp only [Act.put, List.setIfInBounds_toArray, List.set_cons_zero, List.set_cons_succ]
          refine wpAnyS_tk (i := 7) (by as_aux_lemma => kernel_rfl) (by intro c a d v w h; cases d <;> exact h) hSS (fun oi hoi => ?_)
          simp only [List.getElem?_toArray, List.getElem?_cons_zero, List.getElem?_cons_succ, Option.some.injEq] at hoi; subst hoi
          refine ⟨?_, by rfl, fun wx hSx => ?_, ?_⟩
          rotate_left
          · skip
            go_simp
            try with_reducible rfl
          try simp only [Act.put, List.setIfInBounds_toArray, List.set_cons_zero, List.set_cons_succ]
          refine wpAnyS_tk (i := 8) (by as_aux_lemma => kernel_rfl) (by intro c a d v w h; cases d <;> exact h) hSS (fun oi hoi => ?_)
          simp only [List.getElem?_toArray, List.getElem?_cons_zero, List.getElem?_cons_succ, Option.some.injEq] at hoi; subst hoi
          refine ⟨?_, by rfl, fun wx hSx => ?_, ?_⟩
          rotate_left
          · skip
            go_simp
            try with_reducible rfl
          try simp only [Act.put, List.setIfInBounds_toArray, List.set_cons_zero, List.set_cons_succ]
          refine wpAnyS_tk (i := 10) (by as_aux_lemma => kernel_rfl) (by intro c a d v w h; cases d <;> exact h) hSS (fun oi hoi => ?_)
          simp only [List.getElem?_toArray, List.getElem?_cons_zero, List.getElem?_cons_succ, Option.some.injEq] at hoi; subst hoi
          refine ⟨?_, by rfl, fun wx hSx => ?_, ?_⟩
          rotate_left
          · have hb2 := blk_get (hSx.pull 2 rfl); have c0 : wx.cell? ⟨rb, 0, none⟩ = some (wv u0) := cell_blk hb2 0; have c1 : wx.cell? ⟨rb, 1, none⟩ = some (wv u1) := cell_blk hb2 1; have c2 : wx.cell? ⟨rb, 2, none⟩ = some (wv u2) := cell_blk hb2 2; have c3 : wx.cell? ⟨rb, 3, none⟩ = some (wv u3) := cell_blk hb2 3; have c4 : wx.cell? ⟨rb, 4, none⟩ = some (wv u4) := cell_blk hb2 4; have c5 : wx.cell? ⟨rb, 5, none⟩ = some (wv u5) := cell_blk hb2 5; have c6 : wx.cell? ⟨rb, 6, none⟩ = some (wv u6) := cell_blk hb2 6; have c7 : wx.cell? ⟨rb, 7, none⟩ = some (wv u7) := cell_blk hb2 7; clear hb2
            go_simp
            try with_reducible rfl
          try simp only [Act.put, List.setIfInBounds_toArray, List.set_cons_zero, List.set_cons_succ]
          refine wpAnyS_one (i := 9) (by as_aux_lemma => kernel_rfl) ?_
          intro oi hoi K hK
          simp only [List.getElem?_toArray, List.getElem?_cons_zero, List.getElem?_cons_succ, Option.some.injEq] at hoi; subst hoi
          go_simp
          go_at_call 10
          refine (regs_of u0 u1 u2 u3 u4 u5 u6 u7 HR.out hSS).mono ?_; intro e wa hp
          rw [HR.out] at hp
          obtain ⟨rfl, HA⟩ : e = .returned (.agg #[wv u0, wv u1, wv u2, wv u3, wv u4, wv u5, wv u6, wv u7]) ∧ _ := hp
          clear hSS
          have hSS : (fun (W : World) => Hp w W [CR b c s, OwnU8 (.slice av s.mem.length nv) s.mem, Blk rb (.cells #[wv u0, wv u1, wv u2, wv u3, wv u4, wv u5, wv u6, wv u7] 40 (0, 0)), Blk xb (.cells #[.int .i64 (m : Int), .slice ad d.length dc, .slice ac c.length cc] 29 (0, 0))]) wa := HA
          clear HA
          refine hK.out _ _ (fun _ => hSS) ?_
          clear hK K
          try simp only [Act.put, List.setIfInBounds_toArray, List.set_cons_zero, List.set_cons_succ]
          refine wpAnyS_tk (i := 11) (by as_aux_lemma => kernel_rfl) (by intro c a d v w h; cases d <;> exact h) hSS (fun oi hoi => ?_)
          simp only [List.getElem?_toArray, List.getElem?_cons_zero, List.getElem?_cons_succ, Option.some.injEq] at hoi; subst hoi
          refine ⟨?_, by rfl, fun wx hSx => ?_, ?_⟩
          rotate_left
          · skip
            go_simp
            try with_reducible rfl
          try simp only [Act.put, List.setIfInBounds_toArray, List.set_cons_zero, List.set_cons_succ]
          refine wpAnyS_tk (i := 12) (by as_aux_lemma => kernel_rfl) (by intro c a d v w h; cases d <;> exact h) hSS (fun oi hoi => ?_)
          simp only [List.getElem?_toArray, List.getElem?_cons_zero, List.getElem?_cons_succ, Option.some.injEq] at hoi; subst hoi
          refine ⟨?_, by rfl, fun wx hSx => ?_, ?_⟩
          rotate_left
          · skip
            go_simp
            try with_reducible rfl
          try simp only [Act.put, List.setIfInBounds_toArray, List.set_cons_zero, List.set_cons_succ]
          refine wpAnyS_tk (i := 13) (by as_aux_lemma => kernel_rfl) (by intro c a d v w h; cases d <;> exact h) hSS (fun oi hoi => ?_)
          simp only [List.getElem?_toArray, List.getElem?_cons_zero, List.getElem?_cons_succ, Option.some.injEq] at hoi; subst hoi
          refine ⟨?_, by rfl, fun wx hSx => ?_, ?_⟩
          rotate_left
          · skip
            go_simp
            try with_reducible rfl
          try simp only [Act.put, List.setIfInBounds_toArray, List.set_cons_zero, List.set_cons_succ]
          refine wpAnyS_tk (i := 14) (by as_aux_lemma => kernel_rfl) (by intro c a d v w h; cases d <;> exact h) hSS (fun oi hoi => ?_)
          simp only [List.getElem?_toArray, List.getElem?_cons_zero, List.getElem?_cons_succ, Option.some.injEq] at hoi; subst hoi
          refine ⟨?_, by rfl, fun wx hSx => ?_, ?_⟩
          rotate_left
          · skip
            go_simp
            try with_reducible rfl
          try simp only [Act.put, List.setIfInBounds_toArray, List.set_cons_zero, List.set_cons_succ]
          refine wpAnyS_tk (i := 16) (by as_aux_lemma => kernel_rfl) (by intro c a d v w h; cases d <;> exact h) hSS (fun oi hoi => ?_)
          simp only [List.getElem?_toArray, List.getElem?_cons_zero, List.getElem?_cons_succ, Option.some.injEq] at hoi; subst hoi
          refine ⟨?_, by rfl, fun wx hSx => ?_, ?_⟩
          rotate_left
          · skip
            go_simp
            try with_reducible rfl
          try simp only [Act.put, List.setIfInBounds_toArray, List.set_cons_zero, List.set_cons_succ]
          refine wpAnyS_one (i := 15) (by as_aux_lemma => kernel_rfl) ?_
          intro oi hoi K hK
          simp only [List.getElem?_toArray, List.getElem?_cons_zero, List.getElem?_cons_succ, Option.some.injEq] at hoi; subst hoi
          go_simp
          go_at_call 18
          refine (at_of hSS).mono ?_; rintro e wd ⟨rfl, HA⟩
          clear hSS
          have hSS : (fun (W : World) => Hp w W [CR b c s, OwnU8 (.slice av s.mem.length nv) s.mem, Blk rb (.cells #[wv u0, wv u1, wv u2, wv u3, wv u4, wv u5, wv u6, wv u7] 40 (0, 0)), Blk xb (.cells #[.int .i64 (m : Int), .slice ad d.length dc, .slice ac c.length cc] 29 (0, 0))]) wd := HA
          clear HA
          refine hK.out _ _ (fun _ => hSS) ?_
          clear hK K
          try simp only [Act.put, List.setIfInBounds_toArray, List.set_cons_zero, List.set_cons_succ]
          refine wpAnyS_tk (i := 17) (by as_aux_lemma => kernel_rfl) (by intro c a d v w h; cases d <;> exact h) hSS (fun oi hoi => ?_)
          simp only [List.getElem?_toArray, List.getElem?_cons_zero, List.getElem?_cons_succ, Option.some.injEq] at hoi; subst hoi
          refine ⟨?_, by rfl, fun wx hSx => ?_, ?_⟩
          rotate_left
          · skip
            go_simp
            try with_reducible rfl
          try simp only [Act.put, List.setIfInBounds_toArray, List.set_cons_zero, List.set_cons_succ]
          refine wpAnyS_tk (i := 18) (by as_aux_lemma => kernel_rfl) (by intro c a d v w h; cases d <;> exact h) hSS (fun oi hoi => ?_)
          simp only [List.getElem?_toArray, List.getElem?_cons_zero, List.getElem?_cons_succ, Option.some.injEq] at hoi; subst hoi
          refine ⟨?_, by rfl, fun wx hSx => ?_, ?_⟩
          rotate_left
          · skip
            go_simp
            try with_reducible rfl
          try simp only [Act.put, List.setIfInBounds_toArray, List.set_cons_zero, List.set_cons_succ]
          refine wpAnyS_tk (i := 19) (by as_aux_lemma => kernel_rfl) (by intro c a d v w h; cases d <;> exact h) hSS (fun oi hoi => ?_)
          simp only [List.getElem?_toArray, List.getElem?_cons_zero, List.getElem?_cons_succ, Option.some.injEq] at hoi; subst hoi
          refine ⟨?_, by rfl, fun wx hSx => ?_, ?_⟩
          rotate_left
          · skip
            go_simp
            try with_reducible rfl
          try simp only [Act.put, List.setIfInBounds_toArray, List.set_cons_zero, List.set_cons_succ]
          refine wpAnyS_tk (i := 20) (by as_aux_lemma => kernel_rfl) (by intro c a d v w h; cases d <;> exact h) hSS (fun oi hoi => ?_)
          simp only [List.getElem?_toArray, List.getElem?_cons_zero, List.getElem?_cons_succ, Option.some.injEq] at hoi; subst hoi
          refine ⟨?_, by rfl, fun wx hSx => ?_, ?_⟩
          rotate_left
          · skip
            go_simp
            try with_reducible rfl
          try simp only [Act.put, List.setIfInBounds_toArray, List.set_cons_zero, List.set_cons_succ]
          refine wpAnyS_tk (i := 22) (by as_aux_lemma => kernel_rfl) (by intro c a d v w h; cases d <;> exact h) hSS (fun oi hoi => ?_)
          simp only [List.getElem?_toArray, List.getElem?_cons_zero, List.getElem?_cons_succ, Option.some.injEq] at hoi; subst hoi
          refine ⟨?_, by rfl, fun wx hSx => ?_, ?_⟩
          rotate_left
          · skip
            go_simp
            try with_reducible rfl
          try simp only [Act.put, List.setIfInBounds_toArray, List.set_cons_zero, List.set_cons_succ]
          refine wpAnyS_one (i := 21) (by as_aux_lemma => kernel_rfl) ?_
          intro oi hoi K hK
          simp only [List.getElem?_toArray, List.getElem?_cons_zero, List.getElem?_cons_succ, Option.some.injEq] at hoi; subst hoi
          go_simp
          go_at_call 11
          refine (console_of hSS).mono ?_; rintro e we ⟨rfl, HA⟩
          clear hSS
          have hSS : (fun (W : World) => Hp w W [CR b c s, OwnU8 (.slice av s.mem.length nv) s.mem, Blk rb (.cells #[wv u0, wv u1, wv u2, wv u3, wv u4, wv u5, wv u6, wv u7] 40 (0, 0)), Blk xb (.cells #[.int .i64 (m : Int), .slice ad d.length dc, .slice ac c.length cc] 29 (0, 0))]) we := HA
          clear HA
          refine hK.out _ _ (fun _ => hSS) ?_
          clear hK K
          try simp only [Act.put, List.setIfInBounds_toArray, List.set_cons_zero, List.set_cons_succ]
          refine wpAnyS_tk (i := 23) (by as_aux_lemma => kernel_rfl) (by intro c a d v w h; cases d <;> exact h) hSS (fun oi hoi => ?_)
          simp only [List.getElem?_toArray, List.getElem?_cons_zero, List.getElem?_cons_succ, Option.some.injEq] at hoi; subst hoi
          refine ⟨?_, by rfl, fun wx hSx => ?_, ?_⟩
          rotate_left
          · skip
            go_simp
            try with_reducible rfl
          try simp only [Act.put, List.setIfInBounds_toArray, List.set_cons_zero, List.set_cons_succ]
          refine wpAnyS_tk (i := 24) (by as_aux_lemma => kernel_rfl) (by intro c a d v w h; cases d <;> exact h) hSS (fun oi hoi => ?_)
          simp only [List.getElem?_toArray, List.getElem?_cons_zero, List.getElem?_cons_succ, Option.some.injEq] at hoi; subst hoi
          refine ⟨?_, by rfl, fun wx hSx => ?_, ?_⟩
          rotate_left
          · skip
            go_simp
            try with_reducible rfl
          try simp only [Act.put, List.setIfInBounds_toArray, List.set_cons_zero, List.set_cons_succ]
          refine wpAnyS_tk (i := 25) (by as_aux_lemma => kernel_rfl) (by intro c a d v w h; cases d <;> exact h) hSS (fun oi hoi => ?_)
          simp only [List.getElem?_toArray, List.getElem?_cons_zero, List.getElem?_cons_succ, Option.some.injEq] at hoi; subst hoi
          refine ⟨?_, by rfl, fun wx hSx => ?_, ?_⟩
          rotate_left
          · skip
            go_simp
            try with_reducible rfl
          try simp only [Act.put, List.setIfInBounds_toArray, List.set_cons_zero, List.set_cons_succ]
          refine wpAnyS_tk (i := 26) (by as_aux_lemma => kernel_rfl) (by intro c a d v w h; cases d <;> exact h) hSS (fun oi hoi => ?_)
          simp only [List.getElem?_toArray, List.getElem?_cons_zero, List.getElem?_cons_succ, Option.some.injEq] at hoi; subst hoi
          refine ⟨?_, by rfl, fun wx hSx => ?_, ?_⟩
          rotate_left
          · skip
            go_simp
            try with_reducible rfl
          try simp only [Act.put, List.setIfInBounds_toArray, List.set_cons_zero, List.set_cons_succ]
          refine wpAnyS_tk (i := 28) (by as_aux_lemma => kernel_rfl) (by intro c a d v w h; cases d <;> exact h) hSS (fun oi hoi => ?_)
          simp only [List.getElem?_toArray, List.getElem?_cons_zero, List.getElem?_cons_succ, Option.some.injEq] at hoi; subst hoi
          refine ⟨?_, by rfl, fun wx hSx => ?_, ?_⟩
          rotate_left
          · skip
            go_simp
            try with_reducible rfl
          try simp only [Act.put, List.setIfInBounds_toArray, List.set_cons_zero, List.set_cons_succ]
          refine wpAnyS_one (i := 27) (by as_aux_lemma => kernel_rfl) ?_
          intro oi hoi K hK
          simp only [List.getElem?_toArray, List.getElem?_cons_zero, List.getElem?_cons_succ, Option.some.injEq] at hoi; subst hoi
          go_simp
          go_at_call 13
          refine (bytes_of hSS).mono ?_; rintro e wf ⟨vc, rfl, HA0⟩
          obtain ⟨ax, nx, rfl⟩ := own_slice HA0
          have HB8 : Hid (CellsIn wf ax (s.mem.map bv)) := Lib.hid (CellsIn.own HA0)
          have HA := HA0.tail
          clear HA0
          clear hSS
          have hSS : (fun (W : World) => Hp w W [CR b c s, OwnU8 (.slice av s.mem.length nv) s.mem, Blk rb (.cells #[wv u0, wv u1, wv u2, wv u3, wv u4, wv u5, wv u6, wv u7] 40 (0, 0)), Blk xb (.cells #[.int .i64 (m : Int), .slice ad d.length dc, .slice ac c.length cc] 29 (0, 0))]) wf := HA
          clear HA
          refine hK.out _ _ (fun _ => hSS) ?_
          clear hK K
          try simp only [Act.put, List.setIfInBounds_toArray, List.set_cons_zero, List.set_cons_succ]
          refine wpAnyS_one (i := 29) (by as_aux_lemma => kernel_rfl) ?_
          intro oi hoi K hK
          simp only [List.getElem?_toArray, List.getElem?_cons_zero, List.getElem?_cons_succ, Option.some.injEq] at hoi; subst hoi
          go_simp
          go_at_call 12
          refine (same_bytes ax av nx nv s.mem s.mem wf HB8.out (CellsIn.own (hSS.pull 1 rfl)) (by have := HM.out; omega) (by have := HM.out; omega)).mono ?_; intro e wg hp
          obtain ⟨rfl, hb⟩ : e = .returned (.bool true) ∧ _ := ⟨by simpa using hp.1, hp.2⟩
          have HA := hSS.below_read hb
          clear hb hp HB8
          clear hSS
          have hSS : (fun (W : World) => Hp w W [CR b c s, OwnU8 (.slice av s.mem.length nv) s.mem, Blk rb (.cells #[wv u0, wv u1, wv u2, wv u3, wv u4, wv u5, wv u6, wv u7] 40 (0, 0)), Blk xb (.cells #[.int .i64 (m : Int), .slice ad d.length dc, .slice ac c.length cc] 29 (0, 0))]) wg := HA
          clear HA
          refine hK.out _ _ (fun _ => hSS) ?_
          clear hK K
          try simp only [Act.put, List.setIfInBounds_toArray, List.set_cons_zero, List.set_cons_succ]
          refine wpAnyS_tk (i := 30) (by as_aux_lemma => kernel_rfl) (by intro c a d v w h; cases d <;> exact h) hSS (fun oi hoi => ?_)
          simp only [List.getElem?_toArray, List.getElem?_cons_zero, List.getElem?_cons_succ, Option.some.injEq] at hoi; subst hoi
          refine ⟨?_, by rfl, fun wx hSx => ?_, ?_⟩
          rotate_left
          · skip
            go_simp
            try with_reducible rfl
          try simp only [Act.put, List.setIfInBounds_toArray, List.set_cons_zero, List.set_cons_succ]
          refine wpAnyS_tk (i := 31) (by as_aux_lemma => kernel_rfl) (by intro c a d v w h; cases d <;> exact h) hSS (fun oi hoi => ?_)
          simp only [List.getElem?_toArray, List.getElem?_cons_zero, List.getElem?_cons_succ, Option.some.injEq] at hoi; subst hoi
          refine ⟨?_, by rfl, fun wx hSx => ?_, ?_⟩
          rotate_left
          · skip
            go_simp
            try with_reducible rfl
          try simp only [Act.put, List.setIfInBounds_toArray, List.set_cons_zero, List.set_cons_succ]
          refine wpAnyS_one (i := 32) (by as_aux_lemma => kernel_rfl) ?_
          intro oi hoi K hK
          simp only [List.getElem?_toArray, List.getElem?_cons_zero, List.getElem?_cons_succ, Option.some.injEq] at hoi; subst hoi
          go_simp
          go_at_call 7
          refine (lives_c _).mono ?_; rintro e wh ⟨rfl, hb⟩
          have HA := hSS.below_read hb
          clear hb
          clear hSS
          have hSS : (fun (W : World) => Hp w W [CR b c s, OwnU8 (.slice av s.mem.length nv) s.mem, Blk rb (.cells #[wv u0, wv u1, wv u2, wv u3, wv u4, wv u5, wv u6, wv u7] 40 (0, 0)), Blk xb (.cells #[.int .i64 (m : Int), .slice ad d.length dc, .slice ac c.length cc] 29 (0, 0))]) wh := HA
          clear HA
          refine hK.out _ _ (fun _ => hSS) ?_
          clear hK K
          try simp only [Act.put, List.setIfInBounds_toArray, List.set_cons_zero, List.set_cons_succ]
          refine wpAnyS_tk (i := 33) (by as_aux_lemma => kernel_rfl) (by intro c a d v w h; cases d <;> exact h) hSS (fun oi hoi => ?_)
          simp only [List.getElem?_toArray, List.getElem?_cons_zero, List.getElem?_cons_succ, Option.some.injEq] at hoi; subst hoi
          refine ⟨?_, by rfl, fun wx hSx => ?_, ?_⟩
          rotate_left
          · skip
            go_simp
            try with_reducible rfl
          try simp only [Act.put, List.setIfInBounds_toArray, List.set_cons_zero, List.set_cons_succ]
          refine wpAnyS_one (i := 34) (by as_aux_lemma => kernel_rfl) ?_
          intro oi hoi K hK
          simp only [List.getElem?_toArray, List.getElem?_cons_zero, List.getElem?_cons_succ, Option.some.injEq] at hoi; subst hoi
          go_simp
          refine hK.out _ _ (fun h => absurd h (by decide)) ?_
          clear hK K
          try simp only [Act.put, List.setIfInBounds_toArray, List.set_cons_zero, List.set_cons_succ]
          refine wpAnyS_done (by as_aux_lemma => kernel_rfl) ?_ _
          have HZ := Lib.hid hSS
          clear hSS
          go_wp2
          go_ret
          exact ⟨rfl, HZ.out.below⟩
        | done t h hm2 ha hn hj =>
          refine (step_e h HB.out.2.2.2 HB.out.2.2.1 HS.out H8.out).mono ?_; rintro e w7 ⟨rfl, H9'⟩
          have HT := Lib.hid (H9'.alloc (.cells #[bv ak0.what, wv ak0.h, wv ak0.v, wv ak0.m, .int .i64 ak0.wait] 37))
          have HI2 : Hid (t.asked = false ∧ t.says.length ≤ i + 1) := Lib.hid ⟨ha, by have := HI.out.2; omega⟩
          have HJ := Lib.hid hj
          have HM2 := Lib.hid hm2
          clear H8 H9' h ha hn hj hm2 HI ST
          go_wp2_with fail
          refine (bytes_of HT.out).mono ?_; rintro e wa ⟨vc, rfl, HA'⟩
          obtain ⟨ax, nx, rfl⟩ := own_slice HA'
          have HA := Lib.hid HA'.tail
          clear HT HA'
          rw [HM2.out]
          go_wp2_with fail
          refine (at_of HA.out).mono ?_; rintro e wd ⟨rfl, HB1'⟩
          have HB1 := Lib.hid HB1'
          clear HA HB1'
          by_cases he : t.at_ = s.at_
          · obtain ⟨k, hk, hlt, hop⟩ := HJ.out he
            rw [he, hk]
            have x2 : wd.cell? ⟨xb, 2, none⟩ = some (.slice ac c.length cc) := cell_blk (blk_get (HB1.out.pull 3 rfl)) 2
            obtain ⟨g, oo, rfl, i0, i1, i2, i3⟩ := ins_cells (HC0.out.below HB1.out.below) hlt
            have y1 : (k : Int) < (c.length : Int) := by omega
            generalize c[k] = xx at *
            obtain ⟨o, ox, oy, oz⟩ := xx
            have y2 : ¬ ((o.toNat : Int) < 15) := by have : 15 ≤ o.toNat := hop; omega
            clear hop hlt i1 i2 i3 hk he HJ
            by_cases h19 : o.toNat = 19
            · have y3 : ((o.toNat : Int) != 19) = false := by rw [h19]; rfl
              have y4 : (o.toNat : Int) = 19 := by omega
              clear h19 y2
              go_wp2
              go_roundw
              case rel => exact ⟨i + 1, t, by have := HLT.out; omega, by go_num, HI2, Lib.hid (((HB1.out.pull 3 rfl).pull 1 rfl).take 2)⟩
              case measure => have := HLT.out; simp [intOf]; omega
            · have y3 : ((o.toNat : Int) != 19) = true := by simp; omega
              have y4 : ¬ (o.toNat : Int) = 19 := by omega
              clear h19
              go_wp2
              go_roundw
              case rel => exact ⟨i + 1, t, by have := HLT.out; omega, by go_num, HI2, Lib.hid (((HB1.out.pull 3 rfl).pull 1 rfl).take 2)⟩
              case measure => have := HLT.out; simp [intOf]; omega
          · have y1 : (t.at_ == s.at_) = false := by simpa using he
            clear HJ
            go_wp2
            go_roundw
            case rel => exact ⟨i + 1, t, by have := HLT.out; omega, by go_num, HI2, Lib.hid (((HB1.out.pull 3 rfl).pull 1 rfl).take 2)⟩
            case measure => have := HLT.out; simp [intOf]; omega
        | asks t a h hm2 ha hn hj =>
          refine (step_e h HB.out.2.2.2 HB.out.2.2.1 HS.out H8.out).mono ?_; rintro e w7 ⟨rfl, H9'⟩
          have H9 := Lib.hid H9'
          have HQ := Lib.hid ha
          obtain ⟨z1, z2, z3, z4⟩ := answC_fin ha 0 0
          have HI2 : Hid ((answC t 0 0).1.asked = false ∧ (answC t 0 0).1.says.length ≤ i + 1) := Lib.hid ⟨z1, by rw [z2, hn]; have := HI.out.2; omega⟩
          have HM2 : Hid ((answC t 0 0).1.mem.length = s.mem.length) := Lib.hid (by rw [z3]; exact hm2)
          have HJ : Hid (¬ (answC t 0 0).1.at_ = s.at_) := Lib.hid (by rw [z4]; exact hj)
          clear H8 H9' h ha hn hj hm2 HI ST z1 z2 z3 z4
          go_wp2_with fail
          refine (answer_y HQ.out 0 0 (H9.out.alloc _)).mono ?_; rintro e w8 ⟨rfl, HT'⟩
          generalize (answC t 0 0).1 = t2 at *
          have HT := Lib.hid HT'
          clear H9 HT'
          go_wp2_with fail
          refine (bytes_of HT.out).mono ?_; rintro e wa ⟨vc, rfl, HA'⟩
          obtain ⟨ax, nx, rfl⟩ := own_slice HA'
          have HA := Lib.hid HA'.tail
          clear HT HA'
          rw [HM2.out]
          go_wp2_with fail
          refine (at_of HA.out).mono ?_; rintro e wd ⟨rfl, HB1'⟩
          have HB1 := Lib.hid HB1'
          clear HA HB1'
          have he := HJ.out
          have y1 : (t2.at_ == s.at_) = false := by simpa using he
          clear HJ
          go_wp2
          go_roundw
          case rel => exact ⟨i + 1, t2, by have := HLT.out; omega, by go_num, HI2, Lib.hid (((HB1.out.pull 3 rfl).pull 1 rfl).take 2)⟩
          case measure => have := HLT.out; simp [intOf]; omega
      · have t1 : ¬ (i : Int) < (x.toNat : Int) := by omega
        clear hlt hi hx
        go_wp2_with fail
        refine (lives_c _).mono ?_; rintro e wc ⟨rfl, hb⟩
        have HZ := Lib.hid (HH.out.below_read hb)
        clear HH hb
        go_wp2
        go_ret
        exact ⟨rfl, HZ.out.below⟩
end Go.Proofs.YtijkkompnfpdeaaGreatDoor
