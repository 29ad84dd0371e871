/- Images: ImagesSpoilt, walked. -/
import Derived.Test.YtcfoljdpffonhaaDoorLq
import Derived.Test.YtcfoljdpffonhaaDoorLx
import Derived.Test.YtcfoljdpffonhaaDoorNa
set_option linter.unusedVariables false
set_option linter.unusedSimpArgs false
namespace Go.Proofs.YtcfoljdpffonhaaDoor
open Go.RowKit Go.Joins Go.Shelf
attribute [local go_sem] Oper.semAt_some

theorem pre_u8 (W : World) (g L c n : Nat) (hn : n ≤ c) : (Instr.slice 22 (.slice (some ⟨g, 0, none⟩) L c) none (some (.int .i64 (n : Int))) none).run Tryd.prog W = .ok (.slice (some ⟨g, 0, none⟩) n c) W := by
  rw [run_slice_h (P := Tryd.prog) W 22 (some ⟨g, 0, none⟩) L c (by kernel_rfl) .i64 _ (by omega) (by omega)]
  have hs : (Tryd.prog.info? (Tryd.prog.elem 22)).map (·.size) = some 1 := by kernel_rfl
  cases hq : Tryd.prog.info? (Tryd.prog.elem 22) with
  | none => rw [hq] at hs; cases hs
  | some i =>
    simp [sizeOf, typeInfo, hq, sliced, Result.andThen]
    intro _
    rw [Addr.add_lit]
theorem own_news {w0 w : World} {r : List Thing} {e : TypeId} {size n c : Nat} {g : Nat} {cs : List Value} (H : Hp w0 w (Own e size (.slice (some ⟨g, 0, none⟩) n c) n cs :: r)) : ∀ j u, cs[j]? = some u → w.cell? ((⟨g, 0, none⟩ : Addr).add j) = some u := (own_get H).cells (g := g) rfl
theorem get_any {w w' : World} {o : Option (Nat × List UInt8 × List I4)} {e : Ending} (h : GetPost w o e w') : ∃ n a l k a' l' k', e = .returned (.tuple #[.agg #[.int .i64 n, .slice a l k, .slice a' l' k'], .int .i64 (if o.isSome = true then 0 else 14)]) ∧ Below w.heap.size w w' := by
  cases o with
  | none => obtain ⟨hb, rfl⟩ := h; exact ⟨_, _, _, _, _, _, _, rfl, hb⟩
  | some p => obtain ⟨n, d, c⟩ := p; obtain ⟨hb, _, _, _, _, rfl, _⟩ := h; exact ⟨_, _, _, _, _, _, _, rfl, hb⟩
theorem set_tw {w0 w : World} {r : List Thing} {g cap j : Nat} {xs : List UInt8} {x : UInt8} (H : Hp w0 w (Own 5 1 (.slice (some ⟨g, 0, none⟩) (xs.length + 1) cap) (xs.length + 1) ((xs.map bv ++ [Value.int .u8 77]).set j (bv x)) :: r)) (hj : j < xs.length) : Hp w0 w (OwnU (.slice (some ⟨g, 0, none⟩) (xs.set j x).length cap) (xs.set j x) :: r) := by
  rw [List.set_append_left _ _ (by simpa using hj), ← List.map_set] at H
  have e : (xs.set j x).length = xs.length := List.length_set
  have H2 : Hp w0 w (OwnT g cap (xs.set j x) :: r) := by unfold OwnT; rw [e]; exact H
  exact ownT_cut H2
set_option maxHeartbeats 16000000 in
set_option maxRecDepth 20000 in
theorem spoilt_c (w : World) (L : Lf w) (n : Int) (ad ac : Option Addr) (dc cc : Nat) (d : List UInt8) (c : List I4) (x : UInt8) (wh : Nat) (hwh : wh < 65536) (hd : CellsIn w ad (d.map bv)) (hc : CellsIn w ac (ics c)) :
    Calls Tryd.prog 5 #[imV n ad d.length dc ac c.length cc, bv x, .int .u16 wh] w fun e w' => e = .returned (.bool true) ∧ Below w.heap.size w w' := by
  have H0 := Lib.hid (blk_new (Hp.start w) (.cells #[.int .i64 n, .slice ad d.length dc, .slice ac c.length cc] 25))
  have HD := Lib.hid hd
  have HC := Lib.hid hc
  clear hd hc
  have AC := Lib.hid (fun (w' : World) (r : List Thing) (H : Hp w w' r) => alive_c L H)
  have AB := Lib.hid (alive_c L H0.out)
  go_enter Tryd.func5, Tryd.ntmps5
  go_wp2_with fail
  refine AB.out.mono ?_; rintro e1 w1 ⟨rfl, H1'⟩
  have H1 := Lib.hid H1'
  clear AB H1' H0
  generalize w.heap.size = xb at *
  obtain ⟨x0, x1, x2⟩ := im_cells H1.out
  have G1 := Lib.hid (great_c n ad ac dc cc d c w1)
  cases hg1 : grt d c with
  | true =>
    rw [hg1] at G1
    clear hg1
    go_wp2_with fail
    refine G1.out.mono ?_; rintro e2 w2 ⟨rfl, hb⟩
    have H2 := Lib.hid (H1.out.below_read hb)
    clear hb G1 H1 x0 x1 x2
    go_wp2_with fail
    refine (AC.out w2 _ H2.out).mono ?_; rintro e3 w3 ⟨rfl, H3⟩
    have H4 := Lib.hid H3
    clear H3
    go_wp2
    go_ret
    exact ⟨rfl, H4.out.below⟩
  | false =>
    rw [hg1] at G1
    clear hg1
    go_wp2_with fail
    refine G1.out.mono ?_; rintro e2 w2 ⟨rfl, hb⟩
    have H2 := Lib.hid (H1.out.below_read hb)
    clear hb G1 H1 x0 x1 x2
    obtain ⟨x0, x1, x2⟩ := im_cells H2.out
    have G := Lib.hid (imcheck_c n ad ac dc cc d c w2 (HC.out.hp H2.out))
    cases hg3 : imck n d c with
    | false =>
      rw [hg3] at G
      clear hg3
      go_wp2_with fail
      refine G.out.mono ?_; rintro e2 w3 ⟨rfl, hb⟩
      have H3 := Lib.hid (H2.out.below_read hb)
      clear hb G H2 x0 x1 x2
      go_wp2_with fail
      refine (AC.out _ _ H3.out).mono ?_; rintro e3 wz ⟨rfl, H4⟩
      have HZ := Lib.hid H4
      clear H4
      go_wp2
      go_ret
      exact ⟨rfl, HZ.out.below⟩
    | true =>
      rw [hg3] at G
      have HK := Lib.hid hg3
      clear hg3
      obtain ⟨N, rfl⟩ := Int.eq_ofNat_of_zero_le (imck_bounds HK.out).1
      go_wp2_with fail
      refine G.out.mono ?_; rintro e2 w3 ⟨rfl, hb⟩
      have H3 := Lib.hid (H2.out.below_read hb)
      clear hb G H2 x0 x1 x2
      obtain ⟨x0, x1, x2⟩ := im_cells H3.out
      have hbd := imck_bounds HK.out
      have HB : Hid (N ≤ 4096 ∧ d.length ≤ 4096 ∧ c.length ≤ 1024) := Lib.hid ⟨by omega, by omega, hbd.2.2.2.1⟩
      clear hbd
      have P := Lib.hid (imput_c N ad ac dc cc d c w3 (HD.out.hp H3.out) (HC.out.hp H3.out) HK.out)
      have HLE := Lib.hid (imput_le N d c)
      have HMORE := Lib.hid (get_more HK.out x)
      have HLESS := Lib.hid (fun k hk => get_less HK.out k hk)
      have HSET := Lib.hid (get_set HK.out (wh % 3) (Nat.mod_lt _ (by omega)) x)
      have HOP := Lib.hid (fun k hk => get_op HK.out k hk)
      obtain ⟨bb, hbb⟩ : ∃ x, x = imput N d c := ⟨_, rfl⟩
      rw [← hbb] at P HLE HMORE HLESS HSET HOP
      clear hbb
      obtain ⟨i0, hi, hz0, hz1, hz2⟩ := info_parts info_u8
      go_wp2_with fail
      refine P.out.mono ?_; rintro e4 w4 ⟨v4, rfl, K⟩
      have H4 := Lib.hid (H3.out.lift K)
      obtain ⟨g, cp, rfl⟩ := Go.Joins.ownsRow_form (own_get K) (by have := HLE.out.2; omega)
      have HCP := Lib.hid (own_capn K)
      clear P K H3 x0 x1 x2
      have HBL : Hid (9 ≤ bb.length ∧ bb.length < 20000) := Lib.hid ⟨by have := HLE.out.2; omega, by have := HLE.out.1; have := HB.out; omega⟩
      have c9 : ¬ (bb.length : Int) < 9 := by have := HBL.out; omega
      have HN := Lib.hid (own_nil H4.out 5 1)
      go_wp2_with (first | (at_builtin; refine wpList_append_hp rfl (.const (Value.slice none 0 0)) (.tmp 43) 22 rfl 5 i0 _ 1 1 Tryd.underlying22 hi hz0 hz1 hz2 rfl (by decide) HN.out rfl ⟨g, 0, none⟩ bb.length cp (bb.map bv) rfl (by simp) (own_news (H4.out)) (by simp [Value.oneCell', bv]) (by have := HBL.out; omega) (by omega) ?_; intro v5 w5 HA0; rw [Nat.zero_add, List.nil_append] at HA0; have HA := Lib.hid HA0; obtain ⟨a5, c5, rfl⟩ := own_slice HA0; clear HA0 HN H4) | (at_builtin; refine wpList_append_hp rfl (.tmp 44) (.tmp 46) 22 rfl 5 i0 _ 1 1 Tryd.underlying22 hi hz0 hz1 hz2 rfl (by decide) (HA.out.alloc _) rfl ⟨w5.heap.size, 0, none⟩ 1 1 [bv x] rfl rfl (cell_one_new _ _ _) (by simp [Value.oneCell', bv]) (by have := HBL.out; omega) (by omega) ?_; intro v6 w6 HA0; have H6 := Lib.hid HA0; obtain ⟨a6, c6, rfl⟩ := own_slice HA0; clear HA0))
      clear HA c9
      have C6 := Lib.hid (show CellsIn w6 a6 ((bb ++ [x]).map bv) by have := CellsIn.own H6.out; rw [List.map_append]; exact this)
      have GM := Lib.hid (imget_c a6 c6 (bb ++ [x]) w6 C6.out (by have := HBL.out; simp; omega))
      rw [HMORE.out, List.length_append, List.length_singleton] at GM
      have H6' := Lib.hid (H6.out.tail)
      clear H6 C6
      go_wp2_with fail
      refine GM.out.mono ?_; rintro e7 w7 ⟨hb, rfl⟩
      have H7 := Lib.hid ((H6'.out.below_read hb).alloc (.cells #[.int .i64 0, .slice none 0 0, .slice none 0 0] 25))
      clear hb GM H6'
      obtain ⟨q, hq⟩ : ∃ q, q = wh % bb.length := ⟨_, rfl⟩
      have hqi : (wh : Int) % (bb.length : Int) = (q : Int) := by rw [hq]; omega
      have hql : q < bb.length := by rw [hq]; exact Nat.mod_lt _ (by have := HBL.out; omega)
      have hz : ¬ (bb.length : Int) = 0 := by have := HBL.out; omega
      have ks : ∀ W, (Instr.slice 22 (.slice (some ⟨g, 0, none⟩) bb.length cp) none (some (.int .i64 (q : Int))) none).run Tryd.prog W = .ok (.slice (some ⟨g, 0, none⟩) q cp) W := fun W => pre_u8 W g bb.length cp q (by have := HCP.out; omega)
      have C7 := Lib.hid (show CellsIn _ (some ⟨g, 0, none⟩) ((bb.take q).map bv) by have := (CellsIn.own H7.out).part 0 q; rw [List.map_take]; simpa using this)
      have GL := Lib.hid (imget_c (some ⟨g, 0, none⟩) cp (bb.take q) _ C7.out (by have := HBL.out; rw [List.length_take]; omega))
      rw [HLESS.out q hql, List.length_take, Nat.min_eq_left (Nat.le_of_lt hql)] at GL
      clear hq C7
      have l0 : (0 : Int) ≤ (wh : Int) := by omega
      go_wp2_with fail
      refine GL.out.mono ?_; rintro e8 w8 ⟨hb, rfl⟩
      have H8 := Lib.hid ((H7.out.below_read hb).alloc (.cells #[.int .i64 0, .slice none 0 0, .slice none 0 0] 25))
      clear hb GL H7 ks hqi hql hz
      have TW := Lib.hid (twin_bytes (some ⟨g, 0, none⟩) cp bb _ (CellsIn.own H8.out) (by have := HBL.out; omega))
      go_wp2_with fail
      refine TW.out.mono ?_; rintro e9 w9 ⟨g2, p2, rfl, K⟩
      have H9 := Lib.hid (H8.out.lift K)
      clear TW K H8
      obtain ⟨j, hj⟩ : ∃ j, j = wh % 3 := ⟨_, rfl⟩
      rw [← hj] at HSET
      have hji : (wh : Int) % 3 = (j : Int) := by rw [hj]; omega
      have hjl : j < 3 := by rw [hj]; omega
      have jl2 : (j : Int) < (bb.length : Int) := by have := HBL.out; omega
      obtain ⟨y, hy⟩ : ∃ y, ((bb.map bv ++ [.int .u8 77] : List Value))[j]? = some y := ⟨_, List.getElem?_eq_getElem (by have := HBL.out; simp; omega)⟩
      obtain ⟨g', p', e1, cj⟩ := own_cell H9.out j y hy
      cases e1
      have fj := (own_get H9.out).frozenAt j
      have HS := Lib.hid (set_tw (own_set H9.out j (bv x) (by have := HBL.out; omega)) (by have := HBL.out; omega))
      clear hj hjl hy H9
      go_upto_region 10 with fail
      clear cj fj hji jl2
      generalize (w9.setCell ⟨g2, j, none⟩ (bv x)) = wa at *
      obtain ⟨o, ho⟩ : ∃ o, o = bb.set j x := ⟨_, rfl⟩
      rw [← ho] at HS HSET
      have hol := Lib.hid (show o.length = bb.length by rw [ho, List.length_set])
      clear ho
      have GS := Lib.hid (imget_c (some ⟨g2, 0, none⟩) p2 o wa (CellsIn.own HS.out) (by have := HBL.out; rw [hol.out]; omega))
      rw [hol.out] at GS
      go_wp2_with fail
      refine GS.out.mono ?_; intro e10 w10 h10
      have h11 := get_any h10
      rw [HSET.out] at h11
      obtain ⟨n3, a31, a32, a33, a34, a35, a36, he, hb⟩ := h11
      obtain ⟨r15, hr15⟩ : ∃ r : Int, r = if decide (o = bb) = true then 0 else 14 := ⟨_, rfl⟩
      rw [← hr15] at he
      subst he
      have HR : Hid ((r15 == 0) = decide (o = bb)) := Lib.hid (by rw [hr15]; cases decide (o = bb) <;> rfl)
      have H10 := Lib.hid ((HS.out.below_read hb).alloc (.cells #[.int .i64 n3, .slice a31 a32 a33, .slice a34 a35 a36] 25))
      clear hb GS HS h10 hr15
      have TW := Lib.hid (twin_bytes (some ⟨g, 0, none⟩) cp bb _ (CellsIn.own (H10.out.pull 1 rfl)) (by have := HBL.out; omega))
      go_wp2_with fail
      refine TW.out.mono ?_; rintro e11 w11 ⟨g3, p3, rfl, K⟩
      have H11 := Lib.hid (H10.out.lift K)
      clear TW K H10
      obtain ⟨x0, x1, x2⟩ := im_cells (H11.out.pull 3 rfl)
      by_cases hcl : 0 < c.length
      · have cl1 : (0 : Int) < (c.length : Int) := by omega
        have hix : bb.length - 4 = 9 + d.length + (c.length - 1) * 4 := by have := HLE.out; omega
        have HNO := Lib.hid (HOP.out (c.length - 1) (by omega))
        rw [← hix] at HNO
        clear hix
        obtain ⟨y, hy⟩ : ∃ y, ((bb.map bv ++ [.int .u8 77] : List Value))[bb.length - 4]? = some y := ⟨_, List.getElem?_eq_getElem (by have := HBL.out; simp; omega)⟩
        obtain ⟨g', p', e1, cj⟩ := own_cell H11.out (bb.length - 4) y hy
        cases e1
        have fj := (own_get H11.out).frozenAt (bb.length - 4)
        have HS := Lib.hid (set_tw (own_set H11.out (bb.length - 4) (bv 200) (by have := HBL.out; omega)) (by have := HBL.out; omega))
        have l4 : (4 : Int) ≤ (bb.length : Int) := by have := HBL.out; omega
        have l5 : (bb.length : Int) < 20000 := by have := HBL.out; omega
        clear hy H11
        go_upto_region 15 with fail
        clear cj fj l4 l5 cl1 x0 x1 x2
        have HS2 : Hid (Hp w (w11.setCell ⟨g3, bb.length - 4, none⟩ (.int .u8 200)) _) := HS
        clear HS
        generalize (w11.setCell ⟨g3, bb.length - 4, none⟩ (.int .u8 200)) = wc at *
        obtain ⟨o2, ho2⟩ : ∃ o, o = bb.set (bb.length - 4) 200 := ⟨_, rfl⟩
        rw [← ho2] at HS2 HNO
        have hol2 := Lib.hid (show o2.length = bb.length by rw [ho2, List.length_set])
        clear ho2
        have GP := Lib.hid (imget_c (some ⟨g3, 0, none⟩) p3 o2 wc (CellsIn.own HS2.out) (by have := HBL.out; rw [hol2.out]; omega))
        rw [hol2.out, HNO.out] at GP
        go_wp2_with fail
        refine GP.out.mono ?_; rintro e12 w12 ⟨hb, rfl⟩
        have H12 := Lib.hid (HS2.out.below_read hb)
        clear hb GP HS2
        have SB := Lib.hid (same_bytes (some ⟨g2, 0, none⟩) (some ⟨g, 0, none⟩) p2 cp o bb w12 (CellsIn.own (H12.out.pull 1 rfl)) (CellsIn.own (H12.out.pull 2 rfl)) (by have := HBL.out; rw [hol.out]; omega) (by have := HBL.out; omega))
        rw [hol.out] at SB
        have hr := HR.out
        generalize decide (o = bb) = qq at *
        go_wp2_with fail
        refine SB.out.mono ?_; rintro e15 w15 ⟨rfl, hb⟩
        have HZ := Lib.hid (H12.out.below_read hb)
        clear hb SB H12
        go_wp2
        go_ret
        exact ⟨by simp, HZ.out.below⟩
      · have cl1 : ¬ (0 : Int) < (c.length : Int) := by omega
        have SB := Lib.hid (same_bytes (some ⟨g2, 0, none⟩) (some ⟨g, 0, none⟩) p2 cp o bb w11 (CellsIn.own (H11.out.pull 1 rfl)) (CellsIn.own (H11.out.pull 2 rfl)) (by have := HBL.out; rw [hol.out]; omega) (by have := HBL.out; omega))
        rw [hol.out] at SB
        have hr := HR.out
        generalize decide (o = bb) = qq at *
        go_wp2_with fail
        refine SB.out.mono ?_; rintro e15 w15 ⟨rfl, hb⟩
        have HZ := Lib.hid (H11.out.below_read hb)
        clear hb SB H11
        go_wp2
        go_ret
        exact ⟨by simp, HZ.out.below⟩
end Go.Proofs.YtcfoljdpffonhaaDoor
