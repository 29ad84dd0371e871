/- Images: ImagesGets, walked. -/
import Derived.Test.YtcfoljdpffonhaaGreatDoorNh
import Derived.Test.YtcfoljdpffonhaaGreatDoorPd
import Derived.Test.YtcfoljdpffonhaaGreatDoorLr
import Derived.Outline
set_option linter.unusedVariables false
set_option linter.unusedSimpArgs false
namespace Go.Proofs.YtcfoljdpffonhaaGreatDoor
open Go.RowKit Go.Joins Go.Shelf Go.ChangeShapes Go.WideShapes Go.ChangeAt Go.Deep
attribute [local go_sem] Oper.semAt_some

theorem opened_bytesC {H : Type} {enc : TypeId × Value → H} {W : World} {cs : List Value} {fuel : Nat} {x : DataW H × List MemPlace} (h : DataW.trod enc Tryz.prog W 0 (fun _ => true) true fuel 22 cs = some x) :
    ∃ a c xs, cs = [.slice a (xs : List UInt8).length c] ∧ CellsIn W a (xs.map bv) ∧ xs.length ≤ c := by
  obtain ⟨a, c, xs, rfl, hc⟩ := opened_bytes h
  refine ⟨a, c, xs, rfl, hc, ?_⟩
  rcases open_slice Tryz.underlying22 h with ⟨e, _⟩ | ⟨a', len, cap, m, n, D, Pl, e, _, hl, _⟩
  · simp at e; simp [e]
  · simp at e
    obtain ⟨_, rfl, rfl⟩ := e
    exact hl
def gN (o : Option (Nat × List UInt8 × List I4)) : Int := match o with | some (n, _, _) => (n : Int) | none => 0
def gD (o : Option (Nat × List UInt8 × List I4)) : List UInt8 := match o with | some (_, d, _) => d | none => []
def gC (o : Option (Nat × List UInt8 × List I4)) : List I4 := match o with | some (_, _, c) => c | none => []
def gE (o : Option (Nat × List UInt8 × List I4)) : Int := match o with | some _ => 0 | none => 14
theorem geto_open {w w' : World} {o : Option (Nat × List UInt8 × List I4)} {e : Ending} (h : GetOwn w o e w') : ∃ ad dc ac cc, e = .returned (.tuple #[imV (gN o) ad (gD o).length dc ac (gC o).length cc, .int .i64 (gE o)]) ∧ Hp w w' [OwnBM (.slice ad (gD o).length dc) (gD o), OwnN (.slice ac (gC o).length cc) (gC o)] := by
  match o, h with
  | some (n, d, c), h =>
    obtain ⟨ad, dc, ac, cc, e, H⟩ := h
    exact ⟨ad, dc, ac, cc, e, H⟩
  | none, h =>
    obtain ⟨e, hb⟩ := h
    refine ⟨none, 0, none, 0, e, ?_⟩
    exact ownm_of (own_nil (own_nil ((Hp.start w).below_read hb) 61 4) 5 1)
theorem gets_len (b : List UInt8) : (gD (imget b)).length ≤ b.length ∧ (gC (imget b)).length ≤ b.length := by
  rcases head_cases b with ⟨_, hn⟩ | ⟨_, _, hn⟩ | ⟨n1, n0, d1, d0, c1, c0, r, rfl⟩
  · rw [hn]; simp [gD, gC]
  · rw [hn]; simp [gD, gC]
  · have hg : imget (116 :: 107 :: 49 :: n1 :: n0 :: d1 :: d0 :: c1 :: c0 :: r) = if r.length = nb d1 d0 + nb c1 c0 * 4 then
      if imck (nb n1 n0) (r.take (nb d1 d0)) (chunk (r.drop (nb d1 d0))) = true then some (nb n1 n0, r.take (nb d1 d0), chunk (r.drop (nb d1 d0))) else none
      else none := rfl
    rw [hg]
    by_cases hl : r.length = nb d1 d0 + nb c1 c0 * 4
    · rw [if_pos hl]
      obtain ⟨_, hcl⟩ := ibs_chunk (nb c1 c0) (r.drop (nb d1 d0)) (by rw [List.length_drop]; omega)
      by_cases hk : imck (nb n1 n0) (r.take (nb d1 d0)) (chunk (r.drop (nb d1 d0))) = true
      · rw [if_pos hk]
        show (r.take (nb d1 d0)).length ≤ _ ∧ (chunk (r.drop (nb d1 d0))).length ≤ _
        rw [hcl, List.length_take]
        simp
        omega
      · rw [if_neg hk]; simp [gD, gC]
    · rw [if_neg hl]; simp [gD, gC]
theorem CellsIn.pre {w : World} {a : Option Addr} {xs ys : List Value} (h : CellsIn w a (xs ++ ys)) : CellsIn w a xs := fun j hj => by
  obtain ⟨g, o, e, hc⟩ := h j (by rw [List.length_append]; omega)
  rw [List.getElem_append_left hj] at hc
  exact ⟨g, o, e, hc⟩
theorem CellsIn.ownm {w0 w : World} {r : List Thing} {e : TypeId} {size : Nat} {a : Option Addr} {n c m : Nat} {cs : List Value} (H : Hp w0 w (OwnM e size (.slice a n c) m cs :: r)) : CellsIn w a cs := fun j hj => by
  obtain ⟨g, cap, e1, hc⟩ := ownm_cell H j cs[j] (List.getElem?_eq_getElem hj)
  cases e1
  exact ⟨g, 0, rfl, by rw [Nat.zero_add]; exact hc⟩
theorem m_keep {w0 w : World} {r : List Thing} {v : Value} {bs : List UInt8} (H : Hp w0 w (OwnBM v bs :: r)) : Hp w0 w (BkB.OwnX v bs.length :: r) := H.as fun S h => ⟨bs.map (fun x => (x.toNat : Int)), by simp, by
  have e : (bs.map (fun x => (x.toNat : Int))).map (Value.int .u8) = bs.map bv := by rw [List.map_map]; rfl
  show (OwnM 5 1 v (bs.map (fun x => (x.toNat : Int))).length ((bs.map (fun x => (x.toNat : Int))).map (Value.int .u8))).at_ w S
  rw [e, List.length_map]; exact h⟩
set_option maxHeartbeats 16000000 in
set_option maxRecDepth 20000 in
theorem gets_c (w : World) (a : Option Addr) (bc : Nat) (b : List UInt8) (hb : CellsIn w a (b.map bv)) (hcp : b.length ≤ bc) :
    Calls Tryz.prog 4 #[.slice a b.length bc] w fun e w' => e = .returned (.bool true) ∧ Below w.heap.size w w' := by
  by_cases hbl : 10000 < b.length
  · have j1 : (10000 : Int) < (b.length : Int) := by omega
    go_enter Tryz.func4, Tryz.ntmps4
    go_wp2
    go_ret
    exact ⟨rfl, Below.refl _ _⟩
  have j1 : ¬ (10000 : Int) < (b.length : Int) := by omega
  have HB := Lib.hid hb
  have HL : Hid (b.length ≤ 10000 ∧ b.length ≤ bc) := Lib.hid ⟨by omega, hcp⟩
  have H0 := Lib.hid (Hp.start w)
  have TB := Lib.hid (twin_bytes a bc b w hb (by omega))
  clear hb hcp hbl
  go_enter Tryz.func4, Tryz.ntmps4
  go_wp2_with fail
  refine TB.out.mono ?_; rintro e1 w1 ⟨g, cp, rfl, K⟩
  have H1 := Lib.hid (H0.out.lift K)
  clear TB K H0
  obtain ⟨o, ho⟩ : ∃ o, o = imget b := ⟨_, rfl⟩
  have hln := gets_len b
  have G1 := Lib.hid (imgeto_c (some ⟨g, 0, none⟩) cp b w1 (CellsIn.pre (CellsIn.own H1.out)) (by have := HL.out; omega))
  have G2 := Lib.hid (fun (W : World) (r : List Thing) (HW : Hp w W (OwnT g cp b :: r)) => imgeto_c (some ⟨g, 0, none⟩) cp b W (CellsIn.pre (CellsIn.own HW)) (by have := HL.out; omega))
  have G3 := Lib.hid (fun (W : World) (r : List Thing) (HW : Hp w W r) => rimget_c a bc b W (HB.out.hp HW) HL.out.1 HL.out.2)
  rw [← ho] at G1 G2 G3 hln
  have HLN := Lib.hid hln
  have GO : Hid (∀ (wa wb : World) (e : Ending), GetOwn wa o e wb → _) := Lib.hid (fun wa wb e h => geto_open h)
  have hee : (gE o != gE o) = false := by simp
  clear ho hln
  generalize gE o = er at *
  generalize gN o = n at *
  generalize gD o = d at *
  generalize gC o = c at *
  go_wp2_with fail
  refine G1.out.mono ?_; intro e2 w2 h
  obtain ⟨a1, c1, a2, c2, rfl, K⟩ := GO.out _ _ _ h
  have H2 := Lib.hid (blk_new (H1.out.lift K) (.cells #[.int .i64 n, .slice a1 d.length c1, .slice a2 c.length c2] 25))
  clear K h G1 H1
  go_upto_region 5 with fail
  generalize (w2.alloc (.cells #[.int .i64 n, .slice a1 d.length c1, .slice a2 c.length c2] 25)) = w3 at *
  generalize w2.heap.size = t1 at *
  have H3 : Hid (Hp w w3 [IM t1 n (.slice a1 d.length c1) (.slice a2 c.length c2), OwnBM (.slice a1 d.length c1) d, OwnN (.slice a2 c.length c2) c, OwnT g cp b]) := H2
  clear H2
  go_wp2_with fail
  refine (G2.out _ _ (H3.out.pull 3 rfl)).mono ?_; intro e3 w4 h
  obtain ⟨b1, f1, b2, f2, rfl, K⟩ := GO.out _ _ _ h
  have H4 := Lib.hid (blk_new (H3.out.lift K) (.cells #[.int .i64 n, .slice b1 d.length f1, .slice b2 c.length f2] 25))
  clear K h G2 H3
  go_upto_region 6 with fail
  generalize (w4.alloc (.cells #[.int .i64 n, .slice b1 d.length f1, .slice b2 c.length f2] 25)) = w5 at *
  generalize w4.heap.size = t2 at *
  have H5 : Hid (Hp w w5 [IM t2 n (.slice b1 d.length f1) (.slice b2 c.length f2), OwnBM (.slice b1 d.length f1) d, OwnN (.slice b2 c.length f2) c, IM t1 n (.slice a1 d.length c1) (.slice a2 c.length c2), OwnBM (.slice a1 d.length c1) d, OwnN (.slice a2 c.length c2) c, OwnT g cp b]) := H4
  clear H4
  go_wp2_with fail
  refine (G3.out _ _ H5.out).mono ?_; intro e4 w6 h
  obtain ⟨r1, s1, r2, s2, rfl, K⟩ := GO.out _ _ _ h
  have H6 := Lib.hid (blk_new (H5.out.lift K) (.cells #[.int .i64 n, .slice r1 d.length s1, .slice r2 c.length s2] 25))
  clear K h G3 H5 GO
  go_upto_region 7 with fail
  generalize (w6.alloc (.cells #[.int .i64 n, .slice r1 d.length s1, .slice r2 c.length s2] 25)) = w7 at *
  generalize w6.heap.size = t3 at *
  have H7 : Hid (Hp w w7 [IM t3 n (.slice r1 d.length s1) (.slice r2 c.length s2), OwnBM (.slice r1 d.length s1) d, OwnN (.slice r2 c.length s2) c, IM t2 n (.slice b1 d.length f1) (.slice b2 c.length f2), OwnBM (.slice b1 d.length f1) d, OwnN (.slice b2 c.length f2) c, IM t1 n (.slice a1 d.length c1) (.slice a2 c.length c2), OwnBM (.slice a1 d.length c1) d, OwnN (.slice a2 c.length c2) c, OwnT g cp b]) := H6
  clear H6
  have hdl : d.length < 1000000000 := by have := HLN.out; have := HL.out; omega
  have hcl : c.length < 1000000000 := by have := HLN.out; have := HL.out; omega
  have S1 := Lib.hid (same_image n n a1 r1 a2 r2 c1 s1 c2 s2 d d c c w7 (CellsIn.ownm (H7.out.pull 7 rfl)) (CellsIn.ownm (H7.out.pull 1 rfl)) (CellsIn.own (H7.out.pull 8 rfl)) (CellsIn.own (H7.out.pull 2 rfl)) hdl hdl hcl hcl)
  have S2 := Lib.hid (fun (W : World) (HW : Hp w W [IM t3 n (.slice r1 d.length s1) (.slice r2 c.length s2), OwnBM (.slice r1 d.length s1) d, OwnN (.slice r2 c.length s2) c, IM t2 n (.slice b1 d.length f1) (.slice b2 c.length f2), OwnBM (.slice b1 d.length f1) d, OwnN (.slice b2 c.length f2) c, IM t1 n (.slice a1 d.length c1) (.slice a2 c.length c2), OwnBM (.slice a1 d.length c1) d, OwnN (.slice a2 c.length c2) c, OwnT g cp b]) => same_image n n b1 r1 b2 r2 f1 s1 f2 s2 d d c c W (CellsIn.ownm (HW.pull 4 rfl)) (CellsIn.ownm (HW.pull 1 rfl)) (CellsIn.own (HW.pull 5 rfl)) (CellsIn.own (HW.pull 2 rfl)) hdl hdl hcl hcl)
  have LB := Lib.hid (fun (W : World) (r : List Thing) (HW : Hp w W (OwnT g cp b :: r)) => left_bytes W g cp a bc b (CellsIn.own HW) (own_capn HW) (HB.out.hp HW) (by have := HL.out; omega))
  have htt : (decide (n = n) && decide (d = d) && decide (c = c)) = true := by simp
  rw [htt] at S1 S2
  clear hdl hcl htt
  obtain ⟨x0, x1, x2⟩ := im_cells (H7.out.pull 6 rfl)
  obtain ⟨y0, y1, y2⟩ := im_cells H7.out
  go_wp2_with fail
  refine S1.out.mono ?_; rintro e5 w8 ⟨rfl, hbb⟩
  have H8 := Lib.hid (H7.out.below_read hbb)
  clear S1 hbb H7 x0 x1 x2 y0 y1 y2
  obtain ⟨x0, x1, x2⟩ := im_cells (H8.out.pull 3 rfl)
  obtain ⟨y0, y1, y2⟩ := im_cells H8.out
  go_wp2_with fail
  refine (S2.out _ H8.out).mono ?_; rintro e6 w9 ⟨rfl, hbb⟩
  have H9 := Lib.hid (H8.out.below_read hbb)
  clear S2 hbb H8 x0 x1 x2 y0 y1 y2
  go_wp2_with fail
  refine (LB.out _ _ (H9.out.pull 9 rfl)).mono ?_; rintro e7 wz ⟨rfl, hbb⟩
  have HKK := Lib.hid (H9.out.below_read hbb)
  clear LB hbb H9
  go_upto_region 10 with fail
  have HB1 := Lib.hid (own_nil (own_nil (blk_new HKK.out (.cells (BkB.bk (.slice none 0 0) 0 (.slice none 0 0)) 42)) 105 3) 92 3)
  have HB2 := Lib.hid (HB1.out.pull 2 rfl)
  clear HB1
  have HB3 : Hid (Hp w (wz.alloc (.cells #[.int .i64 0, .slice none 0 0, .slice none 0 0, .slice none 0 0, .slice none 0 0, .slice none 0 0, .slice none 0 0, .slice none 0 0, .slice none 0 0] 42)) (BkB.Bkt (.slice none 0 0) wz.heap.size 0 (.slice none 0 0) :: BkB.Rows_ (.slice none 0 0) [] :: BkI.Rows_ (.slice none 0 0) [] :: [IM t3 n (.slice r1 d.length s1) (.slice r2 c.length s2), OwnBM (.slice r1 d.length s1) d, OwnN (.slice r2 c.length s2) c, IM t2 n (.slice b1 d.length f1) (.slice b2 c.length f2), OwnBM (.slice b1 d.length f1) d, OwnN (.slice b2 c.length f2) c, IM t1 n (.slice a1 d.length c1) (.slice a2 c.length c2), OwnBM (.slice a1 d.length c1) d, OwnN (.slice a2 c.length c2) c, OwnT g cp b])) := HB2
  clear HB2 HKK
  generalize (wz.alloc (.cells #[.int .i64 0, .slice none 0 0, .slice none 0 0, .slice none 0 0, .slice none 0 0, .slice none 0 0, .slice none 0 0, .slice none 0 0, .slice none 0 0] 42)) = wb at *
  generalize wz.heap.size = kb at *
  have K2 := Lib.hid (BkB.ints_c (some ⟨g, 0, none⟩) b.length cp HB3.out (by omega) (by simp))
  go_wp2_with fail
  refine K2.out.mono ?_; rintro eb wk1 ⟨rfl, vb1, K⟩
  have HB4 := Lib.hid K
  clear K K2 HB3
  have K1 := Lib.hid (kimage_c n a1 a2 d.length c1 c.length c2 HB4.out (by omega) (by simp) (by simp))
  obtain ⟨x0, x1, x2⟩ := im_cells (HB4.out.pull 9 rfl)
  go_wp2_with fail
  refine K1.out.mono ?_; rintro ea wk2 ⟨rfl, vb2, vi2, K⟩
  have HB5 := Lib.hid K
  clear K K1 HB4 x0 x1 x2
  have K3 := Lib.hid (kimage_c n b1 b2 d.length f1 c.length f2 HB5.out (by omega) (by simp) (by simp))
  obtain ⟨x0, x1, x2⟩ := im_cells (HB5.out.pull 6 rfl)
  go_wp2_with fail
  refine K3.out.mono ?_; rintro ec wk3 ⟨rfl, vb3, vi3, K⟩
  have L1 := BkI.ownx_of (K.pull 8 rfl)
  have L2 := BkI.ownx_of (L1.pull 11 rfl)
  have L3 := L2.pull 4 rfl
  have L4 := m_keep (L3.pull 9 rfl)
  have L5 := m_keep (L4.pull 11 rfl)
  have L6 := m_keep (ownm_of (ownT_cut (L5.pull 12 rfl)))
  have L7 := (L6.pull 7 rfl).pull 7 rfl
  have HX := Lib.hid L7
  clear K K3 HB5 L1 L2 L3 L4 L5 L6 L7 x0 x1 x2
  have AP := Lib.hid (apart_c (xs := [⟨(.slice (some ⟨g, 0, none⟩) b.length cp), b.length, 0 + 1⟩, ⟨(.slice a1 d.length c1), d.length, 0 + 1 + 1⟩, ⟨(.slice b1 d.length f1), d.length, 0 + 1 + 1 + 1 + 1⟩]) (ys := [⟨(.slice a2 c.length c2), c.length, 0 + 1 + 1 + 1⟩, ⟨(.slice b2 c.length f2), c.length, 0 + 1 + 1 + 1 + 1 + 1⟩]) HX.out (by have := HL.out; have := HLN.out; intro h hh; simp only [List.mem_cons, List.not_mem_nil, or_false] at hh; rcases hh with rfl | rfl | rfl <;> (dsimp only; omega)) (by simp) (by have := HL.out; have := HLN.out; intro h hh; simp only [List.mem_cons, List.not_mem_nil, or_false] at hh; rcases hh with rfl | rfl <;> (dsimp only; omega)) (by simp))
  go_wp2_with fail
  refine AP.out.mono ?_; rintro ed wk4 ⟨rfl, hbb⟩
  have HZ := Lib.hid hbb
  clear hbb AP HX
  go_wp2
  go_ret
  exact ⟨rfl, HZ.out⟩
end Go.Proofs.YtcfoljdpffonhaaGreatDoor
