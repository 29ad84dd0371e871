/- CpuCopies: a word that is loaded from one place and stored at another one: walked. -/
import Derived.Test.YtijkkompnfpdeaaGreatDoorUw
set_option linter.unusedVariables false
set_option linter.unusedSimpArgs false
namespace Go.Proofs.YtijkkompnfpdeaaGreatDoor
open Go.RowKit Go.Joins Go.Shelf
attribute [local go_sem] Oper.semAt_some

def C2 (f g : UInt8) : List I4 := [(11, 1, 0, f), (12, 1, 0, g)]
theorem C2_ok (f g : UInt8) : (C2 f g).all ik = true := by simp [C2, ik, ck, fl, rck]
theorem C2_im {f g : UInt8} {d : List UInt8} (h : d.length ≤ 300) : imck (d.length : Int) d (C2 f g) = true := by
  unfold imck
  rw [C2_ok]
  simp [C2]; omega
def T0 (d : List UInt8) : Cs := ⟨[0, 0, 0, 0, 0, 0, 0, 0], 0, d, [], false⟩
def T1 (d : List UInt8) (u : UInt32) : Cs := ⟨[0, u, 0, 0, 0, 0, 0, 0], 1, d, [], false⟩
def T2 (d : List UInt8) (u : UInt32) : Cs := ⟨[0, u, 0, 0, 0, 0, 0, 0], 2, d, [], false⟩
theorem T0_first (d : List UInt8) : firstC d.length d = T0 d := by simp [firstC, T0, List.replicate]
theorem plc0 (f : UInt8) : ((0 : UInt32) + UInt32.ofNat f.toNat).toNat = f.toNat := by
  have := f.toNat_lt
  rw [UInt32.zero_add, UInt32.toNat_ofNat', Nat.mod_eq_of_lt (by omega)]
theorem ey1 {f g : UInt8} {d : List UInt8} (h : f.toNat + 4 ≤ d.length) : stepC (C2 f g) (T0 d) = (T1 d (ld4 d f.toNat), false, ak0, 0) := by
  have hp : (plc (T0 d) (11, 1, 0, f)).toNat = f.toNat := plc0 f
  have hd : doesC (11, 1, 0, f) (T0 d) = some (wrg (T0 d) 1 (ld4 d f.toNat), 0) := by
    show (if (plc (T0 d) (11, 1, 0, f)).toNat + 4 ≤ d.length then some (wrg (T0 d) 1 (ld4 d (plc (T0 d) (11, 1, 0, f)).toNat), (0 : Int)) else none) = _
    rw [hp, if_pos h]
  show (match doesC (11, 1, 0, f) (T0 d) with | some (t, dd) => ({ t with at_ := t.at_ + (1 + dd) }, false, ak0, (0 : Int)) | none => (T0 d, false, ak0, 15)) = _
  rw [hd]; rfl
theorem en1 {f g : UInt8} {d : List UInt8} (h : ¬ f.toNat + 4 ≤ d.length) : stepC (C2 f g) (T0 d) = (T0 d, false, ak0, 15) := by
  have hp : (plc (T0 d) (11, 1, 0, f)).toNat = f.toNat := plc0 f
  have hd : doesC (11, 1, 0, f) (T0 d) = none := by
    show (if (plc (T0 d) (11, 1, 0, f)).toNat + 4 ≤ d.length then some (wrg (T0 d) 1 (ld4 d (plc (T0 d) (11, 1, 0, f)).toNat), (0 : Int)) else none) = _
    rw [hp, if_neg h]
  show (match doesC (11, 1, 0, f) (T0 d) with | some (t, dd) => ({ t with at_ := t.at_ + (1 + dd) }, false, ak0, (0 : Int)) | none => (T0 d, false, ak0, 15)) = _
  rw [hd]
theorem ey2 {f g : UInt8} {d : List UInt8} {u : UInt32} (h : g.toNat + 4 ≤ d.length) : stepC (C2 f g) (T1 d u) = (T2 (layB d g.toNat (w4 u)) u, false, ak0, 0) := by
  have hp : (plc (T1 d u) (12, 1, 0, g)).toNat = g.toNat := plc0 g
  have hd : doesC (12, 1, 0, g) (T1 d u) = some ({ T1 d u with mem := layB d g.toNat (w4 u) }, 0) := by
    show (if (plc (T1 d u) (12, 1, 0, g)).toNat + 4 ≤ d.length then some ({ T1 d u with mem := layB d (plc (T1 d u) (12, 1, 0, g)).toNat (w4 u) }, (0 : Int)) else none) = _
    rw [hp, if_pos h]
  show (match doesC (12, 1, 0, g) (T1 d u) with | some (t, dd) => ({ t with at_ := t.at_ + (1 + dd) }, false, ak0, (0 : Int)) | none => (T1 d u, false, ak0, 15)) = _
  rw [hd]; rfl
theorem en2 {f g : UInt8} {d : List UInt8} {u : UInt32} (h : ¬ g.toNat + 4 ≤ d.length) : stepC (C2 f g) (T1 d u) = (T1 d u, false, ak0, 15) := by
  have hp : (plc (T1 d u) (12, 1, 0, g)).toNat = g.toNat := plc0 g
  have hd : doesC (12, 1, 0, g) (T1 d u) = none := by
    show (if (plc (T1 d u) (12, 1, 0, g)).toNat + 4 ≤ d.length then some ({ T1 d u with mem := layB d (plc (T1 d u) (12, 1, 0, g)).toNat (w4 u) }, (0 : Int)) else none) = _
    rw [hp, if_neg h]
  show (match doesC (12, 1, 0, g) (T1 d u) with | some (t, dd) => ({ t with at_ := t.at_ + (1 + dd) }, false, ak0, (0 : Int)) | none => (T1 d u, false, ak0, 15)) = _
  rw [hd]
theorem w4_ld4 (d : List UInt8) (k : Nat) : w4 (ld4 d k) = [d.getD k 0, d.getD (k + 1) 0, d.getD (k + 2) 0, d.getD (k + 3) 0] := by
  have h := pn_ld d k
  rw [pn_four] at h
  have h0 := (d.getD k 0).toNat_lt
  have h1 := (d.getD (k + 1) 0).toNat_lt
  have h2 := (d.getD (k + 2) 0).toNat_lt
  have h3 := (d.getD (k + 3) 0).toNat_lt
  unfold w4
  generalize ld4 d k = u at *
  generalize d.getD k 0 = a0 at *
  generalize d.getD (k + 1) 0 = a1 at *
  generalize d.getD (k + 2) 0 = a2 at *
  generalize d.getD (k + 3) 0 = a3 at *
  have e : ∀ (n : Nat) (a : UInt8), n % 256 = a.toNat → UInt8.ofNat n = a := fun n a h => by
    apply UInt8.toNat_inj.1; rw [UInt8.toNat_ofNat']; exact h
  rw [e _ a0 (by omega), e _ a1 (by omega), e _ a2 (by omega), e _ a3 (by omega)]
/-- The first ones of four bytes laid. -/
def cp4 (d : List UInt8) (f g k : Nat) : List UInt8 := layB d g ((List.range k).map (fun i => d.getD (f + i) 0))
theorem layB_snoc : ∀ (l m : List UInt8) (k : Nat) (x : UInt8), layB m k (l ++ [x]) = (layB m k l).set (k + l.length) x
  | [], m, k, x => rfl
  | y :: l, m, k, x => by
    rw [List.cons_append, layB, layB, layB_snoc l, List.length_cons, show k + 1 + l.length = k + (l.length + 1) by omega]
theorem cp4_zero (d : List UInt8) (f g : Nat) : cp4 d f g 0 = d := rfl
theorem cp4_up (d : List UInt8) (f g k : Nat) : cp4 d f g (k + 1) = (cp4 d f g k).set (g + k) (d.getD (f + k) 0) := by
  unfold cp4
  rw [List.range_succ, List.map_append, List.map_singleton, layB_snoc]
  simp
theorem cp4_len (d : List UInt8) (f g k : Nat) : (cp4 d f g k).length = d.length := layB_len _ _ _
theorem cp4_four (d : List UInt8) (f g : Nat) : cp4 d f g 4 = layB d g (w4 (ld4 d f)) := by rw [w4_ld4]; rfl
def CopP (w : World) (e : Ending) (w' : World) : Prop := e = .returned (.bool true) ∧ Below w.heap.size w w'
set_option maxHeartbeats 16000000 in
set_option maxRecDepth 20000 in
theorem copies_c (w : World) (ad : Option Addr) (dc : Nat) (d : List UInt8) (f g : UInt8) (hd : CellsIn w ad (d.map bv)) :
    Calls Tryz.prog 4 #[.slice ad d.length dc, bv f, bv g] w (CopP w) := by
  by_cases hlen : 300 < d.length
  · have LV := Lib.hid (lives_c w)
    have h1 : (300 : Int) < (d.length : Int) := by omega
    clear hd
    go_enter Tryz.func4, Tryz.ntmps4
    go_wp2_with fail
    refine LV.out.mono ?_; rintro e w1 ⟨rfl, hb⟩
    have HB := Lib.hid hb
    clear LV hb
    go_wp2
    go_ret
    exact ⟨rfl, HB.out⟩
  · have h1 : ¬ (300 : Int) < (d.length : Int) := by omega
    have H0 := own_lit (n := 2) (size := 4) (e := 26) (cs := #[.int .u8 11, .int .u8 1, .int .u8 0, bv f, .int .u8 12, .int .u8 1, .int .u8 0, bv g]) (Hp.start w) rfl (by decide)
    have HD0 := Lib.hid hd
    have H1 := Lib.hid (blk_new_at H0 (.cells #[.int .i64 (d.length : Int), .slice ad d.length dc, .slice (some ⟨w.heap.size, 0, none⟩) 2 2] 29) (w.heap.size + 1) (size_alloc1 _ _))
    have HL := Lib.hid (show d.length ≤ 300 by omega)
    clear H0 hd hlen
    go_enter Tryz.func4, Tryz.ntmps4
    go_upto_region 4 with fail
    generalize w.heap.size + 1 = mb at *
    generalize hcb : w.heap.size = cb at *
    have HCB := Lib.hid hcb
    clear hcb
    generalize (w.alloc _).alloc _ = W at *
    have hm := blk_get H1.out
    have x0 : W.cell? ⟨mb, 0, none⟩ = some (.int .i64 (d.length : Int)) := cell_blk hm 0
    have x1 : W.cell? ⟨mb, 1, none⟩ = some (.slice ad d.length dc) := cell_blk hm 1
    have x2 : W.cell? ⟨mb, 2, none⟩ = some (.slice (some ⟨cb, 0, none⟩) 2 2) := cell_blk hm 2
    have HC : CellsIn W (some ⟨cb, 0, none⟩) (ics (C2 f g)) := CellsIn.own (H1.out.pull 1 rfl)
    have NC := Lib.hid (new_y d.length ad (some ⟨cb, 0, none⟩) dc 2 d (C2 f g) (C2_im HL.out) (HD0.out.below H1.out.below) HC H1.out)
    clear hm HC
    go_wp2_with fail
    refine NC.out.mono ?_; rintro e w1 ⟨b, rfl, H2'⟩
    rw [T0_first] at H2'
    have H2 := Lib.hid H2'
    clear NC H1 H2' x0 x1 x2
    have k1 := w8_64 f
    have k2 := w8_64 g
    have b1 := f.toNat_lt
    have b2 := g.toNat_lt
    have k3 : IntKind.i64.wrap ((f.toNat : Int) + 4) = (f.toNat : Int) + 4 := by rw [IntKind.wrap_i64]; omega
    have k4 : IntKind.i64.wrap ((g.toNat : Int) + 4) = (g.toNat : Int) + 4 := by rw [IntKind.wrap_i64]; omega
    clear b1 b2
    by_cases hf : f.toNat + 4 ≤ d.length
    · have SE := Lib.hid (fun W r (H : Hp w W (CR b (C2 f g) (T0 d) :: r)) => step_e (ey1 (g := g) hf) (C2_ok f g) (by simp [C2]) (by simp [T0]) H)
      have n1 : (f.toNat : Int) + 4 ≤ (d.length : Int) := by omega
      have HF := Lib.hid hf
      clear hf
      go_wp2_with fail
      refine (SE.out _ _ H2.out).mono ?_; rintro e w2 ⟨rfl, H3'⟩
      have H3 := Lib.hid H3'
      clear SE H2 H3'
      obtain ⟨i0, hi, hz0, hz1, hz2⟩ := info_parts info_b8
      by_cases hg : g.toNat + 4 ≤ d.length
      · have SE := Lib.hid (fun W r (H : Hp w W (CR b (C2 f g) (T1 d (ld4 d f.toNat)) :: r)) => step_e (ey2 (f := f) hg) (C2_ok f g) (by simp [C2]) (by simp [T1]) H)
        have n2 : (g.toNat : Int) + 4 ≤ (d.length : Int) := by omega
        have HG := Lib.hid hg
        clear hg
        go_wp2_with fail
        refine (SE.out _ _ (H3.out.alloc _)).mono ?_; rintro e w3 ⟨rfl, H4'⟩
        have H4 := Lib.hid H4'
        clear SE H3 H4'
        obtain ⟨ga, oa, rfl, _⟩ := byte_cell HD0.out (k := 0) (by have := HF.out; omega)
        go_upto_region 15 with fail
        have H5 := Lib.hid (H4.out.alloc (.cells #[bv ak0.what, wv ak0.h, wv ak0.v, wv ak0.m, .int .i64 ak0.wait] 37))
        generalize w3.alloc _ = W3 at *
        clear H4
        have HD := Lib.hid (HD0.out.below H5.out.below)
        have hda : ∀ j u, (d.map bv)[j]? = some u → W3.cell? ((⟨ga, oa, none⟩ : Addr).add j) = some u := fun j u hj => by
          obtain ⟨hlt, e⟩ := List.getElem?_eq_some_iff.1 hj
          obtain ⟨g', o', e', hcell⟩ := HD.out j hlt
          cases e'
          rw [Addr.add_lit, hcell, e]
        have HDA := Lib.hid hda
        clear hda
        go_wp2_with (at_builtin; refine wpList_append_hp rfl _ _ 22 rfl 5 i0 _ 1 1 Tryz.underlying22 hi hz0 hz1 hz2 rfl (by decide) (own_nil H5.out 5 1) rfl ⟨ga, oa, none⟩ d.length dc (d.map bv) rfl (by simp) HDA.out (by simp [bv, Value.oneCell']) (by have := HL.out; omega) (by omega) ?_; intro v' wq HA0)
        have HA1 := own_as HA0 (Nat.zero_add d.length) (List.nil_append (d.map bv))
        obtain ⟨gw, cw, rfl⟩ := Go.Joins.ownsRow_form (own_get HA1) (by have := HF.out; omega)
        have HK0 : Hid (Hp w wq (Own 5 1 (.slice (some ⟨gw, 0, none⟩) d.length cw) d.length ((cp4 d f.toNat g.toNat 0).map bv) :: CR b (C2 f g) (T2 (layB d g.toNat (w4 (ld4 d f.toNat))) (ld4 d f.toNat)) :: _)) := Lib.hid HA1
        clear HA0 HA1 HDA HD H5
        go_wp2
        go_loopw [17] (fun s17 wr => ∃ k : Nat, k ≤ 4 ∧ s17 = .int .i64 (k : Int) ∧ Hid (Hp w wr (Own 5 1 (.slice (some ⟨gw, 0, none⟩) d.length cw) d.length ((cp4 d f.toNat g.toNat k).map bv) :: CR b (C2 f g) (T2 (layB d g.toNat (w4 (ld4 d f.toNat))) (ld4 d f.toNat)) :: _))) (fun s17 _ => 4 - (intOf s17).toNat)
        case atStart => exact ⟨0, by omega, rfl, HK0⟩
        case round =>
        obtain ⟨k, hk, rfl, HK⟩ := hrel
        clear HK0
        by_cases hlt : k < 4
        · have y1 : IntKind.i64.wrap ((f.toNat : Int) + (k : Int)) = (f.toNat : Int) + (k : Int) := by have := f.toNat_lt; rw [IntKind.wrap_i64]; omega
          have y2 : IntKind.i64.wrap ((g.toNat : Int) + (k : Int)) = (g.toNat : Int) + (k : Int) := by have := g.toNat_lt; rw [IntKind.wrap_i64]; omega
          have y3 : IntKind.i64.wrap ((k : Int) + 1) = (k : Int) + 1 := by rw [IntKind.wrap_i64]; omega
          have y4 : ((f.toNat : Int) + (k : Int)).toNat = f.toNat + k := by omega
          have y5 : ((g.toNat : Int) + (k : Int)).toNat = g.toNat + k := by omega
          have y6 : (f.toNat : Int) + (k : Int) < (d.length : Int) := by have := HF.out; omega
          have y7 : (g.toNat : Int) + (k : Int) < (d.length : Int) := by have := HG.out; omega
          have y8 : 0 ≤ (f.toNat : Int) + (k : Int) := by omega
          have y9 : 0 ≤ (g.toNat : Int) + (k : Int) := by omega
          have hfk : f.toNat + k < d.length := by have := HF.out; omega
          have hgk : g.toNat + k < d.length := by have := HG.out; omega
          obtain ⟨g1, o1, e1, c1⟩ := byte_cell (HD0.out.below HK.out.below) hfk
          cases e1
          rw [show bv d[f.toNat + k] = bv (d.getD (f.toNat + k) 0) by simp [hfk]] at c1
          have hcg : ((cp4 d f.toNat g.toNat k).map bv)[g.toNat + k]? = some (bv (cp4 d f.toNat g.toNat k)[g.toNat + k]!) := by simp [cp4_len, hgk]
          obtain ⟨g2, cap2, e2, c2⟩ := own_cell HK.out (g.toNat + k) _ hcg
          cases e2
          have z2 := (own_get HK.out).frozenAt (g.toNat + k)
          have HS := own_set HK.out (g.toNat + k) (bv (d.getD (f.toNat + k) 0)) (by omega)
          rw [← List.map_set, ← cp4_up] at HS
          have HS2 := Lib.hid HS
          generalize d.getD (f.toNat + k) 0 = x at *
          generalize (cp4 d f.toNat g.toNat k)[g.toNat + k]! = x2 at *
          clear HS hcg HK hfk hgk
          go_wp2
          go_roundw
          case rel => exact ⟨k + 1, by omega, by go_num, HS2⟩
          case measure => simp [intOf]; omega
        obtain rfl : k = 4 := by omega
        have HK2 : Hid (Hp w wr (OwnU8 (.slice (some ⟨gw, 0, none⟩) d.length cw) (cp4 d f.toNat g.toNat 4) :: _)) := Lib.hid (by have := HK.out; unfold OwnU8; rw [cp4_len]; exact this)
        have HK := Lib.hid (HK.out.up1)
        go_upto_region 20 with fail
        have BC := Lib.hid (bytes_of HK.out)
        go_wp2_with fail
        refine BC.out.mono ?_; rintro e wa ⟨v, rfl, HA'⟩
        obtain ⟨av, n, rfl⟩ := own_slice HA'
        have HA := Lib.hid HA'
        have HQ : CellsIn wa (some ⟨gw, 0, none⟩) (((cp4 d f.toNat g.toNat 4) : List UInt8).map bv) := CellsIn.own (HA'.pull 2 rfl)
        have hml : (cp4 d f.toNat g.toNat 4).length = d.length := cp4_len _ _ _ _
        have HV : CellsIn wa av ((cp4 d f.toNat g.toNat 4).map bv) := by rw [cp4_four]; exact CellsIn.own HA'
        have hms : (layB d g.toNat (w4 (ld4 d f.toNat))).length = d.length := layB_len _ _ _
        have SC := Lib.hid (same_bytes av (some ⟨gw, 0, none⟩) n cw (cp4 d f.toNat g.toNat 4) (cp4 d f.toNat g.toNat 4) _ HV HQ (by have := HL.out; omega) (by have := HL.out; omega))
        rw [hml] at SC
        rw [show (T2 (layB d g.toNat (w4 (ld4 d f.toNat))) (ld4 d f.toNat)).mem.length = d.length from hms]
        clear HQ HV hml hms HA'
        clear BC HK
        go_wp2_with fail
        refine SC.out.mono ?_; intro e wb hp
        obtain ⟨rfl, hb⟩ : e = .returned (.bool true) ∧ _ := ⟨by simpa using hp.1, hp.2⟩
        have HB := Lib.hid (HA.out.below_read hb)
        clear hb hp SC HA
        go_wp2_with fail
        refine (lives_c _).mono ?_; rintro e wc ⟨rfl, hb⟩
        have HZ := Lib.hid (HB.out.below_read hb)
        clear HB hb
        go_wp2
        go_ret
        exact ⟨rfl, HZ.out.below⟩
      · have SE := Lib.hid (fun W r (H : Hp w W (CR b (C2 f g) (T1 d (ld4 d f.toNat)) :: r)) => step_e (en2 (f := f) hg) (C2_ok f g) (by simp [C2]) (by simp [T1]) H)
        have n2 : ¬ (g.toNat : Int) + 4 ≤ (d.length : Int) := by omega
        have HG := Lib.hid hg
        clear hg
        go_wp2_with fail
        refine (SE.out _ _ (H3.out.alloc _)).mono ?_; rintro e w3 ⟨rfl, H4'⟩
        have H4 := Lib.hid H4'
        clear SE H3 H4'
        obtain ⟨ga, oa, rfl, _⟩ := byte_cell HD0.out (k := 0) (by have := HF.out; omega)
        go_upto_region 15 with fail
        have H5 := Lib.hid (H4.out.alloc (.cells #[bv ak0.what, wv ak0.h, wv ak0.v, wv ak0.m, .int .i64 ak0.wait] 37))
        generalize w3.alloc _ = W3 at *
        clear H4
        have HD := Lib.hid (HD0.out.below H5.out.below)
        have hda : ∀ j u, (d.map bv)[j]? = some u → W3.cell? ((⟨ga, oa, none⟩ : Addr).add j) = some u := fun j u hj => by
          obtain ⟨hlt, e⟩ := List.getElem?_eq_some_iff.1 hj
          obtain ⟨g', o', e', hcell⟩ := HD.out j hlt
          cases e'
          rw [Addr.add_lit, hcell, e]
        have HDA := Lib.hid hda
        clear hda
        go_wp2_with (at_builtin; refine wpList_append_hp rfl _ _ 22 rfl 5 i0 _ 1 1 Tryz.underlying22 hi hz0 hz1 hz2 rfl (by decide) (own_nil H5.out 5 1) rfl ⟨ga, oa, none⟩ d.length dc (d.map bv) rfl (by simp) HDA.out (by simp [bv, Value.oneCell']) (by have := HL.out; omega) (by omega) ?_; intro v' wq HA0)
        have HA1 := own_as HA0 (Nat.zero_add d.length) (List.nil_append (d.map bv))
        obtain ⟨gw, cw, rfl⟩ := Go.Joins.ownsRow_form (own_get HA1) (by have := HF.out; omega)
        have HK0 : Hid (Hp w wq (Own 5 1 (.slice (some ⟨gw, 0, none⟩) d.length cw) d.length ((cp4 d f.toNat g.toNat 0).map bv) :: CR b (C2 f g) (T1 d (ld4 d f.toNat)) :: _)) := Lib.hid HA1
        clear HA0 HA1 HDA HD H5
        go_wp2
        go_loopw [17] (fun s17 wr => ∃ k : Nat, k ≤ 0 ∧ s17 = .int .i64 (k : Int) ∧ Hid (Hp w wr (Own 5 1 (.slice (some ⟨gw, 0, none⟩) d.length cw) d.length ((cp4 d f.toNat g.toNat k).map bv) :: CR b (C2 f g) (T1 d (ld4 d f.toNat)) :: _))) (fun s17 _ => 4 - (intOf s17).toNat)
        case atStart => exact ⟨0, by omega, rfl, HK0⟩
        case round =>
        obtain ⟨k, hk, rfl, HK⟩ := hrel
        clear HK0
        obtain rfl : k = 0 := by omega
        have HK := Lib.hid (HK.out.up1)
        go_upto_region 20 with fail
        have BC := Lib.hid (bytes_of HK.out)
        go_wp2_with fail
        refine BC.out.mono ?_; rintro e wa ⟨v, rfl, HA'⟩
        obtain ⟨av, n, rfl⟩ := own_slice HA'
        have HA := Lib.hid HA'
        have HQ : CellsIn wa (some ⟨gw, 0, none⟩) ((d : List UInt8).map bv) := CellsIn.own (HA'.pull 2 rfl)
        have SC := Lib.hid (same_bytes av (some ⟨gw, 0, none⟩) n cw d d _ (CellsIn.own HA') HQ (by have := HL.out; omega) (by have := HL.out; omega))
        rw [show (T1 d (ld4 d f.toNat)).mem.length = d.length from rfl]
        clear HQ HA'
        clear BC HK
        go_wp2_with fail
        refine SC.out.mono ?_; intro e wb hp
        obtain ⟨rfl, hb⟩ : e = .returned (.bool true) ∧ _ := ⟨by simpa using hp.1, hp.2⟩
        have HB := Lib.hid (HA.out.below_read hb)
        clear hb hp SC HA
        go_wp2_with fail
        refine (lives_c _).mono ?_; rintro e wc ⟨rfl, hb⟩
        have HZ := Lib.hid (HB.out.below_read hb)
        clear HB hb
        go_wp2
        go_ret
        exact ⟨rfl, HZ.out.below⟩
    · have SE := Lib.hid (fun W r (H : Hp w W (CR b (C2 f g) (T0 d) :: r)) => step_e (en1 (g := g) hf) (C2_ok f g) (by simp [C2]) (by simp [T0]) H)
      have n1 : ¬ (f.toNat : Int) + 4 ≤ (d.length : Int) := by omega
      clear hf
      go_wp2_with fail
      refine (SE.out _ _ H2.out).mono ?_; rintro e w2 ⟨rfl, H3'⟩
      have H3 := Lib.hid H3'
      clear SE H2 H3'
      go_upto_region 11 with fail
      have H4 := Lib.hid (H3.out.alloc (.cells #[bv ak0.what, wv ak0.h, wv ak0.v, wv ak0.m, .int .i64 ak0.wait] 37))
      generalize w2.alloc _ = W2 at *
      clear H3
      have BC := Lib.hid (bytes_of H4.out)
      go_wp2_with fail
      refine BC.out.mono ?_; rintro e wa ⟨v, rfl, HA'⟩
      obtain ⟨av, n, rfl⟩ := own_slice HA'
      have HA := Lib.hid HA'
      have SC := Lib.hid (same_bytes av ad n dc d d _ (CellsIn.own HA') (HD0.out.below HA'.below) (by have := HL.out; omega) (by have := HL.out; omega))
      clear HA' BC H4
      rw [show (T0 d).mem.length = d.length from rfl]
      go_wp2_with fail
      refine SC.out.mono ?_; intro e wb hp
      obtain ⟨rfl, hb⟩ : e = .returned (.bool true) ∧ _ := ⟨by simpa using hp.1, hp.2⟩
      have HB := Lib.hid (HA.out.below_read hb)
      clear hb hp SC HA
      go_wp2_with fail
      refine (lives_c _).mono ?_; rintro e wc ⟨rfl, hb⟩
      have HZ := Lib.hid (HB.out.below_read hb)
      clear HB hb
      go_wp2
      go_ret
      exact ⟨rfl, HZ.out.below⟩
end Go.Proofs.YtijkkompnfpdeaaGreatDoor
