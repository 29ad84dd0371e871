/- Copies of images in memory of their own, with marks behind, and whether they are still: walked. -/
import Derived.Test.YtcfoljdpffonhaaGreatDoorNa
import Derived.Test.YtcfoljdpffonhaaGreatDoorLg
import Derived.Test.YtcfoljdpffonhaaGreatDoorPq
import Derived.Deep.RegionHeld3
set_option linter.unusedVariables false
set_option linter.unusedSimpArgs false
namespace Go.Proofs.YtcfoljdpffonhaaGreatDoor
open Go.RowKit Go.Joins Go.Shelf
attribute [local go_sem] Oper.semAt_some

abbrev m254 : List Value := [.int .u8 254, .int .u8 0, .int .u8 0, .int .u8 0]
abbrev OwnTN (g cap : Nat) (xs : List I4) : Thing := Own 61 4 (.slice (some ⟨g, 0, none⟩) (xs.length + 1) cap) (xs.length + 1) (ics xs ++ m254)
theorem ownTN_cut {w0 w : World} {r : List Thing} {g cap : Nat} {xs : List I4} (H : Hp w0 w (OwnTN g cap xs :: r)) : Hp w0 w (OwnN (.slice (some ⟨g, 0, none⟩) xs.length cap) xs :: r) := by
  have := own_cut xs.length (Nat.le_succ _) H
  rw [List.take_append_of_le_length (by rw [ics_len]; exact Nat.le_refl _), List.take_of_length_le (by rw [ics_len]; exact Nat.le_refl _)] at this
  exact this
set_option maxHeartbeats 4000000 in
set_option maxRecDepth 20000 in
theorem twin_instrs (a : Option Addr) (c : Nat) (xs : List I4) (w : World) (hx : CellsIn w a (ics xs)) (hl : xs.length < 900000) :
    Calls Tryz.prog 27 #[.slice a xs.length c] w fun e w' => ∃ g cap, e = .returned (.slice (some ⟨g, 0, none⟩) xs.length cap) ∧ Hp w w' [OwnTN g cap xs] := by
  have H0 := Lib.hid (Hp.start w)
  have HX := Lib.hid hx
  have HL := Lib.hid hl
  obtain ⟨i0, hi, hz0, hz1, hz2⟩ := info_parts info_ins
  have hw1 : IntKind.i64.wrap ((xs.length : Int) + 1) = (xs.length : Int) + 1 := by rw [IntKind.wrap_i64]; omega
  clear hx
  go_enter Tryz.func27, Tryz.ntmps27
  go_wp2_with (refine wpList_make_hp rfl _ (.tmp 7) 23 rfl 61 i0 _ 4 4 Tryz.underlying23 hi hz0 hz1 hz2 H0.out .i64 .i64 _ (xs.length + 1) rfl rfl (by omega) (by omega) (by omega) ?_; intro w1 H1'; have H1 := Lib.hid H1'; clear H1' H0)
  clear hw1 hl
  go_loopw [3, 4] (fun s3 s4 wr => ∃ k : Nat, k ≤ xs.length ∧ s4 = .int .i64 k ∧ Hid (Hp w wr [Own 61 4 s3 k (ics (xs.take k))])) (fun _ s4 _ => xs.length - (intOf s4).toNat)
  case atStart => exact ⟨0, Nat.zero_le _, rfl, H1⟩
  case round =>
    obtain ⟨k, hk, rfl, hH⟩ := hrel
    clear H1
    obtain ⟨a3, c3, rfl⟩ := own_slice hH.out
    by_cases hlt : k < xs.length
    · obtain ⟨g, o, rfl, c0, c1, c2, c3⟩ := ins_cells (HX.out.hp hH.out) hlt
      have hkw : IntKind.i64.wrap ((k : Int) + 1) = (k : Int) + 1 := by rw [IntKind.wrap_i64]; have := HL.out; omega
      have hst := Lib.hid (show (ics (xs.take k) ++ i4c xs[k] : List Value) = ics (xs.take (k + 1)) by rw [List.take_succ_eq_append_getElem hlt, BkI.ics_app]; congr 1)
      have HLT := Lib.hid hlt
      generalize xs[k] = x at *
      obtain ⟨yo, ya, yb, yc⟩ := x
      simp only at c0 c1 c2 c3
      go_wp2_with (at_builtin; refine wpList_append_hp rfl (.tmp 15) (.tmp 20) 23 rfl 61 i0 _ 4 4 Tryz.underlying23 hi hz0 hz1 hz2 rfl (by decide) (hH.out.alloc _) rfl ⟨wr.heap.size, 0, none⟩ 1 1 (i4c (yo, ya, yb, yc)) rfl rfl (blk_newsU (l := i4c (yo, ya, yb, yc)) (blk_alloc_new wr _)) (by simp [Value.oneCell', bv, i4c]) (by have := HLT.out; have := HL.out; omega) (by omega) ?_; intro v' w2 HA0)
      have HA : Hid (Hp w w2 [Own 61 4 v' (k + 1) (ics (xs.take (k + 1)))]) := Lib.hid (by rw [← hst.out]; exact HA0)
      obtain ⟨a4, c4, rfl⟩ := own_slice HA0
      clear HA0 hH c0 c1 c2 c3
      go_wp2
      go_roundw
      case rel => exact ⟨k + 1, by have := HLT.out; omega, by go_num, HA⟩
      case measure => have := HLT.out; simp [intOf]; omega
    · obtain rfl : k = xs.length := by omega
      have hH2 : Hid (Hp w wr [Own 61 4 (.slice a3 xs.length c3) xs.length (ics xs)]) := Lib.hid (by have := hH.out; rwa [List.take_length] at this)
      clear hH
      go_wp2_with (at_builtin; refine wpList_append_hp rfl (.tmp 22) (.tmp 24) 23 rfl 61 i0 _ 4 4 Tryz.underlying23 hi hz0 hz1 hz2 rfl (by decide) (hH2.out.alloc _) rfl ⟨wr.heap.size, 0, none⟩ 1 1 m254 rfl rfl (blk_newsU (l := m254) (blk_alloc_new wr _)) (by simp [Value.oneCell', m254]) (by have := HL.out; omega) (by omega) ?_; intro v' w2 HA0; obtain ⟨g, cap, rfl⟩ := Go.Joins.ownsRow_form (own_get HA0) (by omega); have hcap := own_capn HA0; have hc2 : (xs.length : Int) ≤ (cap : Int) := by omega)
      have HA := Lib.hid HA0
      clear HA0 hH2
      go_wp2
      go_ret
      exact ⟨g, cap, rfl, HA.out⟩
set_option maxHeartbeats 4000000 in
set_option maxRecDepth 20000 in
theorem left_bytes (w : World) (g cap : Nat) (a : Option Addr) (c : Nat) (xs : List UInt8) (ht : CellsIn w (some ⟨g, 0, none⟩) (xs.map bv ++ [.int .u8 77])) (hcap : xs.length < cap) (ha : CellsIn w a (xs.map bv)) (hl : xs.length < 900000) :
    Calls Tryz.prog 22 #[.slice (some ⟨g, 0, none⟩) xs.length cap, .slice a xs.length c] w fun e w' => e = .returned (.bool true) ∧ Below w.heap.size w w' := by
  have H0 := Lib.hid (Hp.start w)
  have HT := Lib.hid ht
  have HA := Lib.hid ha
  have HL := Lib.hid hl
  have d1 : decide ((cap : Int) ≤ (xs.length : Int)) = false := by simp; omega
  have hc2 : (xs.length : Int) + 1 ≤ (cap : Int) := by omega
  have hw1 : IntKind.i64.wrap ((xs.length : Int) + 1) = (xs.length : Int) + 1 := by rw [IntKind.wrap_i64]; omega
  clear ht ha hcap hl
  go_enter Tryz.func22, Tryz.ntmps22
  go_wp2
  go_loopw [5] (fun s5 wr => ∃ k : Nat, k ≤ xs.length ∧ s5 = .int .i64 k ∧ Hid (Hp w wr [])) (fun s5 _ => xs.length - (intOf s5).toNat)
  case atStart => exact ⟨0, Nat.zero_le _, rfl, H0⟩
  case round =>
    obtain ⟨k, hk, rfl, hH⟩ := hrel
    clear H0
    by_cases hlt : k < xs.length
    · obtain ⟨g1, o1, rfl, c0⟩ := byte_cell (HA.out.hp hH.out) hlt
      obtain ⟨g2, o2, e2, c1⟩ := (HT.out.hp hH.out) k (by simp; omega)
      cases e2
      rw [List.getElem_append_left (by simpa using hlt), List.getElem_map, Nat.zero_add] at c1
      have hkw : IntKind.i64.wrap ((k : Int) + 1) = (k : Int) + 1 := by rw [IntKind.wrap_i64]; have := HL.out; omega
      have j1 : (k : Int) < (xs.length : Int) := by omega
      have HLT := Lib.hid hlt
      generalize xs[k] = x at *
      go_upto_region 6 with fail
      go_quiet (fail)
      go_wp2
      go_roundw
      case rel => exact ⟨k + 1, by have := HLT.out; omega, by go_num, Lib.hid (hH.out.drewN _)⟩
      case measure => have := HLT.out; simp [intOf]; omega
    · obtain rfl : k = xs.length := by omega
      obtain ⟨g2, o2, e2, c1⟩ := (HT.out.hp hH.out) xs.length (by simp)
      cases e2
      rw [List.getElem_append_right (by simp), Nat.zero_add] at c1
      simp only [List.length_map, Nat.sub_self, List.getElem_cons_zero] at c1
      have j1 : ¬ (xs.length : Int) < (xs.length : Int) := by omega
      clear hk hlt
      go_wp2
      go_ret
      exact ⟨rfl, hH.out.below⟩
set_option maxHeartbeats 4000000 in
set_option maxRecDepth 20000 in
theorem left_instrs (w : World) (g cap : Nat) (a : Option Addr) (c : Nat) (xs : List I4) (ht : CellsIn w (some ⟨g, 0, none⟩) (ics xs ++ m254)) (hcap : xs.length < cap) (ha : CellsIn w a (ics xs)) (hl : xs.length < 900000) :
    Calls Tryz.prog 35 #[.slice (some ⟨g, 0, none⟩) xs.length cap, .slice a xs.length c] w fun e w' => e = .returned (.bool true) ∧ Below w.heap.size w w' := by
  have H0 := Lib.hid (Hp.start w)
  have HT := Lib.hid ht
  have HA := Lib.hid ha
  have HL := Lib.hid hl
  have d1 : decide ((cap : Int) ≤ (xs.length : Int)) = false := by simp; omega
  have hc2 : (xs.length : Int) + 1 ≤ (cap : Int) := by omega
  have hw1 : IntKind.i64.wrap ((xs.length : Int) + 1) = (xs.length : Int) + 1 := by rw [IntKind.wrap_i64]; omega
  clear ht ha hcap hl
  go_enter Tryz.func35, Tryz.ntmps35
  go_wp2
  go_loopw [5] (fun s5 wr => ∃ k : Nat, k ≤ xs.length ∧ s5 = .int .i64 k ∧ Hid (Hp w wr [])) (fun s5 _ => xs.length - (intOf s5).toNat)
  case atStart => exact ⟨0, Nat.zero_le _, rfl, H0⟩
  case round =>
    obtain ⟨k, hk, rfl, hH⟩ := hrel
    clear H0
    have hil := ics_len xs
    by_cases hlt : k < xs.length
    · obtain ⟨g1, o1, rfl, c0, c1, c2, c3⟩ := ins_cells (HA.out.hp hH.out) hlt
      have hTX : CellsIn w (some ⟨g, 0, none⟩) (ics xs) := fun j hj => by
        obtain ⟨g2, o2, e2, h2⟩ := HT.out j (by rw [List.length_append]; omega)
        rw [List.getElem_append_left hj] at h2
        exact ⟨g2, o2, e2, h2⟩
      obtain ⟨g2, o2, e2, y0, y1, y2, y3⟩ := ins_cells (hTX.hp hH.out) hlt
      cases e2
      simp only [Nat.zero_add] at y0 y1 y2 y3
      have hkw : IntKind.i64.wrap ((k : Int) + 1) = (k : Int) + 1 := by rw [IntKind.wrap_i64]; have := HL.out; omega
      have j1 : (k : Int) < (xs.length : Int) := by omega
      have HLT := Lib.hid hlt
      clear hil hTX
      generalize xs[k] = x at *
      go_upto_region 6 with fail
      go_quiet (fail)
      go_wp2
      go_roundw
      case rel => exact ⟨k + 1, by have := HLT.out; omega, by go_num, Lib.hid (hH.out.drewN _)⟩
      case measure => have := HLT.out; simp [intOf]; omega
    · obtain rfl : k = xs.length := by omega
      have key : ∀ o (ho : o < 4), wr.cell? ⟨g, xs.length * 4 + o, none⟩ = m254[o]? := fun o ho => by
        obtain ⟨g2, o2, e2, h2⟩ := (HT.out.hp hH.out) (xs.length * 4 + o) (by rw [List.length_append, hil]; simp; omega)
        cases e2
        rw [List.getElem_append_right (by omega), Nat.zero_add] at h2
        rw [h2]
        have : xs.length * 4 + o - (ics xs).length = o := by omega
        rw [List.getElem?_eq_getElem (by simpa using ho)]
        congr 1
        simp only [this]
      have c0 : wr.cell? ⟨g, xs.length * 4, none⟩ = some (.int .u8 254) := key 0 (by omega)
      have c1 : wr.cell? ⟨g, xs.length * 4 + 1, none⟩ = some (.int .u8 0) := key 1 (by omega)
      have c2 : wr.cell? ⟨g, xs.length * 4 + 2, none⟩ = some (.int .u8 0) := key 2 (by omega)
      have c3 : wr.cell? ⟨g, xs.length * 4 + 3, none⟩ = some (.int .u8 0) := key 3 (by omega)
      have j1 : ¬ (xs.length : Int) < (xs.length : Int) := by omega
      have HB := Lib.hid (hH.out.alloc (.cells #[.int .u8 254, .int .u8 0, .int .u8 0, .int .u8 0] 61))
      clear hk hlt key hil
      go_wp2
      go_ret
      exact ⟨rfl, HB.out.below⟩
set_option maxHeartbeats 4000000 in
set_option maxRecDepth 20000 in
theorem twin_image (n : Int) (ad ac : Option Addr) (dc cc : Nat) (d : List UInt8) (c : List I4) (w : World) (hd : CellsIn w ad (d.map bv)) (hc : CellsIn w ac (ics c)) (hdl : d.length < 900000) (hcl : c.length < 900000) :
    Calls Tryz.prog 8 #[imV n ad d.length dc ac c.length cc] w fun e w' => ∃ g p g' p', e = .returned (imV n (some ⟨g, 0, none⟩) d.length p (some ⟨g', 0, none⟩) c.length p') ∧ Hp w w' [OwnTN g' p' c, OwnT g p d] := by
  have HD := Lib.hid hd
  have HC := Lib.hid hc
  have HL := Lib.hid (And.intro hdl hcl)
  have HK := Lib.hid ((blk_new_at (blk_new (Hp.start w) (.cells #[.int .i64 n, .slice ad d.length dc, .slice ac c.length cc] 25)) (.cells zI 25) (w.heap.size + 1) (size_alloc1 _ _)))
  clear hd hc hdl hcl
  go_enter Tryz.func8, Tryz.ntmps8
  go_upto_region 1 with fail
  obtain ⟨x0, x1, x2⟩ := im_cells (HK.out.pull 1 rfl)
  generalize ((w.alloc (.cells #[.int .i64 n, .slice ad d.length dc, .slice ac c.length cc] 25)).alloc (.cells zI 25)) = w1 at *
  generalize w.heap.size = xb at *
  have z0 : w1.cell? ⟨xb + 1, 0, none⟩ = some (.int .i64 0) := cell_blk (blk_get HK.out) 0
  have z1 : w1.cell? ⟨xb + 1, 1, none⟩ = some (.slice none 0 0) := cell_blk (blk_get HK.out) 1
  have z2 : w1.cell? ⟨xb + 1, 2, none⟩ = some (.slice none 0 0) := cell_blk (blk_get HK.out) 2
  have e0 := free_blk (blk_get HK.out) 0
  have e1 := free_blk (blk_get HK.out) 1
  have e2 := free_blk (blk_get HK.out) 2
  go_region_held3 (fun x => x.cell? ⟨xb, 0, none⟩ = some (.int .i64 n) ∧ x.cell? ⟨xb, 1, none⟩ = some (.slice ad d.length dc) ∧ x.cell? ⟨xb, 2, none⟩ = some (.slice ac c.length cc)) (first | exact ⟨x0, x1, x2⟩ | exact im_cells ((set3 (HK.out.pull 2 rfl) _ _ _).pull 3 rfl)) (first | (go_at_call 18; refine (twin_bytes ad dc d _ (HD.out.hp (by first | exact HK.out | exact HK.out.drew)) HL.out.1).mono ?_; rintro e wz ⟨g, p, rfl, K⟩; have HK := Lib.hid ((by first | exact HK.out.lift K | exact HK.out.drew.lift K : Hp w wz [OwnT g p d, Blk (xb + 1) (.cells zI 25 (0, 0)), IM xb n (.slice ad d.length dc) (.slice ac c.length cc)])); clear K; obtain ⟨x0, x1, x2⟩ := im_cells (HK.out.pull 2 rfl)) | (go_at_call 27; refine (twin_instrs ac cc c _ (HC.out.hp (by first | exact HK.out | exact HK.out.drew)) HL.out.2).mono ?_; rintro e wz ⟨g', p', rfl, K⟩; have HK := Lib.hid ((by first | exact HK.out.lift K | exact HK.out.drew.lift K : Hp w wz [OwnTN g' p' c, OwnT g p d, Blk (xb + 1) (.cells zI 25 (0, 0)), IM xb n (.slice ad d.length dc) (.slice ac c.length cc)])); clear K; obtain ⟨x0, x1, x2⟩ := im_cells (HK.out.pull 3 rfl); have z0 : wz.cell? ⟨xb + 1, 0, none⟩ = some (.int .i64 0) := cell_blk (blk_get (HK.out.pull 2 rfl)) 0; have z1 : wz.cell? ⟨xb + 1, 1, none⟩ = some (.slice none 0 0) := cell_blk (blk_get (HK.out.pull 2 rfl)) 1; have z2 : wz.cell? ⟨xb + 1, 2, none⟩ = some (.slice none 0 0) := cell_blk (blk_get (HK.out.pull 2 rfl)) 2; have e0 := free_blk (blk_get (HK.out.pull 2 rfl)) 0; have e1 := free_blk (blk_get (HK.out.pull 2 rfl)) 1; have e2 := free_blk (blk_get (HK.out.pull 2 rfl)) 2))
  all_goals
    have HF := Lib.hid (set3 (HK.out.pull 2 rfl) (.int .i64 n) (.slice (some ⟨g, 0, none⟩) d.length p) (.slice (some ⟨g', 0, none⟩) c.length p'))
    go_wp2
    exact bodyPost_ret (results_cell_row rfl _ _ (xb + 1) _ _ _ _ rfl (blk_get HF.out) Tryz.underlying25 rfl im_info) rfl ⟨g, p, g', p', rfl, Hp.take HF.out.tail 2⟩
set_option maxHeartbeats 4000000 in
set_option maxRecDepth 20000 in
theorem left_image (n : Int) (ad ac : Option Addr) (dc cc g p g' p' : Nat) (d : List UInt8) (c : List I4) (w : World) (hd : CellsIn w ad (d.map bv)) (hc : CellsIn w ac (ics c)) (ht : CellsIn w (some ⟨g, 0, none⟩) (d.map bv ++ [.int .u8 77])) (hp : d.length < p) (ht' : CellsIn w (some ⟨g', 0, none⟩) (ics c ++ m254)) (hp' : c.length < p') (hdl : d.length < 900000) (hcl : c.length < 900000) :
    Calls Tryz.prog 14 #[imV n (some ⟨g, 0, none⟩) d.length p (some ⟨g', 0, none⟩) c.length p', imV n ad d.length dc ac c.length cc] w fun e w' => e = .returned (.bool true) ∧ Below w.heap.size w w' := by
  have H1 := Lib.hid (blk_new_at (blk_new (Hp.start w) (.cells #[.int .i64 n, .slice (some ⟨g, 0, none⟩) d.length p, .slice (some ⟨g', 0, none⟩) c.length p'] 25)) (.cells #[.int .i64 n, .slice ad d.length dc, .slice ac c.length cc] 25) (w.heap.size + 1) (size_alloc1 _ _))
  have C1 : Hid (∀ W, Hp w W [] → Calls Tryz.prog 22 #[.slice (some ⟨g, 0, none⟩) d.length p, .slice ad d.length dc] W fun e' w' => e' = .returned (.bool true) ∧ Below W.heap.size W w') := Lib.hid (fun W h => left_bytes W g p ad dc d (ht.hp h) hp (hd.hp h) hdl)
  have C2 : Hid (∀ W, Hp w W [] → Calls Tryz.prog 35 #[.slice (some ⟨g', 0, none⟩) c.length p', .slice ac c.length cc] W fun e' w' => e' = .returned (.bool true) ∧ Below W.heap.size W w') := Lib.hid (fun W h => left_instrs W g' p' ac cc c (ht'.hp h) hp' (hc.hp h) hcl)
  clear hd hc ht ht' hp hp' hdl hcl
  go_enter Tryz.func14, Tryz.ntmps14
  go_upto_region 1 with fail
  obtain ⟨x0, x1, x2⟩ := im_cells (H1.out.pull 1 rfl)
  obtain ⟨y0, y1, y2⟩ := im_cells H1.out
  generalize ((w.alloc (.cells #[.int .i64 n, .slice (some ⟨g, 0, none⟩) d.length p, .slice (some ⟨g', 0, none⟩) c.length p'] 25)).alloc (.cells #[.int .i64 n, .slice ad d.length dc, .slice ac c.length cc] 25)) = w1 at *
  go_wp2_with fail
  refine (C1.out _ ⟨H1.out.below, trivial⟩).mono ?_; rintro e' w2 ⟨rfl, hb⟩
  have H2 := Lib.hid (H1.out.below_read hb)
  clear hb C1 H1 x0 x1 x2 y0 y1 y2
  obtain ⟨x0, x1, x2⟩ := im_cells (H2.out.pull 1 rfl)
  obtain ⟨y0, y1, y2⟩ := im_cells H2.out
  go_wp2_with fail
  refine (C2.out _ ⟨H2.out.below, trivial⟩).mono ?_; rintro e' w3 ⟨rfl, hb⟩
  have H3 := Lib.hid (H2.out.below_read hb)
  clear hb C2 H2 x0 x1 x2 y0 y1 y2
  go_wp2
  go_ret
  exact ⟨rfl, H3.out.below⟩
/-- The book is told an image. -/
theorem perm_two {b p q x : Thing} {r : List Thing} : (b :: p :: q :: x :: r).Perm (b :: q :: p :: x :: r) := List.Perm.cons b (List.Perm.swap q p _)
set_option maxHeartbeats 4000000 in
set_option maxRecDepth 20000 in
theorem kimage_c {w0 w : World} {r : List Thing} {kb : Nat} {n : Int} {vb vi : Value} {xs ys : List Hr} (m : Int) (ad ac : Option Addr) (dl dc cl cc : Nat) (H : Hp w0 w (BkB.Bkt vi kb n vb :: BkB.Rows_ vb xs :: BkI.Rows_ vi ys :: r)) (hn : 0 ≤ n ∧ n < 1000) (hx : xs.length < 1000) (hy : ys.length < 1000) :
    Calls Tryz.prog 15 #[.pointer (some ⟨kb, 0, none⟩), imV m ad dl dc ac cl cc] w fun e w' => e = .returned (.tuple #[]) ∧ ∃ vb' vi', Hp w0 w' (BkB.Bkt vi' kb (n + 1 + 1) vb' :: BkB.Rows_ vb' (xs ++ [⟨⟨.slice ad dl dc, dl, n + 1⟩, .slice none 0 0⟩]) :: BkI.Rows_ vi' (ys ++ [⟨⟨.slice ac cl cc, cl, n + 1 + 1⟩, .slice none 0 0⟩]) :: r) := by
  have H1 := Lib.hid ((blk_new H (.cells #[.int .i64 m, .slice ad dl dc, .slice ac cl cc] 25)).up1.pull 0 rfl)
  have H2 := Lib.hid (Hp.perm H1.out (List.Perm.cons _ ((List.Perm.swap _ _ _).trans (List.Perm.cons _ (List.Perm.swap _ _ _)))))
  obtain ⟨x0, x1, x2⟩ := im_cells (H2.out.pull 3 rfl)
  have KB := Lib.hid (BkB.ints_c ad dl dc H2.out (by omega) (by omega))
  clear H H1
  go_enter Tryz.func15, Tryz.ntmps15
  go_wp2_with fail
  refine KB.out.mono ?_; rintro e w2 ⟨rfl, vb', K⟩
  have H3 := Lib.hid K
  clear KB K H2 x0 x1 x2
  obtain ⟨x0, x1, x2⟩ := im_cells (H3.out.pull 3 rfl)
  have H4 := Lib.hid (Hp.perm H3.out (perm_two))
  have KI := Lib.hid (BkI.ints_c (vo := vb') ac cl cc H4.out (by omega) (by omega))
  go_wp2_with fail
  refine KI.out.mono ?_; rintro e w3 ⟨rfl, vi', K⟩
  clear KI H3 H4 x0 x1 x2
  have H5 := Lib.hid (Hp.perm K perm_two)
  clear K
  go_wp2
  exact bodyPost_end (results_none rfl _ _ _) rfl ⟨rfl, vb', vi', (H5.out.pull 3 rfl).tail⟩
end Go.Proofs.YtcfoljdpffonhaaGreatDoor
