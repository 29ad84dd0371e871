/- Images: ImagesParts, walked. -/
import Derived.Test.YtcfoljdpffonhaaDoorLq
import Derived.Test.YtcfoljdpffonhaaDoorLx
set_option linter.unusedVariables false
set_option linter.unusedSimpArgs false
namespace Go.Proofs.YtcfoljdpffonhaaDoor
open Go.RowKit Go.Joins Go.Shelf
attribute [local go_sem] Oper.semAt_some

/-- Where a part begins. -/
def subA (g l c : Nat) : Option Addr := if c = l then some ⟨g, 0, none⟩ else some ⟨g, l, none⟩
theorem run_part {t : TypeId} {P : Program} (hu : P.underlying t = some (.slice (P.elem t))) (hs : (P.info? (P.elem t)).map (·.size) = some 1) (W : World) (g L c l n : Nat) (lI hI : Int) (e1 : lI = (l : Int)) (e2 : hI = ((l + n : Nat) : Int)) (hh : l + n ≤ c) :
    (Instr.slice t (.slice (some ⟨g, 0, none⟩) L c) (some (.int .i64 lI)) (some (.int .i64 hI)) none).run P W = .ok (.slice (subA g l c) n (c - l)) W := by
  subst e1; subst e2
  rw [run_slice_lh (P := P) W t (some ⟨g, 0, none⟩) L c hu .i64 .i64 _ _ (by omega) (by omega) (by omega)]
  cases hq : P.info? (P.elem t) with
  | none => rw [hq] at hs; cases hs
  | some i =>
    have hi : i.size = 1 := by simpa [hq] using hs
    simp [sizeOf, typeInfo, hq, hi, sliced, Result.andThen, subA]
    constructor
    · split
      · rfl
      · rw [Addr.add_lit]; simp
    · omega
theorem part_u8 (W : World) (g L c l n : Nat) (lI hI : Int) (e1 : lI = (l : Int)) (e2 : hI = ((l + n : Nat) : Int)) (hh : l + n ≤ c) :
    (Instr.slice 22 (.slice (some ⟨g, 0, none⟩) L c) (some (.int .i64 lI)) (some (.int .i64 hI)) none).run Tryd.prog W = .ok (.slice (subA g l c) n (c - l)) W :=
  run_part (P := Tryd.prog) (t := 22) (by kernel_rfl) (by kernel_rfl) W g L c l n lI hI e1 e2 hh
theorem cells_part {w : World} {g c : Nat} {cs : List Value} (H : CellsIn w (some ⟨g, 0, none⟩) cs) (hc : cs.length ≤ c) (l n : Nat) : CellsIn w (subA g l c) ((cs.drop l).take n) := by
  unfold subA
  split
  · have : (cs.drop l).take n = [] := by rw [List.drop_of_length_le (by omega)]; simp
    rw [this]; exact CellsIn.nil _ _
  · have := H.part l n
    rwa [Nat.zero_add] at this
theorem own_cap {w0 w : World} {r : List Thing} {e : TypeId} {size n c : Nat} {a : Option Addr} {cs : List Value} (H : Hp w0 w (Own e size (.slice a n c) n cs :: r)) : n ≤ c := by
  rcases (own_get H).2 with ⟨h1, h2⟩ | ⟨_, _, _, hq, _, _, hq2, _⟩
  · injection h1 with _ h4 h3; omega
  · injection hq with _ _ h3; omega
-- PARTS
set_option maxHeartbeats 16000000 in
set_option maxRecDepth 20000 in
theorem parts_c (w : World) (L : Lf w) (n : Int) (ad ac : Option Addr) (dc cc : Nat) (d : List UInt8) (c : List I4) (hd : CellsIn w ad (d.map bv)) (hc : CellsIn w ac (ics c)) :
    Calls Tryd.prog 7 #[imV n ad d.length dc ac c.length cc] w fun e w' => e = .returned (.bool true) ∧ Below w.heap.size w w' := by
  have H0 := Lib.hid (blk_new (Hp.start w) (.cells #[.int .i64 n, .slice ad d.length dc, .slice ac c.length cc] 25))
  have HD := Lib.hid hd
  have HC := Lib.hid hc
  clear hd hc
  have AC := Lib.hid (fun (w' : World) (r : List Thing) (H : Hp w w' r) => alive_c L H)
  have AB := Lib.hid (alive_c L H0.out)
  go_enter Tryd.func7, Tryd.ntmps7
  go_wp2_with fail
  refine AB.out.mono ?_; rintro e1 w1 ⟨rfl, H1'⟩
  have H1 := Lib.hid H1'
  clear AB H1' H0
  generalize w.heap.size = xb at *
  obtain ⟨x0, x1, x2⟩ := im_cells H1.out
  have G1 := Lib.hid (great_c n ad ac dc cc d c w1)
  cases hg1 : grt d c with
  | true =>
    rw [hg1] at G1
    clear hg1
    go_wp2_with fail
    refine G1.out.mono ?_; rintro e2 w2 ⟨rfl, hb⟩
    have H2 := Lib.hid (H1.out.below_read hb)
    clear hb G1 H1 x0 x1 x2
    go_wp2_with fail
    refine (AC.out w2 _ H2.out).mono ?_; rintro e3 w3 ⟨rfl, H3⟩
    have H4 := Lib.hid H3
    clear H3
    go_wp2
    go_ret
    exact ⟨rfl, H4.out.below⟩
  | false =>
    rw [hg1] at G1
    clear hg1
    go_wp2_with fail
    refine G1.out.mono ?_; rintro e2 w2 ⟨rfl, hb⟩
    have H2 := Lib.hid (H1.out.below_read hb)
    clear hb G1 H1 x0 x1 x2
    obtain ⟨x0, x1, x2⟩ := im_cells H2.out
    have G := Lib.hid (imcheck_c n ad ac dc cc d c w2 (HC.out.hp H2.out))
    cases hg3 : imck n d c with
    | false =>
      rw [hg3] at G
      clear hg3
      go_wp2_with fail
      refine G.out.mono ?_; rintro e2 w3 ⟨rfl, hb⟩
      have H3 := Lib.hid (H2.out.below_read hb)
      clear hb G H2 x0 x1 x2
      go_wp2_with fail
      refine (AC.out _ _ H3.out).mono ?_; rintro e3 wz ⟨rfl, H4⟩
      have HZ := Lib.hid H4
      clear H4
      go_wp2
      go_ret
      exact ⟨rfl, HZ.out.below⟩
    | true =>
      rw [hg3] at G
      have HK := Lib.hid hg3
      clear hg3
      obtain ⟨N, rfl⟩ := Int.eq_ofNat_of_zero_le (imck_bounds HK.out).1
      go_wp2_with fail
      refine G.out.mono ?_; rintro e2 w3 ⟨rfl, hb⟩
      have H3 := Lib.hid (H2.out.below_read hb)
      clear hb G H2 x0 x1 x2
      obtain ⟨x0, x1, x2⟩ := im_cells H3.out
      have hbd := imck_bounds HK.out
      have HB : Hid (N ≤ 4096 ∧ d.length ≤ 4096 ∧ c.length ≤ 1024) := Lib.hid ⟨by omega, by omega, hbd.2.2.2.1⟩
      clear hbd
      have P := Lib.hid (imput_c N ad ac dc cc d c w3 (HD.out.hp H3.out) (HC.out.hp H3.out) HK.out)
      have HLE := Lib.hid (imput_le N d c)
      have HDAT := Lib.hid (imput_data N d c)
      have HCOD : Hid (∀ k (h : k < c.length), ((imput N d c).drop (9 + d.length + k * 4)).take 4 = i4b c[k]) := Lib.hid (fun k h => imput_code h)
      have HNUM := Lib.hid (num_at N d c ⟨by have := HB.out; omega, by have := HB.out; omega, by have := HB.out; omega⟩)
      have HPRE : Hid ((imput N d c).take 3 = [116, 107, 49]) := Lib.hid (by rw [imput_cons]; rfl)
      obtain ⟨bb, hbb⟩ : ∃ x, x = imput N d c := ⟨_, rfl⟩
      rw [← hbb] at P HLE HDAT HCOD HNUM HPRE
      clear hbb
      go_wp2_with fail
      refine P.out.mono ?_; rintro e4 w4 ⟨v4, rfl, K⟩
      have H4 := Lib.hid (H3.out.lift K)
      obtain ⟨g, cp, rfl⟩ := Go.Joins.ownsRow_form (own_get K) (by have := HLE.out.2; omega)
      have HCP := Lib.hid (own_cap K)
      clear P K H3 x0 x1 x2
      obtain ⟨x0, x1, x2⟩ := im_cells (H4.out.pull 1 rfl)
      have le1 : bb.length ≤ 9 + d.length + 4 * c.length := HLE.out.1
      have le2 : 9 + d.length + 4 * c.length ≤ bb.length := HLE.out.2
      have b1 : d.length ≤ 4096 := HB.out.2.1
      have b2 : c.length ≤ 1024 := HB.out.2.2
      have cp1 : bb.length ≤ cp := HCP.out
      have k3 : (convert 22 9 (.slice (some ⟨g, 0, none⟩) 3 cp)).run Tryd.prog w4 = .ok (strv [116, 107, 49]) w4 := conv_in w4 (some ⟨g, 0, none⟩) cp [116, 107, 49] (by have := (CellsIn.own H4.out).part 0 3; rw [← HPRE.out, List.map_take]; simpa using this)
      go_wp2
      clear x0 x1 x2 k3
      have H5 := Lib.hid (blk_new H4.out (.cells #[.int .i64 N, .int .i64 d.length, .int .i64 c.length] 3))
      clear H4
      generalize (w4.alloc (.cells #[.int .i64 N, .int .i64 d.length, .int .i64 c.length] 3)) = w5 at *
      generalize w4.heap.size = gi at *
      go_loopw [6] (fun s6 wr => ∃ k : Nat, k ≤ 3 ∧ s6 = .int .i64 k ∧ Hid (Hp w wr [Blk gi (.cells #[.int .i64 N, .int .i64 d.length, .int .i64 c.length] 3 (0, 0)), OwnU (.slice (some ⟨g, 0, none⟩) bb.length cp) bb, IM xb (N : Int) (.slice ad d.length dc) (.slice ac c.length cc)])) (fun s6 _ => 3 - (intOf s6).toNat)
      case atStart => exact ⟨0, by omega, rfl, H5⟩
      case round =>
        obtain ⟨k, hk, rfl, hH⟩ := hrel
        clear H5
        by_cases hlt : k < 3
        · obtain ⟨x, y, hx, hy, hxy⟩ := HNUM.out k hlt
          obtain ⟨g', cap', e1, c1⟩ := own_cell (hH.out.pull 1 rfl) (3 + 2 * k) (bv x) (by rw [List.getElem?_map, hx]; rfl)
          cases e1
          obtain ⟨g', cap', e1, c2⟩ := own_cell (hH.out.pull 1 rfl) (4 + 2 * k) (bv y) (by rw [List.getElem?_map, hy]; rfl)
          cases e1
          have ki := ints3_cell (blk_get hH.out) hlt
          obtain ⟨m, hm⟩ : ∃ m : Nat, m = [N, d.length, c.length].getD k 0 := ⟨_, rfl⟩
          have hmi : [(N : Int), (d.length : Int), (c.length : Int)].getD k 0 = (m : Int) := by
            rw [hm]
            match k, hlt with
            | 0, _ => rfl
            | 1, _ => rfl
            | 2, _ => rfl
          rw [← hm] at hxy
          rw [hmi] at ki
          have l1 : x.toNat * 256 + y.toNat ≤ m := by omega
          have l2 : m ≤ x.toNat * 256 + y.toNat := by omega
          have l3 := x.toNat_lt
          have l4 := y.toNat_lt
          have hk0 : (0 : Int) ≤ (k : Int) := by omega
          have j1 : (3 : Int) + 2 * (k : Int) < (bb.length : Int) := by omega
          have j2 : (4 : Int) + 2 * (k : Int) < (bb.length : Int) := by omega
          have j3 : (k : Int) < 3 := by omega
          clear hxy hm hmi hx hy
          go_wp2
          go_quiet (fail)
          go_wp2
          go_roundw
          case rel => exact ⟨k + 1, by omega, by go_num, Lib.hid (hH.out.drewN _)⟩
          case measure => simp [intOf]; omega
        · obtain rfl : k = 3 := by omega
          obtain ⟨x0, x1, x2⟩ := im_cells (hH.out.pull 2 rfl)
          have ks : ∀ W, (Instr.slice 22 (.slice (some ⟨g, 0, none⟩) bb.length cp) (some (.int .i64 9)) (some (.int .i64 (9 + (d.length : Int)))) none).run Tryd.prog W = .ok (.slice (subA g 9 cp) d.length (cp - 9)) W := fun W => part_u8 W g bb.length cp 9 d.length 9 _ rfl (by omega) (by omega)
          have SB : Hid (∀ W, Hp w W [Blk gi (.cells #[.int .i64 N, .int .i64 d.length, .int .i64 c.length] 3 (0, 0)), OwnU (.slice (some ⟨g, 0, none⟩) bb.length cp) bb, IM xb (N : Int) (.slice ad d.length dc) (.slice ac c.length cc)] → Calls Tryd.prog 15 #[.slice (subA g 9 cp) d.length (cp - 9), .slice ad d.length dc] W fun e' w' => e' = .returned (.bool true) ∧ Hp w w' [Blk gi (.cells #[.int .i64 N, .int .i64 d.length, .int .i64 c.length] 3 (0, 0)), OwnU (.slice (some ⟨g, 0, none⟩) bb.length cp) bb, IM xb (N : Int) (.slice ad d.length dc) (.slice ac c.length cc)]) := Lib.hid (fun W HW => (same_bytes (subA g 9 cp) ad (cp - 9) dc d d W (by have := cells_part (CellsIn.own (HW.pull 1 rfl)) (by rw [List.length_map]; exact HCP.out) 9 d.length; rw [← List.map_drop, ← List.map_take, HDAT.out] at this; exact this) (HD.out.hp HW) (by omega) (by omega)).mono (fun e' w' h => ⟨h.1.trans (by simp), HW.below_read h.2⟩))
          have HKK : Hid (Hp w wr [Blk gi (.cells #[.int .i64 N, .int .i64 d.length, .int .i64 c.length] 3 (0, 0)), OwnU (.slice (some ⟨g, 0, none⟩) bb.length cp) bb, IM xb (N : Int) (.slice ad d.length dc) (.slice ac c.length cc)]) := hH
          clear hH
          generalize subA g 9 cp = sa at *
          have hw9 : IntKind.i64.wrap (9 + (d.length : Int)) = 9 + (d.length : Int) := by rw [IntKind.wrap_i64]; omega
          go_upto_region 12 with fail
          clear le1 le2 b1 b2 cp1
          go_region_held3 (fun x => x.cell? ⟨xb, 0, none⟩ = some (.int .i64 (N : Int)) ∧ x.cell? ⟨xb, 1, none⟩ = some (.slice ad d.length dc) ∧ x.cell? ⟨xb, 2, none⟩ = some (.slice ac c.length cc)) (exact ⟨x0, x1, x2⟩) (first | (go_at_call 15; (first | refine (SB.out _ HKK.out.drew).mono ?_ | refine (SB.out _ HKK.out).mono ?_); rintro e9 wz ⟨rfl, HKn⟩; have HKK := Lib.hid HKn; clear HKn; obtain ⟨x0, x1, x2⟩ := im_cells (HKK.out.pull 2 rfl)))
          all_goals
            clear ks SB hw9
            go_wp2
            clear x0 x1 x2
            go_loopw [7] (fun s7 wr => ∃ k : Nat, k ≤ c.length ∧ s7 = .int .i64 k ∧ Hid (Hp w wr [Blk gi (.cells #[.int .i64 N, .int .i64 d.length, .int .i64 c.length] 3 (0, 0)), OwnU (.slice (some ⟨g, 0, none⟩) bb.length cp) bb, IM xb (N : Int) (.slice ad d.length dc) (.slice ac c.length cc)])) (fun s7 _ => c.length - (intOf s7).toNat)
            case atStart => exact ⟨0, Nat.zero_le _, rfl, HKK⟩
            case round =>
              obtain ⟨k, hk, rfl, hH⟩ := hrel
              clear HKK
              obtain ⟨x0, x1, x2⟩ := im_cells (hH.out.pull 2 rfl)
              by_cases hlt : k < c.length
              · obtain ⟨gc, oc, rfl, c0, c1, c2, c3⟩ := ins_cells (HC.out.hp hH.out) hlt
                have hcod := Lib.hid (HCOD.out k hlt)
                have HLT := Lib.hid hlt
                generalize c[k] = x at *
                obtain ⟨yo, ya, yb, yc⟩ := x
                simp only at c0 c1 c2 c3
                have PC := Lib.hid (put_c (op := yo.toNat) (a := ya.toNat) (b := yb.toNat) (c := yc.toNat) hH.out)
                have j0 : (0 : Int) ≤ (k : Int) := by omega
                have j1 : (k : Int) < (c.length : Int) := by omega
                clear hk hlt
                go_wp2_with fail
                refine PC.out.mono ?_; rintro e w7 ⟨rfl, H7⟩
                have H8 := Lib.hid (blk_new H7 (.cells #[bv yo, bv ya, bv yb, bv yc] 42))
                clear PC H7 hH c0 c1 c2 c3 j0 j1 x0 x1 x2
                go_upto_region 18 with fail
                generalize (w7.alloc (.cells #[bv yo, bv ya, bv yb, bv yc] 42)) = w8 at *
                generalize w7.heap.size = nb at *
                have b1 : d.length ≤ 4096 := HB.out.2.1
                have b2 : c.length ≤ 1024 := HB.out.2.2
                have lt := HLT.out
                have le2 := HLE.out.2
                have cp1 := HCP.out
                have ks : ∀ W, (Instr.slice 22 (.slice (some ⟨g, 0, none⟩) bb.length cp) (some (.int .i64 (9 + (d.length : Int) + 4 * (k : Int)))) (some (.int .i64 (13 + (d.length : Int) + 4 * (k : Int)))) none).run Tryd.prog W = .ok (.slice (subA g (9 + d.length + k * 4) cp) 4 (cp - (9 + d.length + k * 4))) W := fun W => part_u8 W g bb.length cp (9 + d.length + k * 4) 4 _ _ (by omega) (by omega) (by omega)
                have q1 : IntKind.i64.wrap (9 + (d.length : Int)) = 9 + (d.length : Int) := by rw [IntKind.wrap_i64]; omega
                have q2 : IntKind.i64.wrap (13 + (d.length : Int)) = 13 + (d.length : Int) := by rw [IntKind.wrap_i64]; omega
                have q3 : IntKind.i64.wrap (4 * (k : Int)) = 4 * (k : Int) := by rw [IntKind.wrap_i64]; omega
                have q4 : IntKind.i64.wrap (9 + (d.length : Int) + 4 * (k : Int)) = 9 + (d.length : Int) + 4 * (k : Int) := by rw [IntKind.wrap_i64]; omega
                have q5 : IntKind.i64.wrap (13 + (d.length : Int) + 4 * (k : Int)) = 13 + (d.length : Int) + 4 * (k : Int) := by rw [IntKind.wrap_i64]; omega
                have SB : Hid (∀ W, Hp w W (Blk nb (.cells #[bv yo, bv ya, bv yb, bv yc] 42 (0, 0)) :: [Blk gi (.cells #[.int .i64 N, .int .i64 d.length, .int .i64 c.length] 3 (0, 0)), OwnU (.slice (some ⟨g, 0, none⟩) bb.length cp) bb, IM xb (N : Int) (.slice ad d.length dc) (.slice (some ⟨gc, oc, none⟩) c.length cc)]) → Calls Tryd.prog 15 #[.slice (subA g (9 + d.length + k * 4) cp) 4 (cp - (9 + d.length + k * 4)), .slice (some ⟨nb, 0, none⟩) 4 4] W fun e' w' => e' = .returned (.bool true) ∧ Hp w w' (Blk nb (.cells #[bv yo, bv ya, bv yb, bv yc] 42 (0, 0)) :: [Blk gi (.cells #[.int .i64 N, .int .i64 d.length, .int .i64 c.length] 3 (0, 0)), OwnU (.slice (some ⟨g, 0, none⟩) bb.length cp) bb, IM xb (N : Int) (.slice ad d.length dc) (.slice (some ⟨gc, oc, none⟩) c.length cc)])) := Lib.hid (fun W HW => (same_bytes (subA g (9 + d.length + k * 4) cp) (some ⟨nb, 0, none⟩) (cp - (9 + d.length + k * 4)) 4 (i4b (yo, ya, yb, yc)) (i4b (yo, ya, yb, yc)) W (by have := cells_part (CellsIn.own (HW.pull 2 rfl)) (by rw [List.length_map]; exact HCP.out) (9 + d.length + k * 4) 4; rw [← List.map_drop, ← List.map_take, hcod.out] at this; exact this) (blk_in (l := [bv yo, bv ya, bv yb, bv yc]) HW) (by show 4 < 1000000000; omega) (by show 4 < 1000000000; omega)).mono (fun e' w' h => ⟨h.1.trans (by simp), HW.below_read h.2⟩))
                obtain ⟨x0, x1, x2⟩ := im_cells (H8.out.pull 3 rfl)
                clear b1 b2 lt le2 cp1
                generalize subA g (9 + d.length + k * 4) cp = sa at *
                go_region_held3 (fun x => x.cell? ⟨xb, 0, none⟩ = some (.int .i64 (N : Int)) ∧ x.cell? ⟨xb, 1, none⟩ = some (.slice ad d.length dc) ∧ x.cell? ⟨xb, 2, none⟩ = some (.slice (some ⟨gc, oc, none⟩) c.length cc)) (exact ⟨x0, x1, x2⟩) (first | (go_at_call 15; (first | refine (SB.out _ H8.out.drew).mono ?_ | refine (SB.out _ H8.out).mono ?_); rintro e9 wz ⟨rfl, HKn⟩; have H8 := Lib.hid HKn; clear HKn; obtain ⟨x0, x1, x2⟩ := im_cells (H8.out.pull 3 rfl)))
                all_goals
                  clear ks SB q1 q2 q3 q4 q5
                  have hkw : IntKind.i64.wrap ((k : Int) + 1) = (k : Int) + 1 := by rw [IntKind.wrap_i64]; have := HLT.out; have := HB.out; omega
                  have HF := Lib.hid (H8.out.tail)
                  clear x0 x1 x2
                  go_wp2
                  go_roundw
                  case rel => exact ⟨k + 1, by have := HLT.out; omega, by go_num, HF⟩
                  case measure => have := HLT.out; simp [intOf]; omega
              · go_wp2
                go_ret
                exact ⟨rfl, hH.out.below⟩
end Go.Proofs.YtcfoljdpffonhaaDoor
