/- Images: whether bytes, instructions and images are the same: walked. -/
import Derived.Test.YtcfoljdpffonhaaGreatDoorLb
set_option linter.unusedVariables false
set_option linter.unusedSimpArgs false
namespace Go.Proofs.YtcfoljdpffonhaaGreatDoor
open Go.RowKit Go.Joins Go.Shelf
attribute [local go_sem] Oper.semAt_some

set_option maxHeartbeats 4000000 in
set_option maxRecDepth 20000 in
theorem same_bytes (a b : Option Addr) (ca cb : Nat) (xs ys : List UInt8) (w : World) (ha : CellsIn w a (xs.map bv)) (hb : CellsIn w b (ys.map bv)) (hx : xs.length < 1000000000) (hy : ys.length < 1000000000) :
    Calls Tryz.prog 13 #[.slice a xs.length ca, .slice b ys.length cb] w fun e w' => e = .returned (.bool (decide (xs = ys))) ∧ Below w.heap.size w w' := by
  have HA := Lib.hid ha
  have HB := Lib.hid hb
  have H0 := Lib.hid (Hp.start w)
  have HX := Lib.hid hx
  generalize hr : decide (xs = ys) = res
  clear ha hb hx hy
  by_cases hl : xs.length = ys.length
  · have hne : ((xs.length : Int) != (ys.length : Int)) = false := by simp; omega
    have HL := Lib.hid hl
    have HR := Lib.hid hr
    clear hl hr
    go_enter Tryz.func13, Tryz.ntmps13
    go_wp2
    clear hne
    go_loopw [5] (fun s5 wr => ∃ k : Nat, k ≤ xs.length ∧ s5 = .int .i64 k ∧ Hid (xs.take k = ys.take k) ∧ Hid (Hp w wr [])) (fun s5 _ => xs.length - (intOf s5).toNat)
    case atStart => exact ⟨0, Nat.zero_le _, rfl, Lib.hid rfl, H0⟩
    case round =>
      obtain ⟨k, hk, rfl, hE, hH⟩ := hrel
      clear H0
      by_cases hlt : k < xs.length
      · have hlt2 : k < ys.length := by rw [← HL.out]; exact hlt
        have hkw : IntKind.i64.wrap ((k : Int) + 1) = (k : Int) + 1 := by rw [IntKind.wrap_i64]; have := HX.out; omega
        have hi1 : (k : Int) < (ys.length : Int) := by omega
        obtain ⟨g, o, rfl, c0⟩ := byte_cell (HA.out.hp hH.out) hlt
        obtain ⟨g', o', rfl, c0'⟩ := byte_cell (HB.out.hp hH.out) hlt2
        have HE2 : Hid (xs[k] = ys[k] → xs.take (k + 1) = ys.take (k + 1)) := Lib.hid (fun h => by rw [List.take_succ_eq_append_getElem hlt, List.take_succ_eq_append_getElem hlt2, hE.out, h])
        have HE3 : Hid (xs[k] ≠ ys[k] → res = false) := Lib.hid (fun h => by rw [← HR.out]; simp; intro h2; subst h2; exact h rfl)
        generalize xs[k] = x at *
        generalize ys[k] = y at *
        by_cases hxy : x = y
        · subst hxy
          have hn := Lib.hid (HE2.out rfl)
          have HLT := Lib.hid hlt
          clear hE HE2 HE3
          skip
          go_upto_region 6 with fail
          go_quiet (fail)
          go_wp2
          go_roundw
          case rel => exact ⟨k + 1, by have := HLT.out; omega, by go_num, hn, Lib.hid (hH.out.drewN _)⟩
          case measure => have := HLT.out; simp [intOf]; omega
        · have hn := HE3.out hxy
          subst hn
          clear hE HE2 HE3
          have h' : ¬ ((x.toNat : Nat) : Int) = ((y.toNat : Nat) : Int) := by intro h; apply hxy; rw [← UInt8.toNat_inj]; omega
          have h'' : (((x.toNat : Nat) : Int) != ((y.toNat : Nat) : Int)) = true := by simp; intro h; apply hxy; rw [← UInt8.toNat_inj]; omega
          have h3 : ¬ x.toNat = y.toNat := by intro h; apply hxy; rw [← UInt8.toNat_inj]; exact h
          clear hxy
          go_upto_region 6 with fail
          go_quiet (fail)
          all_goals go_wp2
          all_goals go_ret
          all_goals exact ⟨rfl, (hH.out.drewN _).below⟩
      · have hxe : xs = ys := by
          have h := hE.out
          rw [List.take_of_length_le (by omega), List.take_of_length_le (by have := HL.out; omega)] at h
          exact h
        obtain rfl : true = res := by rw [← HR.out]; simp [hxe]
        clear hE hxe
        go_wp2
        go_ret
        exact ⟨rfl, hH.out.below⟩
  · have hne : ((xs.length : Int) != (ys.length : Int)) = true := by simp; omega
    obtain rfl : false = res := by rw [← hr]; simp; intro h; subst h; exact hl rfl
    clear hr hl
    go_enter Tryz.func13, Tryz.ntmps13
    go_wp2
    go_ret
    exact ⟨rfl, H0.out.below⟩
set_option maxHeartbeats 4000000 in
set_option maxRecDepth 20000 in
theorem same_instrs (a b : Option Addr) (ca cb : Nat) (xs ys : List I4) (w : World) (ha : CellsIn w a (ics xs)) (hb : CellsIn w b (ics ys)) (hx : xs.length < 1000000000) (hy : ys.length < 1000000000) :
    Calls Tryz.prog 65 #[.slice a xs.length ca, .slice b ys.length cb] w fun e w' => e = .returned (.bool (decide (xs = ys))) ∧ Below w.heap.size w w' := by
  have HA := Lib.hid ha
  have HB := Lib.hid hb
  have H0 := Lib.hid (Hp.start w)
  have HX := Lib.hid hx
  generalize hr : decide (xs = ys) = res
  clear ha hb hx hy
  by_cases hl : xs.length = ys.length
  · have hne : ((xs.length : Int) != (ys.length : Int)) = false := by simp; omega
    have HL := Lib.hid hl
    have HR := Lib.hid hr
    clear hl hr
    go_enter Tryz.func65, Tryz.ntmps65
    go_wp2
    clear hne
    go_loopw [5] (fun s5 wr => ∃ k : Nat, k ≤ xs.length ∧ s5 = .int .i64 k ∧ Hid (xs.take k = ys.take k) ∧ Hid (Hp w wr [])) (fun s5 _ => xs.length - (intOf s5).toNat)
    case atStart => exact ⟨0, Nat.zero_le _, rfl, Lib.hid rfl, H0⟩
    case round =>
      obtain ⟨k, hk, rfl, hE, hH⟩ := hrel
      clear H0
      by_cases hlt : k < xs.length
      · have hlt2 : k < ys.length := by rw [← HL.out]; exact hlt
        have hkw : IntKind.i64.wrap ((k : Int) + 1) = (k : Int) + 1 := by rw [IntKind.wrap_i64]; have := HX.out; omega
        have hi1 : (k : Int) < (ys.length : Int) := by omega
        obtain ⟨g, o, rfl, c0, c1, c2, c3⟩ := ins_cells (HA.out.hp hH.out) hlt
        obtain ⟨g', o', rfl, c0', c1', c2', c3'⟩ := ins_cells (HB.out.hp hH.out) hlt2
        have HE2 : Hid (xs[k] = ys[k] → xs.take (k + 1) = ys.take (k + 1)) := Lib.hid (fun h => by rw [List.take_succ_eq_append_getElem hlt, List.take_succ_eq_append_getElem hlt2, hE.out, h])
        have HE3 : Hid (xs[k] ≠ ys[k] → res = false) := Lib.hid (fun h => by rw [← HR.out]; simp; intro h2; subst h2; exact h rfl)
        generalize xs[k] = x at *
        generalize ys[k] = y at *
        by_cases hxy : x = y
        · subst hxy
          have hn := Lib.hid (HE2.out rfl)
          have HLT := Lib.hid hlt
          clear hE HE2 HE3
          skip
          go_upto_region 6 with fail
          go_quiet (fail)
          go_wp2
          go_roundw
          case rel => exact ⟨k + 1, by have := HLT.out; omega, by go_num, hn, Lib.hid (hH.out.drewN _)⟩
          case measure => have := HLT.out; simp [intOf]; omega
        · have hn := HE3.out hxy
          subst hn
          clear hE HE2 HE3
          obtain ⟨x0, x1, x2, x3⟩ := x
          obtain ⟨y0, y1, y2, y3⟩ := y
          have hcs : x0 ≠ y0 ∨ (x0 = y0 ∧ x1 ≠ y1) ∨ (x0 = y0 ∧ x1 = y1 ∧ x2 ≠ y2) ∨ (x0 = y0 ∧ x1 = y1 ∧ x2 = y2 ∧ x3 ≠ y3) := by
            by_cases e0 : x0 = y0
            · by_cases e1 : x1 = y1
              · by_cases e2 : x2 = y2
                · by_cases e3 : x3 = y3
                  · subst e0; subst e1; subst e2; subst e3; exact absurd rfl hxy
                  · exact Or.inr (Or.inr (Or.inr ⟨e0, e1, e2, e3⟩))
                · exact Or.inr (Or.inr (Or.inl ⟨e0, e1, e2⟩))
              · exact Or.inr (Or.inl ⟨e0, e1⟩)
            · exact Or.inl e0
          clear hxy
          simp only at c0 c1 c2 c3 c0' c1' c2' c3'
          rcases hcs with h | ⟨rfl, h⟩ | ⟨rfl, rfl, h⟩ | ⟨rfl, rfl, rfl, h⟩
          · have h' : ¬ ((x0.toNat : Nat) : Int) = ((y0.toNat : Nat) : Int) := by intro e; apply h; rw [← UInt8.toNat_inj]; omega
            have h3 : ¬ x0.toNat = y0.toNat := by intro e; apply h; rw [← UInt8.toNat_inj]; exact e
            have h4 : (((x0.toNat : Nat) : Int) == ((y0.toNat : Nat) : Int)) = false := by rw [beq_eq_false_iff_ne]; exact h'
            clear h
            go_upto_region 6 with fail
            go_quiet (fail)
            all_goals go_wp2
            all_goals go_ret
            all_goals exact ⟨rfl, (hH.out.drewN _).below⟩
          · have h' : ¬ ((x1.toNat : Nat) : Int) = ((y1.toNat : Nat) : Int) := by intro e; apply h; rw [← UInt8.toNat_inj]; omega
            have h3 : ¬ x1.toNat = y1.toNat := by intro e; apply h; rw [← UInt8.toNat_inj]; exact e
            have h4 : (((x1.toNat : Nat) : Int) == ((y1.toNat : Nat) : Int)) = false := by rw [beq_eq_false_iff_ne]; exact h'
            clear h
            go_upto_region 6 with fail
            go_quiet (fail)
            all_goals go_wp2
            all_goals go_ret
            all_goals exact ⟨rfl, (hH.out.drewN _).below⟩
          · have h' : ¬ ((x2.toNat : Nat) : Int) = ((y2.toNat : Nat) : Int) := by intro e; apply h; rw [← UInt8.toNat_inj]; omega
            have h3 : ¬ x2.toNat = y2.toNat := by intro e; apply h; rw [← UInt8.toNat_inj]; exact e
            have h4 : (((x2.toNat : Nat) : Int) == ((y2.toNat : Nat) : Int)) = false := by rw [beq_eq_false_iff_ne]; exact h'
            clear h
            go_upto_region 6 with fail
            go_quiet (fail)
            all_goals go_wp2
            all_goals go_ret
            all_goals exact ⟨rfl, (hH.out.drewN _).below⟩
          · have h' : ¬ ((x3.toNat : Nat) : Int) = ((y3.toNat : Nat) : Int) := by intro e; apply h; rw [← UInt8.toNat_inj]; omega
            have h3 : ¬ x3.toNat = y3.toNat := by intro e; apply h; rw [← UInt8.toNat_inj]; exact e
            have h4 : (((x3.toNat : Nat) : Int) == ((y3.toNat : Nat) : Int)) = false := by rw [beq_eq_false_iff_ne]; exact h'
            clear h
            go_upto_region 6 with fail
            go_quiet (fail)
            all_goals go_wp2
            all_goals go_ret
            all_goals exact ⟨rfl, (hH.out.drewN _).below⟩
      · have hxe : xs = ys := by
          have h := hE.out
          rw [List.take_of_length_le (by omega), List.take_of_length_le (by have := HL.out; omega)] at h
          exact h
        obtain rfl : true = res := by rw [← HR.out]; simp [hxe]
        clear hE hxe
        go_wp2
        go_ret
        exact ⟨rfl, hH.out.below⟩
  · have hne : ((xs.length : Int) != (ys.length : Int)) = true := by simp; omega
    obtain rfl : false = res := by rw [← hr]; simp; intro h; subst h; exact hl rfl
    clear hr hl
    go_enter Tryz.func65, Tryz.ntmps65
    go_wp2
    go_ret
    exact ⟨rfl, H0.out.below⟩
theorem im_cells {w0 w : World} {r : List Thing} {b : Nat} {n : Int} {u v : Value} (H : Hp w0 w (Blk b (.cells #[.int .i64 n, u, v] 25 (0, 0)) :: r)) : w.cell? ⟨b, 0, none⟩ = some (.int .i64 n) ∧ w.cell? ⟨b, 1, none⟩ = some u ∧ w.cell? ⟨b, 2, none⟩ = some v :=
  ⟨cell_blk (blk_get H) 0, cell_blk (blk_get H) 1, cell_blk (blk_get H) 2⟩
set_option maxHeartbeats 4000000 in
set_option maxRecDepth 20000 in
theorem same_image (n m : Int) (a b p q : Option Addr) (ca cb cp cq : Nat) (d e : List UInt8) (c f : List I4) (w : World) (ha : CellsIn w a (d.map bv)) (hb : CellsIn w b (e.map bv)) (hp : CellsIn w p (ics c)) (hq : CellsIn w q (ics f))
    (hd : d.length < 1000000000) (he : e.length < 1000000000) (hc : c.length < 1000000000) (hf : f.length < 1000000000) :
    Calls Tryz.prog 21 #[imV n a d.length ca p c.length cp, imV m b e.length cb q f.length cq] w fun e' w' => e' = .returned (.bool (decide (n = m) && decide (d = e) && decide (c = f))) ∧ Below w.heap.size w w' := by
  have H1 := Lib.hid (blk_new_at (blk_new (Hp.start w) (.cells #[.int .i64 n, .slice a d.length ca, .slice p c.length cp] 25)) (.cells #[.int .i64 m, .slice b e.length cb, .slice q f.length cq] 25) (w.heap.size + 1) (size_alloc1 _ _))
  have C1 : Hid (∀ W, Hp w W [] → Calls Tryz.prog 13 #[.slice a d.length ca, .slice b e.length cb] W fun e' w' => e' = .returned (.bool (decide (d = e))) ∧ Below W.heap.size W w') := Lib.hid (fun W h => same_bytes a b ca cb d e W (ha.hp h) (hb.hp h) hd he)
  have C2 : Hid (∀ W, Hp w W [] → Calls Tryz.prog 65 #[.slice p c.length cp, .slice q f.length cq] W fun e' w' => e' = .returned (.bool (decide (c = f))) ∧ Below W.heap.size W w') := Lib.hid (fun W h => same_instrs p q cp cq c f W (hp.hp h) (hq.hp h) hc hf)
  generalize decide (d = e) = r1 at *
  generalize decide (c = f) = r2 at *
  clear ha hb hp hq hd he hc hf
  by_cases hnm : n = m
  · subst hnm
    have hr : (decide (n = n) && r1 && r2) = (r1 && r2) := by simp
    rw [hr]
    clear hr
    go_enter Tryz.func21, Tryz.ntmps21
    go_upto_region 1 with fail
    obtain ⟨x0, x1, x2⟩ := im_cells (H1.out.pull 1 rfl)
    obtain ⟨y0, y1, y2⟩ := im_cells H1.out
    generalize ((w.alloc (.cells #[.int .i64 n, .slice a d.length ca, .slice p c.length cp] 25)).alloc (.cells #[.int .i64 n, .slice b e.length cb, .slice q f.length cq] 25)) = w1 at *
    go_wp2_with fail
    refine (C1.out _ ⟨H1.out.below, trivial⟩).mono ?_; rintro e' w2 ⟨rfl, hb⟩
    have H2 := Lib.hid (H1.out.below_read hb)
    clear hb C1 H1 x0 x1 x2 y0 y1 y2
    cases r1 with
    | false =>
      go_wp2
      go_ret
      exact ⟨rfl, H2.out.below⟩
    | true =>
      obtain ⟨x0, x1, x2⟩ := im_cells (H2.out.pull 1 rfl)
      obtain ⟨y0, y1, y2⟩ := im_cells H2.out
      go_wp2_with fail
      refine (C2.out _ ⟨H2.out.below, trivial⟩).mono ?_; rintro e' w3 ⟨rfl, hb⟩
      have H3 := Lib.hid (H2.out.below_read hb)
      clear hb C2 H2 x0 x1 x2 y0 y1 y2
      cases r2
      all_goals
        go_wp2
        go_ret
        exact ⟨rfl, H3.out.below⟩
  · have hr : (decide (n = m) && r1 && r2) = false := by simp [hnm]
    have hn2 : ((n : Int) == m) = false := by rw [beq_eq_false_iff_ne]; exact hnm
    rw [hr]
    clear C1 C2 hr
    go_enter Tryz.func21, Tryz.ntmps21
    go_wp2
    go_ret
    exact ⟨rfl, H1.out.below⟩
end Go.Proofs.YtcfoljdpffonhaaGreatDoor
