/- The document's core: a load: walked. The document's core: its bytes, handed out: walked. The document's core: a store: walked. The document's core: any instruction that finds or leaves bytes: walked. -/
import Derived.Test.YtijkkompnfpdeaaGreatDoorP14
set_option linter.unusedVariables false
set_option linter.unusedSimpArgs false
namespace Go.Proofs.YtijkkompnfpdeaaGreatDoor
open Go.RowKit Go.Joins Go.Shelf
attribute [local go_sem] Oper.semAt_some

theorem or_a (n0 n1 : Nat) (h0 : n0 < 256) (h1 : n1 < 256) : bits .or .u32 ((n0 : Int) * 16777216) ((n1 : Int) * 65536) = (n0 : Int) * 16777216 + (n1 : Int) * 65536 := by
  have hx : (n0 : Int) * 16777216 = ((n0 * 16777216 : Nat) : Int) := by omega
  have hy : (n1 : Int) * 65536 = ((n1 * 65536 : Nat) : Int) := by omega
  have hs : (n0 : Int) * 16777216 + (n1 : Int) * 65536 = ((n0 * 16777216 + n1 * 65536 : Nat) : Int) := by omega
  rw [hs, hx, hy, u32_or_nat _ _ (by omega) (by omega)]
  have hb : n1 * 65536 < 16777216 := by omega
  clear hs hx hy
  have h := Nat.shiftLeft_add_eq_or_of_lt (i := 24) (b := n1 * 65536) hb (n0)
  rw [Nat.shiftLeft_eq, show (2 : Nat) ^ 24 = 16777216 from rfl] at h
  rw [h]
theorem or_b (n0 n1 n2 : Nat) (h0 : n0 < 256) (h1 : n1 < 256) (h2 : n2 < 256) : bits .or .u32 ((n0 : Int) * 16777216 + (n1 : Int) * 65536) ((n2 : Int) * 256) = (n0 : Int) * 16777216 + (n1 : Int) * 65536 + (n2 : Int) * 256 := by
  have hx : (n0 : Int) * 16777216 + (n1 : Int) * 65536 = ((n0 * 16777216 + n1 * 65536 : Nat) : Int) := by omega
  have hy : (n2 : Int) * 256 = ((n2 * 256 : Nat) : Int) := by omega
  have e : n0 * 16777216 + n1 * 65536 = (n0 * 256 + n1) * 65536 := by omega
  have hs : (n0 : Int) * 16777216 + (n1 : Int) * 65536 + (n2 : Int) * 256 = ((n0 * 16777216 + n1 * 65536 + n2 * 256 : Nat) : Int) := by omega
  rw [hs, hx, hy, u32_or_nat _ _ (by omega) (by omega)]
  have hb : n2 * 256 < 65536 := by omega
  clear hs hx hy
  have h := Nat.shiftLeft_add_eq_or_of_lt (i := 16) (b := n2 * 256) hb (n0 * 256 + n1)
  rw [Nat.shiftLeft_eq, show (2 : Nat) ^ 16 = 65536 from rfl] at h
  rw [e, h]
theorem or_c (n0 n1 n2 n3 : Nat) (h0 : n0 < 256) (h1 : n1 < 256) (h2 : n2 < 256) (h3 : n3 < 256) : bits .or .u32 ((n0 : Int) * 16777216 + (n1 : Int) * 65536 + (n2 : Int) * 256) ((n3 : Int)) = (n0 : Int) * 16777216 + (n1 : Int) * 65536 + (n2 : Int) * 256 + (n3 : Int) := by
  have hx : (n0 : Int) * 16777216 + (n1 : Int) * 65536 + (n2 : Int) * 256 = ((n0 * 16777216 + n1 * 65536 + n2 * 256 : Nat) : Int) := by omega
  have hy : (n3 : Int) = ((n3 : Nat) : Int) := by omega
  have e : n0 * 16777216 + n1 * 65536 + n2 * 256 = ((n0 * 256 + n1) * 256 + n2) * 256 := by omega
  have hs : (n0 : Int) * 16777216 + (n1 : Int) * 65536 + (n2 : Int) * 256 + (n3 : Int) = ((n0 * 16777216 + n1 * 65536 + n2 * 256 + n3 : Nat) : Int) := by omega
  rw [hs, hx, hy, u32_or_nat _ _ (by omega) (by omega)]
  have hb : n3 < 256 := by omega
  clear hs hx hy
  have h := Nat.shiftLeft_add_eq_or_of_lt (i := 8) (b := n3) hb ((n0 * 256 + n1) * 256 + n2)
  rw [Nat.shiftLeft_eq, show (2 : Nat) ^ 8 = 256 from rfl] at h
  rw [e, h]
set_option maxHeartbeats 8000000 in
set_option maxRecDepth 20000 in
theorem mv11y {w0 w : World} {r : List Thing} {b : Nat} {c : List I4} {s : Cs} (o x y z : UInt8) (ho : o.toNat = 11) (hx : x.toNat < 8) (hy : y.toNat < 8) (hf : (plc s (o, x, y, z)).toNat + 4 ≤ s.mem.length) (H : Hp w0 w (DR b c s :: r)) :
    Calls Tryz.prog 43 #[.pointer (some ⟨b, 0, none⟩), i4v (o, x, y, z)] w fun e w' => e = .returned (.bool true) ∧ Hp w0 w' (DR b c (wrg s x (ld4 s.mem (plc s (o, x, y, z)).toNat)) :: r) := by
  obtain ⟨mb, vc, hl, hm, H2⟩ := dr_open H
  have H3 := blk_new H2 (.cells #[bv o, bv x, bv y, bv z] 26)
  have H4 : Hid (Hp w0 _ (XB w.heap.size (o, x, y, z) :: _)) := Lib.hid H3
  have HM := Lib.hid hm
  have HL := Lib.hid hl
  have HF := Lib.hid hf
  have HO := Lib.hid ho
  have Q3 := Lib.hid (plc_mod s o x y z)
  generalize plc s (o, x, y, z) = p at *
  have HP4 := Lib.hid ((pn_ld s.mem p.toNat).trans (by rw [pn_four]))
  generalize ld4 s.mem p.toNat = u at *
  generalize hb0 : s.mem.getD p.toNat 0 = b0 at *
  generalize hb1 : s.mem.getD (p.toNat + 1) 0 = b1 at *
  generalize hb2 : s.mem.getD (p.toNat + 2) 0 = b2 at *
  generalize hb3 : s.mem.getD (p.toNat + 3) 0 = b3 at *
  have HB0 := Lib.hid hb0
  have HB1 := Lib.hid hb1
  have HB2 := Lib.hid hb2
  have HB3 := Lib.hid hb3
  clear hb0 hb1 hb2 hb3
  clear H H2 H3 hm hl hf ho
  have hx8 : (x.toNat : Int) < 8 := by omega
  have hy8 : (y.toNat : Int) < 8 := by omega
  go_enter Tryz.func43, Tryz.ntmps43
  go_upto_region 1 with fail
  generalize w.heap.size = xb at *
  generalize (w.alloc (.cells #[bv o, bv x, bv y, bv z] 26)) = W at *
  have x2 : W.cell? ⟨xb, 2, none⟩ = some (bv y) := cell_blk (blk_get H4.out) 2
  have x3 : W.cell? ⟨xb, 3, none⟩ = some (bv z) := cell_blk (blk_get H4.out) 3
  have gy : W.cell? ⟨b, y.toNat, none⟩ = some (wv (rg s y)) := db_reg H4.out.tail HL.out y.toNat hy
  have k1 := w8_32 z
  go_quiet (fail)
  have HQ := Q3.out
  rw [HQ]
  clear HQ Q3 x2 x3 gy k1
  have H5 := Lib.hid (H4.out.drewN nq)
  generalize W.drewN nq = W1 at *
  clear H4
  have x0 : W1.cell? ⟨xb, 0, none⟩ = some (bv o) := cell_blk (blk_get H5.out) 0
  rw [show bv o = .int .u8 11 by unfold bv; rw [HO.out]; rfl] at x0
  have c9 : W1.cell? ⟨b, 9, none⟩ = some (.slice (some ⟨mb, 0, none⟩) s.mem.length s.mem.length) := db_cell H5.out.tail HL.out 1
  go_wp2_with fail
  refine (room_c b mb s.mem.length 4 p (by omega) c9).mono ?_; rintro e w2 ⟨rfl, rfl⟩
  rw [decide_eq_true HF.out]
  have x1 : w2.cell? ⟨xb, 1, none⟩ = some (bv x) := cell_blk (blk_get H5.out) 1
  have gx : w2.cell? ⟨b, x.toNat, none⟩ = some (wv (rg s x)) := db_reg H5.out.tail HL.out x.toNat hx
  have y1 : (p.toNat : Int) < (s.mem.length : Int) := by have := HF.out; omega
  have cm0 : w2.cell? ⟨mb, p.toNat, none⟩ = some (bv b0) := by rw [← HB0.out]; exact mb_cell (H5.out.pull 2 rfl) (by have := HF.out; omega)
  have cm1 : w2.cell? ⟨mb, p.toNat + 1, none⟩ = some (bv b1) := by rw [← HB1.out]; exact mb_cell (H5.out.pull 2 rfl) (by have := HF.out; omega)
  have cm2 : w2.cell? ⟨mb, p.toNat + 2, none⟩ = some (bv b2) := by rw [← HB2.out]; exact mb_cell (H5.out.pull 2 rfl) (by have := HF.out; omega)
  have cm3 : w2.cell? ⟨mb, p.toNat + 3, none⟩ = some (bv b3) := by rw [← HB3.out]; exact mb_cell (H5.out.pull 2 rfl) (by have := HF.out; omega)
  have l0 := HF.out
  have l1 := HM.out
  have j1 : IntKind.u32.wrap ((p.toNat : Int) + 1) = (p.toNat : Int) + 1 := by rw [IntKind.wrap_u32]; omega
  have j2 : IntKind.u32.wrap ((p.toNat : Int) + 2) = (p.toNat : Int) + 2 := by rw [IntKind.wrap_u32]; omega
  have j3 : IntKind.u32.wrap ((p.toNat : Int) + 3) = (p.toNat : Int) + 3 := by rw [IntKind.wrap_u32]; omega
  have i1 : ((p.toNat : Int) + 1).toNat = p.toNat + 1 := by omega
  have i2 : ((p.toNat : Int) + 2).toNat = p.toNat + 2 := by omega
  have i3 : ((p.toNat : Int) + 3).toNat = p.toNat + 3 := by omega
  have m1 : (p.toNat : Int) + 1 < (s.mem.length : Int) := by omega
  have m2 : (p.toNat : Int) + 2 < (s.mem.length : Int) := by omega
  have m3 : (p.toNat : Int) + 3 < (s.mem.length : Int) := by omega
  have n1 : 0 ≤ (p.toNat : Int) + 1 := by omega
  have n2 : 0 ≤ (p.toNat : Int) + 2 := by omega
  have n3 : 0 ≤ (p.toNat : Int) + 3 := by omega
  have e0 := w8_32 b0
  have e1 := w8_32 b1
  have e2 := w8_32 b2
  have e3 := w8_32 b3
  have z0 := b0.toNat_lt
  have z1 := b1.toNat_lt
  have z2 := b2.toNat_lt
  have z3 := b3.toNat_lt
  have r0 : IntKind.u32.wrap ((b0.toNat : Int) * 16777216) = (b0.toNat : Int) * 16777216 := by rw [IntKind.wrap_u32]; omega
  have r1 : IntKind.u32.wrap ((b1.toNat : Int) * 65536) = (b1.toNat : Int) * 65536 := by rw [IntKind.wrap_u32]; omega
  have r2 : IntKind.u32.wrap ((b2.toNat : Int) * 256) = (b2.toNat : Int) * 256 := by rw [IntKind.wrap_u32]; omega
  have r3 := or_a b0.toNat b1.toNat z0 z1
  have r4 := or_b b0.toNat b1.toNat b2.toNat z0 z1 z2
  have r5 : bits .or .u32 ((b0.toNat : Int) * 16777216 + (b1.toNat : Int) * 65536 + (b2.toNat : Int) * 256) (b3.toNat : Int) = (u.toNat : Int) := by rw [or_c b0.toNat b1.toNat b2.toNat b3.toNat z0 z1 z2 z3, HP4.out]; omega
  clear z0 z1 z2 z3
  clear l0 l1
  have fz := free_blk (blk_get H5.out.tail) x.toNat
  have HZ := Lib.hid (dr_shut (s := wrg s x u) (by simpa [wrg] using HL.out) HM.out (db_setreg H5.out.tail HL.out x.toNat hx u))
  clear H5
  go_upto_region 9 with fail
  refine wp_region_S 47 (fun W => W.cell? ⟨xb, 1, none⟩ = some (bv x) ∧ W.cell? ⟨b, 9, none⟩ = some (.slice (some ⟨mb, 0, none⟩) s.mem.length s.mem.length) ∧ W.cell? ⟨mb, p.toNat, none⟩ = some (bv b0) ∧ W.cell? ⟨mb, p.toNat + 1, none⟩ = some (bv b1) ∧ W.cell? ⟨mb, p.toNat + 2, none⟩ = some (bv b2) ∧ W.cell? ⟨mb, p.toNat + 3, none⟩ = some (bv b3)) (by as_aux_lemma => kernel_rfl) ?_
  have hSS : (fun (W : World) => W.cell? ⟨xb, 1, none⟩ = some (bv x) ∧ W.cell? ⟨b, 9, none⟩ = some (.slice (some ⟨mb, 0, none⟩) s.mem.length s.mem.length) ∧ W.cell? ⟨mb, p.toNat, none⟩ = some (bv b0) ∧ W.cell? ⟨mb, p.toNat + 1, none⟩ = some (bv b1) ∧ W.cell? ⟨mb, p.toNat + 2, none⟩ = some (bv b2) ∧ W.cell? ⟨mb, p.toNat + 3, none⟩ = some (bv b3)) w2.drew := ⟨x1, c9, cm0, cm1, cm2, cm3⟩
  refine wpAnyS_tk (i := 0) (by as_aux_lemma => kernel_rfl) (by intro c a d v w h; cases d <;> exact h) hSS (fun oi hoi => ?_)
  simp only [List.getElem?_toArray, List.getElem?_cons_zero, List.getElem?_cons_succ, Option.some.injEq] at hoi; subst hoi
  refine ⟨?_, by rfl, fun wx hSx => ?_, ?_⟩
  rotate_left
  · obtain ⟨s1, s2, s3, s4, s5, s6⟩ := hSx
    go_simp
    try with_reducible rfl
  try simp only [Act.put, List.setIfInBounds_toArray, List.set_cons_zero, List.set_cons_succ]
  refine wpAnyS_tk (i := 1) (by as_aux_lemma => kernel_rfl) (by intro c a d v w h; cases d <;> exact h) hSS (fun oi hoi => ?_)
  simp only [List.getElem?_toArray, List.getElem?_cons_zero, List.getElem?_cons_succ, Option.some.injEq] at hoi; subst hoi
  refine ⟨?_, by rfl, fun wx hSx => ?_, ?_⟩
  rotate_left
  · obtain ⟨s1, s2, s3, s4, s5, s6⟩ := hSx
    go_simp
    try with_reducible rfl
  try simp only [Act.put, List.setIfInBounds_toArray, List.set_cons_zero, List.set_cons_succ]
  refine wpAnyS_tk (i := 2) (by as_aux_lemma => kernel_rfl) (by intro c a d v w h; cases d <;> exact h) hSS (fun oi hoi => ?_)
  simp only [List.getElem?_toArray, List.getElem?_cons_zero, List.getElem?_cons_succ, Option.some.injEq] at hoi; subst hoi
  refine ⟨?_, by rfl, fun wx hSx => ?_, ?_⟩
  rotate_left
  · obtain ⟨s1, s2, s3, s4, s5, s6⟩ := hSx
    go_simp
    try with_reducible rfl
  try simp only [Act.put, List.setIfInBounds_toArray, List.set_cons_zero, List.set_cons_succ]
  refine wpAnyS_tk (i := 3) (by as_aux_lemma => kernel_rfl) (by intro c a d v w h; cases d <;> exact h) hSS (fun oi hoi => ?_)
  simp only [List.getElem?_toArray, List.getElem?_cons_zero, List.getElem?_cons_succ, Option.some.injEq] at hoi; subst hoi
  refine ⟨?_, by rfl, fun wx hSx => ?_, ?_⟩
  rotate_left
  · obtain ⟨s1, s2, s3, s4, s5, s6⟩ := hSx
    go_simp
    try with_reducible rfl
  try simp only [Act.put, List.setIfInBounds_toArray, List.set_cons_zero, List.set_cons_succ]
  refine wpAnyS_tk (i := 4) (by as_aux_lemma => kernel_rfl) (by intro c a d v w h; cases d <;> exact h) hSS (fun oi hoi => ?_)
  simp only [List.getElem?_toArray, List.getElem?_cons_zero, List.getElem?_cons_succ, Option.some.injEq] at hoi; subst hoi
  refine ⟨?_, by rfl, fun wx hSx => ?_, ?_⟩
  rotate_left
  · obtain ⟨s1, s2, s3, s4, s5, s6⟩ := hSx
    go_simp
    try with_reducible rfl
  try simp only [Act.put, List.setIfInBounds_toArray, List.set_cons_zero, List.set_cons_succ]
  refine wpAnyS_tk (i := 5) (by as_aux_lemma => kernel_rfl) (by intro c a d v w h; cases d <;> exact h) hSS (fun oi hoi => ?_)
  simp only [List.getElem?_toArray, List.getElem?_cons_zero, List.getElem?_cons_succ, Option.some.injEq] at hoi; subst hoi
  refine ⟨?_, by rfl, fun wx hSx => ?_, ?_⟩
  rotate_left
  · obtain ⟨s1, s2, s3, s4, s5, s6⟩ := hSx
    go_simp
    try with_reducible rfl
  try simp only [Act.put, List.setIfInBounds_toArray, List.set_cons_zero, List.set_cons_succ]
  refine wpAnyS_tk (i := 6) (by as_aux_lemma => kernel_rfl) (by intro c a d v w h; cases d <;> exact h) hSS (fun oi hoi => ?_)
  simp only [List.getElem?_toArray, List.getElem?_cons_zero, List.getElem?_cons_succ, Option.some.injEq] at hoi; subst hoi
  refine ⟨?_, by rfl, fun wx hSx => ?_, ?_⟩
  rotate_left
  · obtain ⟨s1, s2, s3, s4, s5, s6⟩ := hSx
    go_simp
    try with_reducible rfl
  try simp only [Act.put, List.setIfInBounds_toArray, List.set_cons_zero, List.set_cons_succ]
  refine wpAnyS_tk (i := 7) (by as_aux_lemma => kernel_rfl) (by intro c a d v w h; cases d <;> exact h) hSS (fun oi hoi => ?_)
  simp only [List.getElem?_toArray, List.getElem?_cons_zero, List.getElem?_cons_succ, Option.some.injEq] at hoi; subst hoi
  refine ⟨?_, by rfl, fun wx hSx => ?_, ?_⟩
  rotate_left
  · obtain ⟨s1, s2, s3, s4, s5, s6⟩ := hSx
    go_simp
    try with_reducible rfl
  try simp only [Act.put, List.setIfInBounds_toArray, List.set_cons_zero, List.set_cons_succ]
  refine wpAnyS_tk (i := 8) (by as_aux_lemma => kernel_rfl) (by intro c a d v w h; cases d <;> exact h) hSS (fun oi hoi => ?_)
  simp only [List.getElem?_toArray, List.getElem?_cons_zero, List.getElem?_cons_succ, Option.some.injEq] at hoi; subst hoi
  refine ⟨?_, by rfl, fun wx hSx => ?_, ?_⟩
  rotate_left
  · obtain ⟨s1, s2, s3, s4, s5, s6⟩ := hSx
    go_simp
    try with_reducible rfl
  try simp only [Act.put, List.setIfInBounds_toArray, List.set_cons_zero, List.set_cons_succ]
  refine wpAnyS_tk (i := 9) (by as_aux_lemma => kernel_rfl) (by intro c a d v w h; cases d <;> exact h) hSS (fun oi hoi => ?_)
  simp only [List.getElem?_toArray, List.getElem?_cons_zero, List.getElem?_cons_succ, Option.some.injEq] at hoi; subst hoi
  refine ⟨?_, by rfl, fun wx hSx => ?_, ?_⟩
  rotate_left
  · obtain ⟨s1, s2, s3, s4, s5, s6⟩ := hSx
    go_simp
    try with_reducible rfl
  try simp only [Act.put, List.setIfInBounds_toArray, List.set_cons_zero, List.set_cons_succ]
  refine wpAnyS_tk (i := 10) (by as_aux_lemma => kernel_rfl) (by intro c a d v w h; cases d <;> exact h) hSS (fun oi hoi => ?_)
  simp only [List.getElem?_toArray, List.getElem?_cons_zero, List.getElem?_cons_succ, Option.some.injEq] at hoi; subst hoi
  refine ⟨?_, by rfl, fun wx hSx => ?_, ?_⟩
  rotate_left
  · obtain ⟨s1, s2, s3, s4, s5, s6⟩ := hSx
    go_simp
    try with_reducible rfl
  try simp only [Act.put, List.setIfInBounds_toArray, List.set_cons_zero, List.set_cons_succ]
  refine wpAnyS_tk (i := 11) (by as_aux_lemma => kernel_rfl) (by intro c a d v w h; cases d <;> exact h) hSS (fun oi hoi => ?_)
  simp only [List.getElem?_toArray, List.getElem?_cons_zero, List.getElem?_cons_succ, Option.some.injEq] at hoi; subst hoi
  refine ⟨?_, by rfl, fun wx hSx => ?_, ?_⟩
  rotate_left
  · obtain ⟨s1, s2, s3, s4, s5, s6⟩ := hSx
    go_simp
    try with_reducible rfl
  try simp only [Act.put, List.setIfInBounds_toArray, List.set_cons_zero, List.set_cons_succ]
  refine wpAnyS_tk (i := 12) (by as_aux_lemma => kernel_rfl) (by intro c a d v w h; cases d <;> exact h) hSS (fun oi hoi => ?_)
  simp only [List.getElem?_toArray, List.getElem?_cons_zero, List.getElem?_cons_succ, Option.some.injEq] at hoi; subst hoi
  refine ⟨?_, by rfl, fun wx hSx => ?_, ?_⟩
  rotate_left
  · obtain ⟨s1, s2, s3, s4, s5, s6⟩ := hSx
    go_simp
    try with_reducible rfl
  try simp only [Act.put, List.setIfInBounds_toArray, List.set_cons_zero, List.set_cons_succ]
  refine wpAnyS_tk (i := 13) (by as_aux_lemma => kernel_rfl) (by intro c a d v w h; cases d <;> exact h) hSS (fun oi hoi => ?_)
  simp only [List.getElem?_toArray, List.getElem?_cons_zero, List.getElem?_cons_succ, Option.some.injEq] at hoi; subst hoi
  refine ⟨?_, by rfl, fun wx hSx => ?_, ?_⟩
  rotate_left
  · obtain ⟨s1, s2, s3, s4, s5, s6⟩ := hSx
    go_simp
    try with_reducible rfl
  try simp only [Act.put, List.setIfInBounds_toArray, List.set_cons_zero, List.set_cons_succ]
  refine wpAnyS_tk (i := 14) (by as_aux_lemma => kernel_rfl) (by intro c a d v w h; cases d <;> exact h) hSS (fun oi hoi => ?_)
  simp only [List.getElem?_toArray, List.getElem?_cons_zero, List.getElem?_cons_succ, Option.some.injEq] at hoi; subst hoi
  refine ⟨?_, by rfl, fun wx hSx => ?_, ?_⟩
  rotate_left
  · obtain ⟨s1, s2, s3, s4, s5, s6⟩ := hSx
    go_simp
    try with_reducible rfl
  try simp only [Act.put, List.setIfInBounds_toArray, List.set_cons_zero, List.set_cons_succ]
  refine wpAnyS_tk (i := 15) (by as_aux_lemma => kernel_rfl) (by intro c a d v w h; cases d <;> exact h) hSS (fun oi hoi => ?_)
  simp only [List.getElem?_toArray, List.getElem?_cons_zero, List.getElem?_cons_succ, Option.some.injEq] at hoi; subst hoi
  refine ⟨?_, by rfl, fun wx hSx => ?_, ?_⟩
  rotate_left
  · obtain ⟨s1, s2, s3, s4, s5, s6⟩ := hSx
    go_simp
    try with_reducible rfl
  try simp only [Act.put, List.setIfInBounds_toArray, List.set_cons_zero, List.set_cons_succ]
  refine wpAnyS_tk (i := 16) (by as_aux_lemma => kernel_rfl) (by intro c a d v w h; cases d <;> exact h) hSS (fun oi hoi => ?_)
  simp only [List.getElem?_toArray, List.getElem?_cons_zero, List.getElem?_cons_succ, Option.some.injEq] at hoi; subst hoi
  refine ⟨?_, by rfl, fun wx hSx => ?_, ?_⟩
  rotate_left
  · obtain ⟨s1, s2, s3, s4, s5, s6⟩ := hSx
    go_simp
    try with_reducible rfl
  try simp only [Act.put, List.setIfInBounds_toArray, List.set_cons_zero, List.set_cons_succ]
  refine wpAnyS_tk (i := 17) (by as_aux_lemma => kernel_rfl) (by intro c a d v w h; cases d <;> exact h) hSS (fun oi hoi => ?_)
  simp only [List.getElem?_toArray, List.getElem?_cons_zero, List.getElem?_cons_succ, Option.some.injEq] at hoi; subst hoi
  refine ⟨?_, by rfl, fun wx hSx => ?_, ?_⟩
  rotate_left
  · obtain ⟨s1, s2, s3, s4, s5, s6⟩ := hSx
    go_simp
    try with_reducible rfl
  try simp only [Act.put, List.setIfInBounds_toArray, List.set_cons_zero, List.set_cons_succ]
  refine wpAnyS_tk (i := 18) (by as_aux_lemma => kernel_rfl) (by intro c a d v w h; cases d <;> exact h) hSS (fun oi hoi => ?_)
  simp only [List.getElem?_toArray, List.getElem?_cons_zero, List.getElem?_cons_succ, Option.some.injEq] at hoi; subst hoi
  refine ⟨?_, by rfl, fun wx hSx => ?_, ?_⟩
  rotate_left
  · obtain ⟨s1, s2, s3, s4, s5, s6⟩ := hSx
    go_simp
    try with_reducible rfl
  try simp only [Act.put, List.setIfInBounds_toArray, List.set_cons_zero, List.set_cons_succ]
  refine wpAnyS_tk (i := 19) (by as_aux_lemma => kernel_rfl) (by intro c a d v w h; cases d <;> exact h) hSS (fun oi hoi => ?_)
  simp only [List.getElem?_toArray, List.getElem?_cons_zero, List.getElem?_cons_succ, Option.some.injEq] at hoi; subst hoi
  refine ⟨?_, by rfl, fun wx hSx => ?_, ?_⟩
  rotate_left
  · obtain ⟨s1, s2, s3, s4, s5, s6⟩ := hSx
    go_simp
    try with_reducible rfl
  try simp only [Act.put, List.setIfInBounds_toArray, List.set_cons_zero, List.set_cons_succ]
  refine wpAnyS_tk (i := 20) (by as_aux_lemma => kernel_rfl) (by intro c a d v w h; cases d <;> exact h) hSS (fun oi hoi => ?_)
  simp only [List.getElem?_toArray, List.getElem?_cons_zero, List.getElem?_cons_succ, Option.some.injEq] at hoi; subst hoi
  refine ⟨?_, by rfl, fun wx hSx => ?_, ?_⟩
  rotate_left
  · obtain ⟨s1, s2, s3, s4, s5, s6⟩ := hSx
    go_simp
    try with_reducible rfl
  try simp only [Act.put, List.setIfInBounds_toArray, List.set_cons_zero, List.set_cons_succ]
  refine wpAnyS_tk (i := 21) (by as_aux_lemma => kernel_rfl) (by intro c a d v w h; cases d <;> exact h) hSS (fun oi hoi => ?_)
  simp only [List.getElem?_toArray, List.getElem?_cons_zero, List.getElem?_cons_succ, Option.some.injEq] at hoi; subst hoi
  refine ⟨?_, by rfl, fun wx hSx => ?_, ?_⟩
  rotate_left
  · obtain ⟨s1, s2, s3, s4, s5, s6⟩ := hSx
    go_simp
    try with_reducible rfl
  try simp only [Act.put, List.setIfInBounds_toArray, List.set_cons_zero, List.set_cons_succ]
  refine wpAnyS_tk (i := 22) (by as_aux_lemma => kernel_rfl) (by intro c a d v w h; cases d <;> exact h) hSS (fun oi hoi => ?_)
  simp only [List.getElem?_toArray, List.getElem?_cons_zero, List.getElem?_cons_succ, Option.some.injEq] at hoi; subst hoi
  refine ⟨?_, by rfl, fun wx hSx => ?_, ?_⟩
  rotate_left
  · obtain ⟨s1, s2, s3, s4, s5, s6⟩ := hSx
    go_simp
    try with_reducible rfl
  try simp only [Act.put, List.setIfInBounds_toArray, List.set_cons_zero, List.set_cons_succ]
  refine wpAnyS_tk (i := 23) (by as_aux_lemma => kernel_rfl) (by intro c a d v w h; cases d <;> exact h) hSS (fun oi hoi => ?_)
  simp only [List.getElem?_toArray, List.getElem?_cons_zero, List.getElem?_cons_succ, Option.some.injEq] at hoi; subst hoi
  refine ⟨?_, by rfl, fun wx hSx => ?_, ?_⟩
  rotate_left
  · obtain ⟨s1, s2, s3, s4, s5, s6⟩ := hSx
    go_simp
    try with_reducible rfl
  try simp only [Act.put, List.setIfInBounds_toArray, List.set_cons_zero, List.set_cons_succ]
  refine wpAnyS_tk (i := 24) (by as_aux_lemma => kernel_rfl) (by intro c a d v w h; cases d <;> exact h) hSS (fun oi hoi => ?_)
  simp only [List.getElem?_toArray, List.getElem?_cons_zero, List.getElem?_cons_succ, Option.some.injEq] at hoi; subst hoi
  refine ⟨?_, by rfl, fun wx hSx => ?_, ?_⟩
  rotate_left
  · obtain ⟨s1, s2, s3, s4, s5, s6⟩ := hSx
    go_simp
    try with_reducible rfl
  try simp only [Act.put, List.setIfInBounds_toArray, List.set_cons_zero, List.set_cons_succ]
  refine wpAnyS_tk (i := 25) (by as_aux_lemma => kernel_rfl) (by intro c a d v w h; cases d <;> exact h) hSS (fun oi hoi => ?_)
  simp only [List.getElem?_toArray, List.getElem?_cons_zero, List.getElem?_cons_succ, Option.some.injEq] at hoi; subst hoi
  refine ⟨?_, by rfl, fun wx hSx => ?_, ?_⟩
  rotate_left
  · obtain ⟨s1, s2, s3, s4, s5, s6⟩ := hSx
    go_simp
    try with_reducible rfl
  try simp only [Act.put, List.setIfInBounds_toArray, List.set_cons_zero, List.set_cons_succ]
  refine wpAnyS_tk (i := 26) (by as_aux_lemma => kernel_rfl) (by intro c a d v w h; cases d <;> exact h) hSS (fun oi hoi => ?_)
  simp only [List.getElem?_toArray, List.getElem?_cons_zero, List.getElem?_cons_succ, Option.some.injEq] at hoi; subst hoi
  refine ⟨?_, by rfl, fun wx hSx => ?_, ?_⟩
  rotate_left
  · obtain ⟨s1, s2, s3, s4, s5, s6⟩ := hSx
    go_simp
    try with_reducible rfl
  try simp only [Act.put, List.setIfInBounds_toArray, List.set_cons_zero, List.set_cons_succ]
  refine wpAnyS_tk (i := 27) (by as_aux_lemma => kernel_rfl) (by intro c a d v w h; cases d <;> exact h) hSS (fun oi hoi => ?_)
  simp only [List.getElem?_toArray, List.getElem?_cons_zero, List.getElem?_cons_succ, Option.some.injEq] at hoi; subst hoi
  refine ⟨?_, by rfl, fun wx hSx => ?_, ?_⟩
  rotate_left
  · obtain ⟨s1, s2, s3, s4, s5, s6⟩ := hSx
    go_simp
    try with_reducible rfl
  try simp only [Act.put, List.setIfInBounds_toArray, List.set_cons_zero, List.set_cons_succ]
  refine wpAnyS_tk (i := 28) (by as_aux_lemma => kernel_rfl) (by intro c a d v w h; cases d <;> exact h) hSS (fun oi hoi => ?_)
  simp only [List.getElem?_toArray, List.getElem?_cons_zero, List.getElem?_cons_succ, Option.some.injEq] at hoi; subst hoi
  refine ⟨?_, by rfl, fun wx hSx => ?_, ?_⟩
  rotate_left
  · obtain ⟨s1, s2, s3, s4, s5, s6⟩ := hSx
    go_simp
    try with_reducible rfl
  try simp only [Act.put, List.setIfInBounds_toArray, List.set_cons_zero, List.set_cons_succ]
  refine wpAnyS_tk (i := 29) (by as_aux_lemma => kernel_rfl) (by intro c a d v w h; cases d <;> exact h) hSS (fun oi hoi => ?_)
  simp only [List.getElem?_toArray, List.getElem?_cons_zero, List.getElem?_cons_succ, Option.some.injEq] at hoi; subst hoi
  refine ⟨?_, by rfl, fun wx hSx => ?_, ?_⟩
  rotate_left
  · obtain ⟨s1, s2, s3, s4, s5, s6⟩ := hSx
    go_simp
    try with_reducible rfl
  try simp only [Act.put, List.setIfInBounds_toArray, List.set_cons_zero, List.set_cons_succ]
  refine wpAnyS_tk (i := 30) (by as_aux_lemma => kernel_rfl) (by intro c a d v w h; cases d <;> exact h) hSS (fun oi hoi => ?_)
  simp only [List.getElem?_toArray, List.getElem?_cons_zero, List.getElem?_cons_succ, Option.some.injEq] at hoi; subst hoi
  refine ⟨?_, by rfl, fun wx hSx => ?_, ?_⟩
  rotate_left
  · obtain ⟨s1, s2, s3, s4, s5, s6⟩ := hSx
    go_simp
    try with_reducible rfl
  try simp only [Act.put, List.setIfInBounds_toArray, List.set_cons_zero, List.set_cons_succ]
  refine wpAnyS_tk (i := 31) (by as_aux_lemma => kernel_rfl) (by intro c a d v w h; cases d <;> exact h) hSS (fun oi hoi => ?_)
  simp only [List.getElem?_toArray, List.getElem?_cons_zero, List.getElem?_cons_succ, Option.some.injEq] at hoi; subst hoi
  refine ⟨?_, by rfl, fun wx hSx => ?_, ?_⟩
  rotate_left
  · obtain ⟨s1, s2, s3, s4, s5, s6⟩ := hSx
    go_simp
    try with_reducible rfl
  try simp only [Act.put, List.setIfInBounds_toArray, List.set_cons_zero, List.set_cons_succ]
  refine wpAnyS_tk (i := 32) (by as_aux_lemma => kernel_rfl) (by intro c a d v w h; cases d <;> exact h) hSS (fun oi hoi => ?_)
  simp only [List.getElem?_toArray, List.getElem?_cons_zero, List.getElem?_cons_succ, Option.some.injEq] at hoi; subst hoi
  refine ⟨?_, by rfl, fun wx hSx => ?_, ?_⟩
  rotate_left
  · obtain ⟨s1, s2, s3, s4, s5, s6⟩ := hSx
    go_simp
    try with_reducible rfl
  try simp only [Act.put, List.setIfInBounds_toArray, List.set_cons_zero, List.set_cons_succ]
  refine wpAnyS_tk (i := 33) (by as_aux_lemma => kernel_rfl) (by intro c a d v w h; cases d <;> exact h) hSS (fun oi hoi => ?_)
  simp only [List.getElem?_toArray, List.getElem?_cons_zero, List.getElem?_cons_succ, Option.some.injEq] at hoi; subst hoi
  refine ⟨?_, by rfl, fun wx hSx => ?_, ?_⟩
  rotate_left
  · obtain ⟨s1, s2, s3, s4, s5, s6⟩ := hSx
    go_simp
    try with_reducible rfl
  try simp only [Act.put, List.setIfInBounds_toArray, List.set_cons_zero, List.set_cons_succ]
  refine wpAnyS_tk (i := 34) (by as_aux_lemma => kernel_rfl) (by intro c a d v w h; cases d <;> exact h) hSS (fun oi hoi => ?_)
  simp only [List.getElem?_toArray, List.getElem?_cons_zero, List.getElem?_cons_succ, Option.some.injEq] at hoi; subst hoi
  refine ⟨?_, by rfl, fun wx hSx => ?_, ?_⟩
  rotate_left
  · obtain ⟨s1, s2, s3, s4, s5, s6⟩ := hSx
    go_simp
    try with_reducible rfl
  try simp only [Act.put, List.setIfInBounds_toArray, List.set_cons_zero, List.set_cons_succ]
  refine wpAnyS_tk (i := 35) (by as_aux_lemma => kernel_rfl) (by intro c a d v w h; cases d <;> exact h) hSS (fun oi hoi => ?_)
  simp only [List.getElem?_toArray, List.getElem?_cons_zero, List.getElem?_cons_succ, Option.some.injEq] at hoi; subst hoi
  refine ⟨?_, by rfl, fun wx hSx => ?_, ?_⟩
  rotate_left
  · obtain ⟨s1, s2, s3, s4, s5, s6⟩ := hSx
    go_simp
    try with_reducible rfl
  try simp only [Act.put, List.setIfInBounds_toArray, List.set_cons_zero, List.set_cons_succ]
  refine wpAnyS_tk (i := 36) (by as_aux_lemma => kernel_rfl) (by intro c a d v w h; cases d <;> exact h) hSS (fun oi hoi => ?_)
  simp only [List.getElem?_toArray, List.getElem?_cons_zero, List.getElem?_cons_succ, Option.some.injEq] at hoi; subst hoi
  refine ⟨?_, by rfl, fun wx hSx => ?_, ?_⟩
  rotate_left
  · obtain ⟨s1, s2, s3, s4, s5, s6⟩ := hSx
    go_simp
    try with_reducible rfl
  try simp only [Act.put, List.setIfInBounds_toArray, List.set_cons_zero, List.set_cons_succ]
  refine wpAnyS_tk (i := 37) (by as_aux_lemma => kernel_rfl) (by intro c a d v w h; cases d <;> exact h) hSS (fun oi hoi => ?_)
  simp only [List.getElem?_toArray, List.getElem?_cons_zero, List.getElem?_cons_succ, Option.some.injEq] at hoi; subst hoi
  refine ⟨?_, by rfl, fun wx hSx => ?_, ?_⟩
  rotate_left
  · obtain ⟨s1, s2, s3, s4, s5, s6⟩ := hSx
    go_simp
    try with_reducible rfl
  try simp only [Act.put, List.setIfInBounds_toArray, List.set_cons_zero, List.set_cons_succ]
  refine wpAnyS_tk (i := 38) (by as_aux_lemma => kernel_rfl) (by intro c a d v w h; cases d <;> exact h) hSS (fun oi hoi => ?_)
  simp only [List.getElem?_toArray, List.getElem?_cons_zero, List.getElem?_cons_succ, Option.some.injEq] at hoi; subst hoi
  refine ⟨?_, by rfl, fun wx hSx => ?_, ?_⟩
  rotate_left
  · obtain ⟨s1, s2, s3, s4, s5, s6⟩ := hSx
    go_simp
    try with_reducible rfl
  try simp only [Act.put, List.setIfInBounds_toArray, List.set_cons_zero, List.set_cons_succ]
  refine wpAnyS_tk (i := 39) (by as_aux_lemma => kernel_rfl) (by intro c a d v w h; cases d <;> exact h) hSS (fun oi hoi => ?_)
  simp only [List.getElem?_toArray, List.getElem?_cons_zero, List.getElem?_cons_succ, Option.some.injEq] at hoi; subst hoi
  refine ⟨?_, by rfl, fun wx hSx => ?_, ?_⟩
  rotate_left
  · obtain ⟨s1, s2, s3, s4, s5, s6⟩ := hSx
    go_simp
    try with_reducible rfl
  try simp only [Act.put, List.setIfInBounds_toArray, List.set_cons_zero, List.set_cons_succ]
  refine wpAnyS_tk (i := 40) (by as_aux_lemma => kernel_rfl) (by intro c a d v w h; cases d <;> exact h) hSS (fun oi hoi => ?_)
  simp only [List.getElem?_toArray, List.getElem?_cons_zero, List.getElem?_cons_succ, Option.some.injEq] at hoi; subst hoi
  refine ⟨?_, by rfl, fun wx hSx => ?_, ?_⟩
  rotate_left
  · obtain ⟨s1, s2, s3, s4, s5, s6⟩ := hSx
    go_simp
    try with_reducible rfl
  try simp only [Act.put, List.setIfInBounds_toArray, List.set_cons_zero, List.set_cons_succ]
  refine wpAnyS_tk (i := 41) (by as_aux_lemma => kernel_rfl) (by intro c a d v w h; cases d <;> exact h) hSS (fun oi hoi => ?_)
  simp only [List.getElem?_toArray, List.getElem?_cons_zero, List.getElem?_cons_succ, Option.some.injEq] at hoi; subst hoi
  refine ⟨?_, by rfl, fun wx hSx => ?_, ?_⟩
  rotate_left
  · obtain ⟨s1, s2, s3, s4, s5, s6⟩ := hSx
    go_simp
    try with_reducible rfl
  try simp only [Act.put, List.setIfInBounds_toArray, List.set_cons_zero, List.set_cons_succ]
  refine wpAnyS_tk (i := 42) (by as_aux_lemma => kernel_rfl) (by intro c a d v w h; cases d <;> exact h) hSS (fun oi hoi => ?_)
  simp only [List.getElem?_toArray, List.getElem?_cons_zero, List.getElem?_cons_succ, Option.some.injEq] at hoi; subst hoi
  refine ⟨?_, by rfl, fun wx hSx => ?_, ?_⟩
  rotate_left
  · obtain ⟨s1, s2, s3, s4, s5, s6⟩ := hSx
    go_simp
    try with_reducible rfl
  try simp only [Act.put, List.setIfInBounds_toArray, List.set_cons_zero, List.set_cons_succ]
  refine wpAnyS_tk (i := 43) (by as_aux_lemma => kernel_rfl) (by intro c a d v w h; cases d <;> exact h) hSS (fun oi hoi => ?_)
  simp only [List.getElem?_toArray, List.getElem?_cons_zero, List.getElem?_cons_succ, Option.some.injEq] at hoi; subst hoi
  refine ⟨?_, by rfl, fun wx hSx => ?_, ?_⟩
  rotate_left
  · obtain ⟨s1, s2, s3, s4, s5, s6⟩ := hSx
    go_simp
    try with_reducible rfl
  try simp only [Act.put, List.setIfInBounds_toArray, List.set_cons_zero, List.set_cons_succ]
  refine wpAnyS_tk (i := 44) (by as_aux_lemma => kernel_rfl) (by intro c a d v w h; cases d <;> exact h) hSS (fun oi hoi => ?_)
  simp only [List.getElem?_toArray, List.getElem?_cons_zero, List.getElem?_cons_succ, Option.some.injEq] at hoi; subst hoi
  refine ⟨?_, by rfl, fun wx hSx => ?_, ?_⟩
  rotate_left
  · obtain ⟨s1, s2, s3, s4, s5, s6⟩ := hSx
    go_simp
    try with_reducible rfl
  try simp only [Act.put, List.setIfInBounds_toArray, List.set_cons_zero, List.set_cons_succ]
  refine wpAnyS_tk (i := 45) (by as_aux_lemma => kernel_rfl) (by intro c a d v w h; cases d <;> exact h) hSS (fun oi hoi => ?_)
  simp only [List.getElem?_toArray, List.getElem?_cons_zero, List.getElem?_cons_succ, Option.some.injEq] at hoi; subst hoi
  refine ⟨?_, by rfl, fun wx hSx => ?_, ?_⟩
  rotate_left
  · obtain ⟨s1, s2, s3, s4, s5, s6⟩ := hSx
    go_simp
    try with_reducible rfl
  try simp only [Act.put, List.setIfInBounds_toArray, List.set_cons_zero, List.set_cons_succ]
  refine wpAnyS_tk (i := 46) (by as_aux_lemma => kernel_rfl) (by intro c a d v w h; cases d <;> exact h) hSS (fun oi hoi => ?_)
  simp only [List.getElem?_toArray, List.getElem?_cons_zero, List.getElem?_cons_succ, Option.some.injEq] at hoi; subst hoi
  refine ⟨?_, by rfl, fun wx hSx => ?_, ?_⟩
  rotate_left
  · obtain ⟨s1, s2, s3, s4, s5, s6⟩ := hSx
    go_simp
    try with_reducible rfl
  try simp only [Act.put, List.setIfInBounds_toArray, List.set_cons_zero, List.set_cons_succ]
  refine wpAnyS_one (i := 47) (by as_aux_lemma => kernel_rfl) ?_
  intro oi hoi K hK
  simp only [List.getElem?_toArray, List.getElem?_cons_zero, List.getElem?_cons_succ, Option.some.injEq] at hoi; subst hoi
  go_simp
  refine hK.out _ _ (fun h => absurd h (by decide)) ?_
  clear hK K
  try simp only [Act.put, List.setIfInBounds_toArray, List.set_cons_zero, List.set_cons_succ]
  refine wpAnyS_done (by as_aux_lemma => kernel_rfl) ?_ _
  clear hSS
  go_wp2
  go_ret
  exact ⟨rfl, HZ.out.drew⟩
end Go.Proofs.YtijkkompnfpdeaaGreatDoor
set_option linter.unusedVariables false
set_option linter.unusedSimpArgs false
namespace Go.Proofs.YtijkkompnfpdeaaGreatDoor
open Go.RowKit Go.Joins Go.Shelf
attribute [local go_sem] Oper.semAt_some

set_option maxHeartbeats 4000000 in
set_option maxRecDepth 20000 in
theorem rbytes_of {w0 w : World} {r : List Thing} {b : Nat} {c : List I4} {s : Cs} (H : Hp w0 w (DR b c s :: r)) :
    Calls Tryz.prog 25 #[.pointer (some ⟨b, 0, none⟩)] w fun e w' => ∃ v, e = .returned v ∧ Hp w0 w' (OwnU8 v s.mem :: DR b c s :: r) := by
  obtain ⟨mb, vc, hl, hm, H2⟩ := dr_open H
  have C9 : w.cell? ⟨b, 9, none⟩ = some (.slice (some ⟨mb, 0, none⟩) s.mem.length s.mem.length) := db_cell H2 hl 1
  have hd := mb_cells (H2.pull 1 rfl)
  have hda : ∀ j u, (s.mem.map bv)[j]? = some u → w.cell? ((⟨mb, 0, none⟩ : Addr).add j) = some u := fun j u hj => by
    obtain ⟨hlt, e⟩ := List.getElem?_eq_some_iff.1 hj
    obtain ⟨g', o', e', hcell⟩ := hd j hlt
    cases e'
    rw [Addr.add_lit, hcell, e]
  have HDA := Lib.hid hda
  have HH := Lib.hid H
  have HM := Lib.hid hm
  obtain ⟨i0, hi, hz0, hz1, hz2⟩ := info_parts info_b8
  clear H H2 hl hm hda hd
  go_enter Tryz.func25, Tryz.ntmps25
  go_wp2_with (at_builtin; refine wpList_append_hp rfl _ _ 22 rfl 5 i0 _ 1 1 Tryz.underlying22 hi hz0 hz1 hz2 rfl (by decide) (own_nil HH.out 5 1) rfl ⟨mb, 0, none⟩ s.mem.length s.mem.length (s.mem.map bv) rfl (by simp) HDA.out (by simp [bv, Value.oneCell']) (by have := HM.out; omega) (by omega) ?_; intro v' wq HA0)
  have HA := Lib.hid (own_as HA0 (Nat.zero_add s.mem.length) (List.nil_append (s.mem.map bv)))
  obtain ⟨av, nv, rfl⟩ := own_slice HA0
  clear HA0 HH HDA
  go_wp2
  go_ret
  exact ⟨_, rfl, HA.out⟩
end Go.Proofs.YtijkkompnfpdeaaGreatDoor
set_option linter.unusedVariables false
set_option linter.unusedSimpArgs false
namespace Go.Proofs.YtijkkompnfpdeaaGreatDoor
open Go.RowKit Go.Joins Go.Shelf
attribute [local go_sem] Oper.semAt_some

theorem w4_byte (v : UInt32) (k : Nat) (hk : k < 4) : ((v.toNat : Int) / 2 ^ (24 - 8 * k)) % 256 = (((w4 v).getD k 0).toNat : Int) := by
  obtain rfl | rfl | rfl | rfl : k = 0 ∨ k = 1 ∨ k = 2 ∨ k = 3 := by omega
  · show (v.toNat : Int) / 2 ^ 24 % 256 = ((UInt8.ofNat (v.toNat / 16777216)).toNat : Int)
    simp
  · show (v.toNat : Int) / 2 ^ 16 % 256 = ((UInt8.ofNat (v.toNat / 65536)).toNat : Int)
    simp
  · show (v.toNat : Int) / 2 ^ 8 % 256 = ((UInt8.ofNat (v.toNat / 256)).toNat : Int)
    simp
  · show (v.toNat : Int) / 2 ^ 0 % 256 = ((UInt8.ofNat v.toNat).toNat : Int)
    simp
theorem w4_next (m : List UInt8) (p : Nat) (v : UInt32) (k : Nat) (hk : k < 4) : (layB m p ((w4 v).take k)).set (p + k) ((w4 v).getD k 0) = layB m p ((w4 v).take (k + 1)) := by
  obtain rfl | rfl | rfl | rfl : k = 0 ∨ k = 1 ∨ k = 2 ∨ k = 3 := by omega
  all_goals rfl
set_option maxHeartbeats 8000000 in
set_option maxRecDepth 20000 in
theorem mv12y {w0 w : World} {r : List Thing} {b : Nat} {c : List I4} {s : Cs} (o x y z : UInt8) (ho : o.toNat = 12) (hx : x.toNat < 8) (hy : y.toNat < 8) (hf : (plc s (o, x, y, z)).toNat + 4 ≤ s.mem.length) (H : Hp w0 w (DR b c s :: r)) :
    Calls Tryz.prog 43 #[.pointer (some ⟨b, 0, none⟩), i4v (o, x, y, z)] w fun e w' => e = .returned (.bool true) ∧ Hp w0 w' (DR b c ({ s with mem := layB s.mem (plc s (o, x, y, z)).toNat (w4 (rg s x)) }) :: r) := by
  obtain ⟨mb, vc, hl, hm, H2⟩ := dr_open H
  have H3 := blk_new H2 (.cells #[bv o, bv x, bv y, bv z] 26)
  have H4 : Hid (Hp w0 _ (XB w.heap.size (o, x, y, z) :: _)) := Lib.hid H3
  have HM := Lib.hid hm
  have HL := Lib.hid hl
  have HF := Lib.hid hf
  have HO := Lib.hid ho
  have Q3 := Lib.hid (plc_mod s o x y z)
  generalize plc s (o, x, y, z) = p at *
  clear H H2 H3 hm hl hf ho
  have hx8 : (x.toNat : Int) < 8 := by omega
  have hy8 : (y.toNat : Int) < 8 := by omega
  go_enter Tryz.func43, Tryz.ntmps43
  go_upto_region 1 with fail
  generalize w.heap.size = xb at *
  generalize (w.alloc (.cells #[bv o, bv x, bv y, bv z] 26)) = W at *
  have x2 : W.cell? ⟨xb, 2, none⟩ = some (bv y) := cell_blk (blk_get H4.out) 2
  have x3 : W.cell? ⟨xb, 3, none⟩ = some (bv z) := cell_blk (blk_get H4.out) 3
  have gy : W.cell? ⟨b, y.toNat, none⟩ = some (wv (rg s y)) := db_reg H4.out.tail HL.out y.toNat hy
  have k1 := w8_32 z
  go_quiet (fail)
  have HQ := Q3.out
  rw [HQ]
  clear HQ Q3 x2 x3 gy k1
  have H5 := Lib.hid (H4.out.drewN nq)
  generalize W.drewN nq = W1 at *
  clear H4
  have x0 : W1.cell? ⟨xb, 0, none⟩ = some (bv o) := cell_blk (blk_get H5.out) 0
  rw [show bv o = .int .u8 12 by unfold bv; rw [HO.out]; rfl] at x0
  have c9 : W1.cell? ⟨b, 9, none⟩ = some (.slice (some ⟨mb, 0, none⟩) s.mem.length s.mem.length) := db_cell H5.out.tail HL.out 1
  go_wp2_with fail
  refine (room_c b mb s.mem.length 4 p (by omega) c9).mono ?_; rintro e w2 ⟨rfl, rfl⟩
  rw [decide_eq_true HF.out]
  have HX : Hid (Hp w0 w2 (XB xb (o, x, y, z) :: DB b mb s vc :: MB mb (layB s.mem p.toNat ((w4 (rg s x)).take 0)) :: OwnI4 vc c :: r)) := Lib.hid H5.out
  clear H5 x0 c9
  go_wp2
  go_loopw [6] (fun s6 wr => ∃ k : Nat, k ≤ 4 ∧ s6 = .int .i64 (k : Int) ∧ Hid (Hp w0 wr (XB xb (o, x, y, z) :: DB b mb s vc :: MB mb (layB s.mem p.toNat ((w4 (rg s x)).take k)) :: OwnI4 vc c :: r))) (fun s6 _ => 4 - (intOf s6).toNat)
  case atStart => exact ⟨0, by omega, rfl, HX⟩
  case round =>
    obtain ⟨k, hk, rfl, HK⟩ := hrel
    clear HX
    by_cases hlt : k < 4
    · have x1 : wr.cell? ⟨xb, 1, none⟩ = some (bv x) := cell_blk (blk_get HK.out) 1
      have gx : wr.cell? ⟨b, x.toNat, none⟩ = some (wv (rg s x)) := db_reg HK.out.tail HL.out x.toNat hx
      have c9 : wr.cell? ⟨b, 9, none⟩ = some (.slice (some ⟨mb, 0, none⟩) s.mem.length s.mem.length) := db_cell HK.out.tail HL.out 1
      have l0 := HF.out
      have l1 := HM.out
      have hml : (layB s.mem p.toNat ((w4 (rg s x)).take k)).length = s.mem.length := layB_len _ _ _
      have cm := mb_cell (HK.out.pull 2 rfl) (k := p.toNat + k) (by rw [hml]; omega)
      have fz := free_blk (blk_get (HK.out.pull 2 rfl)) (p.toNat + k)
      have j0 : IntKind.i64.wrap (p.toNat : Int) = (p.toNat : Int) := by rw [IntKind.wrap_i64]; omega
      have j1 : IntKind.i64.wrap ((p.toNat : Int) + (k : Int)) = (p.toNat : Int) + (k : Int) := by rw [IntKind.wrap_i64]; omega
      have j2 : IntKind.i64.wrap (8 * (k : Int)) = 8 * (k : Int) := by rw [IntKind.wrap_i64]; omega
      have j3 : IntKind.i64.wrap (24 - 8 * (k : Int)) = 24 - 8 * (k : Int) := by rw [IntKind.wrap_i64]; omega
      have j4 : IntKind.i64.wrap ((k : Int) + 1) = (k : Int) + 1 := by rw [IntKind.wrap_i64]; omega
      have i1 : ((p.toNat : Int) + (k : Int)).toNat = p.toNat + k := by omega
      have m1 : (p.toNat : Int) + (k : Int) < (s.mem.length : Int) := by omega
      have n1 : 0 ≤ (p.toNat : Int) + (k : Int) := by omega
      have n2 : ¬ (24 - 8 * (k : Int) < 0) := by omega
      have i2 : (24 - 8 * (k : Int)).toNat = 24 - 8 * k := by omega
      have i3 : min (24 - 8 * k) 32 = 24 - 8 * k := by omega
      clear l0 l1
      generalize (layB s.mem p.toNat ((w4 (rg s x)).take k)).getD (p.toNat + k) 0 = old at *
      have hmw : (layB s.mem p.toNat ((w4 (rg s x)).take k)).set (p.toNat + k) ((w4 (rg s x)).getD k 0) = layB s.mem p.toNat ((w4 (rg s x)).take (k + 1)) := w4_next s.mem p.toNat (rg s x) k hlt
      have HS := blk_set (HK.out.pull 2 rfl) (p.toNat + k) (bv ((w4 (rg s x)).getD k 0))
      have e : ((layB s.mem p.toNat ((w4 (rg s x)).take k)).map bv).toArray.setIfInBounds (p.toNat + k) (bv ((w4 (rg s x)).getD k 0)) = ((layB s.mem p.toNat ((w4 (rg s x)).take (k + 1))).map bv).toArray := by rw [← hmw]; simp [List.map_set]
      rw [e] at HS
      have HS2 := Lib.hid ((HS.pull 2 rfl).pull 2 rfl).drew
      have WB := Lib.hid (w4_byte (rg s x) k hlt)
      have HLT := Lib.hid hlt
      clear HS e hmw HK
      go_wp2
      go_region
      rw [WB.out]
      go_wp2
      go_roundw
      case rel => exact ⟨k + 1, by have := HLT.out; omega, by go_num, HS2⟩
      case measure => have := HLT.out; simp [intOf]; omega
    · obtain rfl : k = 4 := by omega
      have hml : (layB s.mem p.toNat (w4 (rg s x))).length = s.mem.length := layB_len _ _ _
      have HZ := Lib.hid (dr_shut (b := b) (mb := mb) (vc := vc) (c := c) (s := { s with mem := layB s.mem p.toNat (w4 (rg s x)) }) (r := r) HL.out (by show (layB s.mem p.toNat (w4 (rg s x))).length ≤ 4096; rw [hml]; exact HM.out) (by
        have e2 : coreR { s with mem := layB s.mem p.toNat (w4 (rg s x)) } mb vc = coreR s mb vc := by unfold coreR; simp only [hml]
        show Hp w0 _ (Blk b (.cells (coreR { s with mem := layB s.mem p.toNat (w4 (rg s x)) } mb vc).toArray 56 (0, 0)) :: MB mb (layB s.mem p.toNat (w4 (rg s x))) :: OwnI4 vc c :: r)
        rw [e2]; exact HK.out.tail))
      clear HK hml hlt hk
      go_wp2
      go_ret
      exact ⟨rfl, HZ.out⟩
end Go.Proofs.YtijkkompnfpdeaaGreatDoor
set_option linter.unusedVariables false
set_option linter.unusedSimpArgs false
namespace Go.Proofs.YtijkkompnfpdeaaGreatDoor
open Go.RowKit Go.Joins Go.Shelf

/-- What is left of it: done, or at fault. -/
def MovP (w0 : World) (r : List Thing) (b : Nat) (c : List I4) (s : Cs) (q : Option (Cs × Int)) (e : Ending) (w' : World) : Prop :=
  match q with
  | some (t, _) => e = .returned (.bool true) ∧ Hp w0 w' (DR b c t :: r)
  | none => e = .returned (.bool false) ∧ Hp w0 w' (DR b c s :: r)
theorem moves_all {w0 w : World} {r : List Thing} {b : Nat} {c : List I4} {s : Cs} (o x y z : UInt8) (hk : ik (o, x, y, z) = true) (h1 : 11 ≤ o.toNat) (h2 : o.toNat ≤ 14) (H : Hp w0 w (DR b c s :: r)) :
    Calls Tryz.prog 43 #[.pointer (some ⟨b, 0, none⟩), i4v (o, x, y, z)] w (MovP w0 r b c s (doesC (o, x, y, z) s)) := by
  have R := ik_regs hk
  have hx := R.rx (by omega) (by omega)
  have hy := R.ry (by omega) (by omega)
  have ho : o.toNat = 11 ∨ o.toNat = 12 ∨ o.toNat = 13 ∨ o.toNat = 14 := by omega
  unfold doesC
  rcases ho with h | h | h | h <;> simp only [h]
  · by_cases hf : (plc s (o, x, y, z)).toNat + 4 ≤ s.mem.length
    · rw [if_pos hf]; exact (mv11y (s := s) o x y z h hx hy hf H).mono fun e w' h => h
    · rw [if_neg hf]; exact (mv11n (s := s) o x y z h hx hy hf H).mono fun e w' h => h
  · by_cases hf : (plc s (o, x, y, z)).toNat + 4 ≤ s.mem.length
    · rw [if_pos hf]; exact (mv12y (s := s) o x y z h hx hy hf H).mono fun e w' h => h
    · rw [if_neg hf]; exact (mv12n (s := s) o x y z h hx hy hf H).mono fun e w' h => h
  · by_cases hf : (plc s (o, x, y, z)).toNat + 1 ≤ s.mem.length
    · rw [if_pos hf]; exact (mv13y (s := s) o x y z h hx hy hf H).mono fun e w' h => h
    · rw [if_neg hf]; exact (mv13n (s := s) o x y z h hx hy hf H).mono fun e w' h => h
  · by_cases hf : (plc s (o, x, y, z)).toNat + 1 ≤ s.mem.length
    · rw [if_pos hf]; exact (mv14y (s := s) o x y z h hx hy hf H).mono fun e w' h => h
    · rw [if_neg hf]; exact (mv14n (s := s) o x y z h hx hy hf H).mono fun e w' h => h
end Go.Proofs.YtijkkompnfpdeaaGreatDoor
