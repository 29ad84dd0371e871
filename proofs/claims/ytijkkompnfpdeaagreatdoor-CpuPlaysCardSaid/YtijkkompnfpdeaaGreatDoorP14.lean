/- The document's core: what finds and leaves bytes: walked. -/
import Derived.Test.YtijkkompnfpdeaaGreatDoorP13
set_option linter.unusedVariables false
set_option linter.unusedSimpArgs false
namespace Go.Proofs.YtijkkompnfpdeaaGreatDoor
open Go.RowKit Go.Joins Go.Shelf
attribute [local go_sem] Oper.semAt_some

theorem plc_mod (s : Cs) (o x y z : UInt8) : (((rg s y).toNat : Int) + (z.toNat : Int)) % 4294967296 = ((plc s (o, x, y, z)).toNat : Int) := by
  have h := u32_add (rg s y) (UInt32.ofNat z.toNat)
  rw [IntKind.wrap_u32, UInt32.toNat_ofNat', Nat.mod_eq_of_lt (by have := z.toNat_lt; omega)] at h
  exact h
set_option maxHeartbeats 8000000 in
set_option maxRecDepth 20000 in
theorem mv11n {w0 w : World} {r : List Thing} {b : Nat} {c : List I4} {s : Cs} (o x y z : UInt8) (ho : o.toNat = 11) (hx : x.toNat < 8) (hy : y.toNat < 8) (hf : ¬ (plc s (o, x, y, z)).toNat + 4 ≤ s.mem.length) (H : Hp w0 w (DR b c s :: r)) :
    Calls Tryz.prog 43 #[.pointer (some ⟨b, 0, none⟩), i4v (o, x, y, z)] w fun e w' => e = .returned (.bool false) ∧ Hp w0 w' (DR b c s :: r) := by
  obtain ⟨mb, vc, hl, hm, H2⟩ := dr_open H
  have H3 := blk_new H2 (.cells #[bv o, bv x, bv y, bv z] 26)
  have H4 : Hid (Hp w0 _ (XB w.heap.size (o, x, y, z) :: _)) := Lib.hid H3
  have HM := Lib.hid hm
  have HL := Lib.hid hl
  have HF := Lib.hid hf
  have HO := Lib.hid ho
  have Q3 := Lib.hid (plc_mod s o x y z)
  generalize plc s (o, x, y, z) = p at *
  clear H H2 H3 hm hl hf ho
  have hx8 : (x.toNat : Int) < 8 := by omega
  have hy8 : (y.toNat : Int) < 8 := by omega
  go_enter Tryz.func43, Tryz.ntmps43
  go_upto_region 1 with fail
  generalize w.heap.size = xb at *
  generalize (w.alloc (.cells #[bv o, bv x, bv y, bv z] 26)) = W at *
  have x2 : W.cell? ⟨xb, 2, none⟩ = some (bv y) := cell_blk (blk_get H4.out) 2
  have x3 : W.cell? ⟨xb, 3, none⟩ = some (bv z) := cell_blk (blk_get H4.out) 3
  have gy : W.cell? ⟨b, y.toNat, none⟩ = some (wv (rg s y)) := db_reg H4.out.tail HL.out y.toNat hy
  have k1 := w8_32 z
  go_quiet (fail)
  have HQ := Q3.out
  rw [HQ]
  clear HQ Q3 x2 x3 gy k1
  have H5 := Lib.hid (H4.out.drewN nq)
  generalize W.drewN nq = W1 at *
  clear H4
  have x0 : W1.cell? ⟨xb, 0, none⟩ = some (bv o) := cell_blk (blk_get H5.out) 0
  rw [show bv o = .int .u8 11 by unfold bv; rw [HO.out]; rfl] at x0
  have c9 : W1.cell? ⟨b, 9, none⟩ = some (.slice (some ⟨mb, 0, none⟩) s.mem.length s.mem.length) := db_cell H5.out.tail HL.out 1
  go_wp2_with fail
  refine (room_c b mb s.mem.length 4 p (by omega) c9).mono ?_; rintro e w2 ⟨rfl, rfl⟩
  rw [decide_eq_false HF.out]
  have HZ := Lib.hid (dr_shut HL.out HM.out H5.out.tail)
  clear H5 x0 c9
  go_wp2
  go_ret
  exact ⟨rfl, HZ.out⟩
set_option maxHeartbeats 8000000 in
set_option maxRecDepth 20000 in
theorem mv12n {w0 w : World} {r : List Thing} {b : Nat} {c : List I4} {s : Cs} (o x y z : UInt8) (ho : o.toNat = 12) (hx : x.toNat < 8) (hy : y.toNat < 8) (hf : ¬ (plc s (o, x, y, z)).toNat + 4 ≤ s.mem.length) (H : Hp w0 w (DR b c s :: r)) :
    Calls Tryz.prog 43 #[.pointer (some ⟨b, 0, none⟩), i4v (o, x, y, z)] w fun e w' => e = .returned (.bool false) ∧ Hp w0 w' (DR b c s :: r) := by
  obtain ⟨mb, vc, hl, hm, H2⟩ := dr_open H
  have H3 := blk_new H2 (.cells #[bv o, bv x, bv y, bv z] 26)
  have H4 : Hid (Hp w0 _ (XB w.heap.size (o, x, y, z) :: _)) := Lib.hid H3
  have HM := Lib.hid hm
  have HL := Lib.hid hl
  have HF := Lib.hid hf
  have HO := Lib.hid ho
  have Q3 := Lib.hid (plc_mod s o x y z)
  generalize plc s (o, x, y, z) = p at *
  clear H H2 H3 hm hl hf ho
  have hx8 : (x.toNat : Int) < 8 := by omega
  have hy8 : (y.toNat : Int) < 8 := by omega
  go_enter Tryz.func43, Tryz.ntmps43
  go_upto_region 1 with fail
  generalize w.heap.size = xb at *
  generalize (w.alloc (.cells #[bv o, bv x, bv y, bv z] 26)) = W at *
  have x2 : W.cell? ⟨xb, 2, none⟩ = some (bv y) := cell_blk (blk_get H4.out) 2
  have x3 : W.cell? ⟨xb, 3, none⟩ = some (bv z) := cell_blk (blk_get H4.out) 3
  have gy : W.cell? ⟨b, y.toNat, none⟩ = some (wv (rg s y)) := db_reg H4.out.tail HL.out y.toNat hy
  have k1 := w8_32 z
  go_quiet (fail)
  have HQ := Q3.out
  rw [HQ]
  clear HQ Q3 x2 x3 gy k1
  have H5 := Lib.hid (H4.out.drewN nq)
  generalize W.drewN nq = W1 at *
  clear H4
  have x0 : W1.cell? ⟨xb, 0, none⟩ = some (bv o) := cell_blk (blk_get H5.out) 0
  rw [show bv o = .int .u8 12 by unfold bv; rw [HO.out]; rfl] at x0
  have c9 : W1.cell? ⟨b, 9, none⟩ = some (.slice (some ⟨mb, 0, none⟩) s.mem.length s.mem.length) := db_cell H5.out.tail HL.out 1
  go_wp2_with fail
  refine (room_c b mb s.mem.length 4 p (by omega) c9).mono ?_; rintro e w2 ⟨rfl, rfl⟩
  rw [decide_eq_false HF.out]
  have HZ := Lib.hid (dr_shut HL.out HM.out H5.out.tail)
  clear H5 x0 c9
  go_wp2
  go_ret
  exact ⟨rfl, HZ.out⟩
set_option maxHeartbeats 8000000 in
set_option maxRecDepth 20000 in
theorem mv13n {w0 w : World} {r : List Thing} {b : Nat} {c : List I4} {s : Cs} (o x y z : UInt8) (ho : o.toNat = 13) (hx : x.toNat < 8) (hy : y.toNat < 8) (hf : ¬ (plc s (o, x, y, z)).toNat + 1 ≤ s.mem.length) (H : Hp w0 w (DR b c s :: r)) :
    Calls Tryz.prog 43 #[.pointer (some ⟨b, 0, none⟩), i4v (o, x, y, z)] w fun e w' => e = .returned (.bool false) ∧ Hp w0 w' (DR b c s :: r) := by
  obtain ⟨mb, vc, hl, hm, H2⟩ := dr_open H
  have H3 := blk_new H2 (.cells #[bv o, bv x, bv y, bv z] 26)
  have H4 : Hid (Hp w0 _ (XB w.heap.size (o, x, y, z) :: _)) := Lib.hid H3
  have HM := Lib.hid hm
  have HL := Lib.hid hl
  have HF := Lib.hid hf
  have HO := Lib.hid ho
  have Q3 := Lib.hid (plc_mod s o x y z)
  generalize plc s (o, x, y, z) = p at *
  clear H H2 H3 hm hl hf ho
  have hx8 : (x.toNat : Int) < 8 := by omega
  have hy8 : (y.toNat : Int) < 8 := by omega
  go_enter Tryz.func43, Tryz.ntmps43
  go_upto_region 1 with fail
  generalize w.heap.size = xb at *
  generalize (w.alloc (.cells #[bv o, bv x, bv y, bv z] 26)) = W at *
  have x2 : W.cell? ⟨xb, 2, none⟩ = some (bv y) := cell_blk (blk_get H4.out) 2
  have x3 : W.cell? ⟨xb, 3, none⟩ = some (bv z) := cell_blk (blk_get H4.out) 3
  have gy : W.cell? ⟨b, y.toNat, none⟩ = some (wv (rg s y)) := db_reg H4.out.tail HL.out y.toNat hy
  have k1 := w8_32 z
  go_quiet (fail)
  have HQ := Q3.out
  rw [HQ]
  clear HQ Q3 x2 x3 gy k1
  have H5 := Lib.hid (H4.out.drewN nq)
  generalize W.drewN nq = W1 at *
  clear H4
  have x0 : W1.cell? ⟨xb, 0, none⟩ = some (bv o) := cell_blk (blk_get H5.out) 0
  rw [show bv o = .int .u8 13 by unfold bv; rw [HO.out]; rfl] at x0
  have c9 : W1.cell? ⟨b, 9, none⟩ = some (.slice (some ⟨mb, 0, none⟩) s.mem.length s.mem.length) := db_cell H5.out.tail HL.out 1
  go_wp2_with fail
  refine (room_c b mb s.mem.length 1 p (by omega) c9).mono ?_; rintro e w2 ⟨rfl, rfl⟩
  rw [decide_eq_false HF.out]
  have HZ := Lib.hid (dr_shut HL.out HM.out H5.out.tail)
  clear H5 x0 c9
  go_wp2
  go_ret
  exact ⟨rfl, HZ.out⟩
set_option maxHeartbeats 8000000 in
set_option maxRecDepth 20000 in
theorem mv14n {w0 w : World} {r : List Thing} {b : Nat} {c : List I4} {s : Cs} (o x y z : UInt8) (ho : o.toNat = 14) (hx : x.toNat < 8) (hy : y.toNat < 8) (hf : ¬ (plc s (o, x, y, z)).toNat + 1 ≤ s.mem.length) (H : Hp w0 w (DR b c s :: r)) :
    Calls Tryz.prog 43 #[.pointer (some ⟨b, 0, none⟩), i4v (o, x, y, z)] w fun e w' => e = .returned (.bool false) ∧ Hp w0 w' (DR b c s :: r) := by
  obtain ⟨mb, vc, hl, hm, H2⟩ := dr_open H
  have H3 := blk_new H2 (.cells #[bv o, bv x, bv y, bv z] 26)
  have H4 : Hid (Hp w0 _ (XB w.heap.size (o, x, y, z) :: _)) := Lib.hid H3
  have HM := Lib.hid hm
  have HL := Lib.hid hl
  have HF := Lib.hid hf
  have HO := Lib.hid ho
  have Q3 := Lib.hid (plc_mod s o x y z)
  generalize plc s (o, x, y, z) = p at *
  clear H H2 H3 hm hl hf ho
  have hx8 : (x.toNat : Int) < 8 := by omega
  have hy8 : (y.toNat : Int) < 8 := by omega
  go_enter Tryz.func43, Tryz.ntmps43
  go_upto_region 1 with fail
  generalize w.heap.size = xb at *
  generalize (w.alloc (.cells #[bv o, bv x, bv y, bv z] 26)) = W at *
  have x2 : W.cell? ⟨xb, 2, none⟩ = some (bv y) := cell_blk (blk_get H4.out) 2
  have x3 : W.cell? ⟨xb, 3, none⟩ = some (bv z) := cell_blk (blk_get H4.out) 3
  have gy : W.cell? ⟨b, y.toNat, none⟩ = some (wv (rg s y)) := db_reg H4.out.tail HL.out y.toNat hy
  have k1 := w8_32 z
  go_quiet (fail)
  have HQ := Q3.out
  rw [HQ]
  clear HQ Q3 x2 x3 gy k1
  have H5 := Lib.hid (H4.out.drewN nq)
  generalize W.drewN nq = W1 at *
  clear H4
  have x0 : W1.cell? ⟨xb, 0, none⟩ = some (bv o) := cell_blk (blk_get H5.out) 0
  rw [show bv o = .int .u8 14 by unfold bv; rw [HO.out]; rfl] at x0
  have c9 : W1.cell? ⟨b, 9, none⟩ = some (.slice (some ⟨mb, 0, none⟩) s.mem.length s.mem.length) := db_cell H5.out.tail HL.out 1
  go_wp2_with fail
  refine (room_c b mb s.mem.length 1 p (by omega) c9).mono ?_; rintro e w2 ⟨rfl, rfl⟩
  rw [decide_eq_false HF.out]
  have HZ := Lib.hid (dr_shut HL.out HM.out H5.out.tail)
  clear H5 x0 c9
  go_wp2
  go_ret
  exact ⟨rfl, HZ.out⟩
set_option maxHeartbeats 8000000 in
set_option maxRecDepth 20000 in
theorem mv13y {w0 w : World} {r : List Thing} {b : Nat} {c : List I4} {s : Cs} (o x y z : UInt8) (ho : o.toNat = 13) (hx : x.toNat < 8) (hy : y.toNat < 8) (hf : (plc s (o, x, y, z)).toNat + 1 ≤ s.mem.length) (H : Hp w0 w (DR b c s :: r)) :
    Calls Tryz.prog 43 #[.pointer (some ⟨b, 0, none⟩), i4v (o, x, y, z)] w fun e w' => e = .returned (.bool true) ∧ Hp w0 w' (DR b c (wrg s x (UInt32.ofNat (s.mem.getD (plc s (o, x, y, z)).toNat 0).toNat)) :: r) := by
  obtain ⟨mb, vc, hl, hm, H2⟩ := dr_open H
  have H3 := blk_new H2 (.cells #[bv o, bv x, bv y, bv z] 26)
  have H4 : Hid (Hp w0 _ (XB w.heap.size (o, x, y, z) :: _)) := Lib.hid H3
  have HM := Lib.hid hm
  have HL := Lib.hid hl
  have HF := Lib.hid hf
  have HO := Lib.hid ho
  have Q3 := Lib.hid (plc_mod s o x y z)
  have q1 : IntKind.u32.wrap ((s.mem.getD (plc s (o, x, y, z)).toNat 0).toNat : Int) = ((UInt32.ofNat (s.mem.getD (plc s (o, x, y, z)).toNat 0).toNat).toNat : Int) := by rw [w8_32, UInt32.toNat_ofNat', Nat.mod_eq_of_lt (by have := (s.mem.getD (plc s (o, x, y, z)).toNat 0).toNat_lt; omega)]
  have q9 := w8_32 (s.mem.getD (plc s (o, x, y, z)).toNat 0)
  generalize plc s (o, x, y, z) = p at *
  generalize hdd : s.mem.getD p.toNat 0 = dd at *
  have HDD := Lib.hid hdd
  rw [q9] at q1
  clear hdd q9
  generalize UInt32.ofNat dd.toNat = u at *
  have Q1 := Lib.hid q1
  clear q1
  clear H H2 H3 hm hl hf ho
  have hx8 : (x.toNat : Int) < 8 := by omega
  have hy8 : (y.toNat : Int) < 8 := by omega
  go_enter Tryz.func43, Tryz.ntmps43
  go_upto_region 1 with fail
  generalize w.heap.size = xb at *
  generalize (w.alloc (.cells #[bv o, bv x, bv y, bv z] 26)) = W at *
  have x2 : W.cell? ⟨xb, 2, none⟩ = some (bv y) := cell_blk (blk_get H4.out) 2
  have x3 : W.cell? ⟨xb, 3, none⟩ = some (bv z) := cell_blk (blk_get H4.out) 3
  have gy : W.cell? ⟨b, y.toNat, none⟩ = some (wv (rg s y)) := db_reg H4.out.tail HL.out y.toNat hy
  have k1 := w8_32 z
  go_quiet (fail)
  have HQ := Q3.out
  rw [HQ]
  clear HQ Q3 x2 x3 gy k1
  have H5 := Lib.hid (H4.out.drewN nq)
  generalize W.drewN nq = W1 at *
  clear H4
  have x0 : W1.cell? ⟨xb, 0, none⟩ = some (bv o) := cell_blk (blk_get H5.out) 0
  rw [show bv o = .int .u8 13 by unfold bv; rw [HO.out]; rfl] at x0
  have c9 : W1.cell? ⟨b, 9, none⟩ = some (.slice (some ⟨mb, 0, none⟩) s.mem.length s.mem.length) := db_cell H5.out.tail HL.out 1
  go_wp2_with fail
  refine (room_c b mb s.mem.length 1 p (by omega) c9).mono ?_; rintro e w2 ⟨rfl, rfl⟩
  rw [decide_eq_true HF.out]
  have x1 : w2.cell? ⟨xb, 1, none⟩ = some (bv x) := cell_blk (blk_get H5.out) 1
  have gx : w2.cell? ⟨b, x.toNat, none⟩ = some (wv (rg s x)) := db_reg H5.out.tail HL.out x.toNat hx
  have y1 : (p.toNat : Int) < (s.mem.length : Int) := by have := HF.out; omega
  have cm : w2.cell? ⟨mb, p.toNat, none⟩ = some (bv dd) := by rw [← HDD.out]; exact mb_cell (H5.out.pull 2 rfl) (by have := HF.out; omega)
  have fz := free_blk (blk_get H5.out.tail) x.toNat
  have HZ := Lib.hid (dr_shut (s := wrg s x u) (by simpa [wrg] using HL.out) HM.out (db_setreg H5.out.tail HL.out x.toNat hx u))
  have k2 : IntKind.u32.wrap (dd.toNat : Int) = (u.toNat : Int) := (w8_32 dd).trans Q1.out
  clear H5 Q1
  go_wp2
  go_region
  go_wp2
  go_ret
  exact ⟨rfl, HZ.out.drew⟩
set_option maxHeartbeats 8000000 in
set_option maxRecDepth 20000 in
theorem mv14y {w0 w : World} {r : List Thing} {b : Nat} {c : List I4} {s : Cs} (o x y z : UInt8) (ho : o.toNat = 14) (hx : x.toNat < 8) (hy : y.toNat < 8) (hf : (plc s (o, x, y, z)).toNat + 1 ≤ s.mem.length) (H : Hp w0 w (DR b c s :: r)) :
    Calls Tryz.prog 43 #[.pointer (some ⟨b, 0, none⟩), i4v (o, x, y, z)] w fun e w' => e = .returned (.bool true) ∧ Hp w0 w' (DR b c ({ s with mem := s.mem.set (plc s (o, x, y, z)).toNat (UInt8.ofNat (rg s x).toNat) }) :: r) := by
  obtain ⟨mb, vc, hl, hm, H2⟩ := dr_open H
  have H3 := blk_new H2 (.cells #[bv o, bv x, bv y, bv z] 26)
  have H4 : Hid (Hp w0 _ (XB w.heap.size (o, x, y, z) :: _)) := Lib.hid H3
  have HM := Lib.hid hm
  have HL := Lib.hid hl
  have HF := Lib.hid hf
  have HO := Lib.hid ho
  have Q3 := Lib.hid (plc_mod s o x y z)
  have q1 : IntKind.u8.wrap ((rg s x).toNat : Int) = ((UInt8.ofNat (rg s x).toNat).toNat : Int) := by simp [IntKind.wrap_u8]
  generalize plc s (o, x, y, z) = p at *
  generalize UInt8.ofNat (rg s x).toNat = v at *
  generalize hm2 : s.mem.set p.toNat v = m2 at *
  have HM2 := Lib.hid hm2
  clear hm2
  clear H H2 H3 hm hl hf ho
  have hx8 : (x.toNat : Int) < 8 := by omega
  have hy8 : (y.toNat : Int) < 8 := by omega
  go_enter Tryz.func43, Tryz.ntmps43
  go_upto_region 1 with fail
  generalize w.heap.size = xb at *
  generalize (w.alloc (.cells #[bv o, bv x, bv y, bv z] 26)) = W at *
  have x2 : W.cell? ⟨xb, 2, none⟩ = some (bv y) := cell_blk (blk_get H4.out) 2
  have x3 : W.cell? ⟨xb, 3, none⟩ = some (bv z) := cell_blk (blk_get H4.out) 3
  have gy : W.cell? ⟨b, y.toNat, none⟩ = some (wv (rg s y)) := db_reg H4.out.tail HL.out y.toNat hy
  have k1 := w8_32 z
  go_quiet (fail)
  have HQ := Q3.out
  rw [HQ]
  clear HQ Q3 x2 x3 gy k1
  have H5 := Lib.hid (H4.out.drewN nq)
  generalize W.drewN nq = W1 at *
  clear H4
  have x0 : W1.cell? ⟨xb, 0, none⟩ = some (bv o) := cell_blk (blk_get H5.out) 0
  rw [show bv o = .int .u8 14 by unfold bv; rw [HO.out]; rfl] at x0
  have c9 : W1.cell? ⟨b, 9, none⟩ = some (.slice (some ⟨mb, 0, none⟩) s.mem.length s.mem.length) := db_cell H5.out.tail HL.out 1
  go_wp2_with fail
  refine (room_c b mb s.mem.length 1 p (by omega) c9).mono ?_; rintro e w2 ⟨rfl, rfl⟩
  rw [decide_eq_true HF.out]
  have x1 : w2.cell? ⟨xb, 1, none⟩ = some (bv x) := cell_blk (blk_get H5.out) 1
  have gx : w2.cell? ⟨b, x.toNat, none⟩ = some (wv (rg s x)) := db_reg H5.out.tail HL.out x.toNat hx
  have y1 : (p.toNat : Int) < (s.mem.length : Int) := by have := HF.out; omega
  have cm : w2.cell? ⟨mb, p.toNat, none⟩ = some (bv (s.mem.getD p.toNat 0)) := mb_cell (H5.out.pull 2 rfl) (by have := HF.out; omega)
  have fz := free_blk (blk_get (H5.out.pull 2 rfl)) p.toNat
  have HS := blk_set (H5.out.pull 2 rfl) p.toNat (bv v)
  have e : (s.mem.map bv).toArray.setIfInBounds p.toNat (bv v) = (m2.map bv).toArray := by rw [← HM2.out]; simp [List.map_set]
  rw [e] at HS
  have HN : m2.length = s.mem.length := by rw [← HM2.out, List.length_set]
  have HZ := Lib.hid (dr_shut (b := b) (mb := mb) (vc := vc) (c := c) (s := { s with mem := m2 }) (r := r) HL.out (by show m2.length ≤ 4096; rw [HN]; exact HM.out) (by
    have h := (HS.up1.tail).up1
    have e2 : coreR { s with mem := m2 } mb vc = coreR s mb vc := by unfold coreR; simp only [HN]
    show Hp w0 _ (Blk b (.cells (coreR { s with mem := m2 } mb vc).toArray 56 (0, 0)) :: MB mb m2 :: OwnI4 vc c :: r)
    rw [e2]; exact h))
  clear H5 HS e HN
  go_wp2
  go_region
  go_wp2
  go_ret
  exact ⟨rfl, HZ.out.drew⟩
end Go.Proofs.YtijkkompnfpdeaaGreatDoor
