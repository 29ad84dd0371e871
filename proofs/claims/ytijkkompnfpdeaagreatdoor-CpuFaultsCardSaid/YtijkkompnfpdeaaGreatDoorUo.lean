/- Cores: a step that is refused: walked. -/
import Derived.Test.YtijkkompnfpdeaaGreatDoorUn
set_option linter.unusedVariables false
set_option linter.unusedSimpArgs false
namespace Go.Proofs.YtijkkompnfpdeaaGreatDoor
open Go.RowKit Go.Joins Go.Shelf
attribute [local go_sem] Oper.semAt_some

/-- What a step hands back. -/
abbrev stV (x : Bool) (a : Ak) (e : Int) : Value := .tuple #[.bool x, .agg (akA a), .int .i64 e]
abbrev ZB : Obj := .cells #[.bool false] 4
abbrev ZA : Obj := .cells #[.int .u8 0, .int .u32 0, .int .u32 0, .int .u32 0, .int .i64 0] 37
abbrev ZE : Obj := .cells #[.int .i64 0] 31
theorem r3_new {w0 w : World} {r : List Thing} (H : Hp w0 w r) : Hp w0 (((w.alloc ZB).alloc ZA).alloc ZE) (R3 w.heap.size (w.heap.size + 1) (w.heap.size + 1 + 1) false ak0 0 ++ r) := by
  have HA := blk_new H ZB
  have HB := blk_new_at HA ZA (w.heap.size + 1) (size_alloc1 _ _)
  have HC := blk_new_at HB ZE (w.heap.size + 1 + 1) (size_alloc2 _ _ _)
  exact (HC.pull 1 rfl).pull 2 rfl
/-- What a core's variables hold. -/
structure CF (b rb : Nat) (s : Cs) (c : List I4) (W : World) : Prop where
  at8 : W.cell? ⟨b, 8, none⟩ = some (.int .i64 s.at_)
  mem : W.cell? ⟨b, 9, none⟩ = some (.pointer (some ⟨rb, 0, none⟩))
  asked : W.cell? ⟨b, 12, none⟩ = some (.bool s.asked)
  code : ∃ a cc, W.cell? ⟨b, 10, none⟩ = some (.slice a c.length cc) ∧ CellsIn W a (ics c)
  fr : ∀ k, W.frozen? ⟨b, k, none⟩ = false
  rg : ∀ k, k < 8 → W.cell? ⟨b, k, none⟩ = some (wv (s.r.getD k 0))
theorem cf_of {w0 W : World} {r : List Thing} {b : Nat} {c : List I4} {s : Cs} (H : Hp w0 W (CR b c s :: r)) : ∃ rb, CF b rb s c W := by
  obtain ⟨rb, mb, vc, vs, hl, hm, H2⟩ := cr_open H
  obtain ⟨a, cc, rfl⟩ := own_slice (H2.pull 3 rfl)
  exact ⟨rb, cb_cell H2 hl 0, cb_cell H2 hl 1, cb_cell H2 hl 4, ⟨a, cc, cb_cell H2 hl 2, CellsIn.own (H2.pull 3 rfl)⟩, fun k => free_blk (blk_get H2) k, fun k hk => cb_reg H2 hl k hk⟩
/-- What the three variables hold. -/
structure R3F (b2 b3 b4 : Nat) (x : Bool) (a : Ak) (e : Int) (W : World) : Prop where
  c2 : W.cell? ⟨b2, 0, none⟩ = some (.bool x)
  d0 : W.cell? ⟨b3, 0, none⟩ = some (bv a.what)
  d1 : W.cell? ⟨b3, 1, none⟩ = some (wv a.h)
  d2 : W.cell? ⟨b3, 2, none⟩ = some (wv a.v)
  d3 : W.cell? ⟨b3, 3, none⟩ = some (wv a.m)
  d4 : W.cell? ⟨b3, 4, none⟩ = some (.int .i64 a.wait)
  c4 : W.cell? ⟨b4, 0, none⟩ = some (.int .i64 e)
  z2 : W.frozen? ⟨b2, 0, none⟩ = false
  z30 : W.frozen? ⟨b3, 0, none⟩ = false
  z31 : W.frozen? ⟨b3, 1, none⟩ = false
  z32 : W.frozen? ⟨b3, 2, none⟩ = false
  z33 : W.frozen? ⟨b3, 3, none⟩ = false
  z34 : W.frozen? ⟨b3, 4, none⟩ = false
  z4 : W.frozen? ⟨b4, 0, none⟩ = false
  n1 : ¬ b2 = b3
  n2 : ¬ b3 = b4
  n3 : ¬ b2 = b4
  n4 : ¬ b3 = b2
  n5 : ¬ b4 = b3
  n6 : ¬ b4 = b2
theorem r3_facts {w0 W : World} {r : List Thing} {b2 b3 b4 : Nat} {x : Bool} {a : Ak} {e : Int} (H : Hp w0 W (R3 b2 b3 b4 x a e ++ r)) : R3F b2 b3 b4 x a e W := by
  have h3 := blk_get (H.pull 1 rfl)
  have h4 := blk_get (H.pull 2 rfl)
  have n1 : ¬ b2 = b3 := blk_apart H
  have n2 : ¬ b3 = b4 := blk_apart H.tail
  have n3 : ¬ b2 = b4 := blk_apart (H.pull 1 rfl).tail
  exact ⟨cell_blk (blk_get H) 0, cell_blk h3 0, cell_blk h3 1, cell_blk h3 2, cell_blk h3 3, cell_blk h3 4, cell_blk h4 0, free_blk (blk_get H) 0, free_blk h3 0, free_blk h3 1, free_blk h3 2, free_blk h3 3, free_blk h3 4, free_blk h4 0,
    n1, n2, n3, fun h => n1 h.symm, fun h => n2 h.symm, fun h => n3 h.symm⟩
set_option maxHeartbeats 4000000 in
set_option maxRecDepth 20000 in
theorem step_asked {w0 w : World} {r : List Thing} {b : Nat} {c : List I4} {s : Cs} (ha : s.asked = true) (H : Hp w0 w (CR b c s :: r)) :
    Calls Tryz.prog 9 #[.pointer (some ⟨b, 0, none⟩)] w fun e w' => e = .returned (stV false ak0 7) ∧ Hp w0 w' (CR b c s :: r) := by
  have HR := Lib.hid (r3_new H)
  go_enter_defers Tryz.func9, Tryz.ntmps9
  go_upto_region 1 with fail
  generalize w.heap.size + 1 + 1 = b4 at *
  generalize w.heap.size + 1 = b3 at *
  generalize w.heap.size = b2 at *
  generalize ((w.alloc _).alloc _).alloc _ = W at *
  obtain ⟨rb, C1, C2, C3, C4, C5, C6⟩ := cf_of (HR.out.pull 3 rfl)
  rw [ha] at C3
  clear H C4 C5 C6 C1
  have HZ := Lib.hid (r3_set (y := false) (d := ak0) (f := 7) HR.out)
  obtain ⟨c2, d0, d1, d2, d3, d4, c4, z2, z30, z31, z32, z33, z34, z4, n1, n2, n3, n4, n5, n6⟩ := r3_facts HR.out
  go_wp2
  go_region
  go_wp2
  exact ⟨_, res3 _ rfl rfl rfl HZ.out.drew, rfl, HZ.out.drew.tail.tail.tail⟩
set_option maxHeartbeats 4000000 in
set_option maxRecDepth 20000 in
theorem step_low {w0 w : World} {r : List Thing} {b : Nat} {c : List I4} {s : Cs} (ha : s.asked = false) (hn : s.at_ < 0) (H : Hp w0 w (CR b c s :: r)) :
    Calls Tryz.prog 9 #[.pointer (some ⟨b, 0, none⟩)] w fun e w' => e = .returned (stV false ak0 15) ∧ Hp w0 w' (CR b c s :: r) := by
  have HR := Lib.hid (r3_new H)
  go_enter_defers Tryz.func9, Tryz.ntmps9
  go_upto_region 1 with fail
  generalize w.heap.size + 1 + 1 = b4 at *
  generalize w.heap.size + 1 = b3 at *
  generalize w.heap.size = b2 at *
  generalize ((w.alloc _).alloc _).alloc _ = W at *
  obtain ⟨rb, C1, C2, C3, ⟨a, cc, C4, _⟩, C5, C6⟩ := cf_of (HR.out.pull 3 rfl)
  rw [ha] at C3
  clear H C5 C6
  have hn2 : decide (s.at_ < 0) = true := by simpa using hn
  go_wp2
  go_quiet (fail)
  go_wp2
  have HR1 := Lib.hid (HR.out.drewN nq)
  generalize W.drewN nq = W1 at *
  clear HR C1 C2 C3 C4
  obtain ⟨c2, d0, d1, d2, d3, d4, c4, z2, z30, z31, z32, z33, z34, z4, n1, n2, n3, n4, n5, n6⟩ := r3_facts HR1.out
  have HZ := Lib.hid (r3_set (y := false) (d := ak0) (f := 15) HR1.out)
  go_region
  go_wp2
  exact ⟨_, res3 _ rfl rfl rfl HZ.out.drew, rfl, HZ.out.drew.tail.tail.tail⟩
set_option maxHeartbeats 4000000 in
set_option maxRecDepth 20000 in
theorem step_high {w0 w : World} {r : List Thing} {b : Nat} {c : List I4} {s : Cs} (ha : s.asked = false) (hn0 : ¬ s.at_ < 0) (hn : (c.length : Int) ≤ s.at_) (H : Hp w0 w (CR b c s :: r)) :
    Calls Tryz.prog 9 #[.pointer (some ⟨b, 0, none⟩)] w fun e w' => e = .returned (stV false ak0 15) ∧ Hp w0 w' (CR b c s :: r) := by
  have HR := Lib.hid (r3_new H)
  go_enter_defers Tryz.func9, Tryz.ntmps9
  go_upto_region 1 with fail
  generalize w.heap.size + 1 + 1 = b4 at *
  generalize w.heap.size + 1 = b3 at *
  generalize w.heap.size = b2 at *
  generalize ((w.alloc _).alloc _).alloc _ = W at *
  obtain ⟨rb, C1, C2, C3, ⟨a, cc, C4, _⟩, C5, C6⟩ := cf_of (HR.out.pull 3 rfl)
  rw [ha] at C3
  clear H C5 C6
  have hn2 : decide (s.at_ < 0) = false := by simpa using hn0
  have hn3 : decide ((c.length : Int) ≤ s.at_) = true := by simpa using hn
  go_wp2
  go_quiet (fail)
  go_wp2
  have HR1 := Lib.hid (HR.out.drewN nq)
  generalize W.drewN nq = W1 at *
  clear HR C1 C2 C3 C4
  obtain ⟨c2, d0, d1, d2, d3, d4, c4, z2, z30, z31, z32, z33, z34, z4, n1, n2, n3, n4, n5, n6⟩ := r3_facts HR1.out
  have HZ := Lib.hid (r3_set (y := false) (d := ak0) (f := 15) HR1.out)
  go_region
  go_wp2
  exact ⟨_, res3 _ rfl rfl rfl HZ.out.drew, rfl, HZ.out.drew.tail.tail.tail⟩
end Go.Proofs.YtijkkompnfpdeaaGreatDoor
