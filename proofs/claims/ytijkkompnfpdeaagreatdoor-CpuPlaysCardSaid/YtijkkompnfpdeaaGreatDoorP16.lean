/- The document's core: a step that is refused: walked. The document's core: a step out of the code: walked. -/
import Derived.Test.YtijkkompnfpdeaaGreatDoorP15
set_option linter.unusedVariables false
set_option linter.unusedSimpArgs false
namespace Go.Proofs.YtijkkompnfpdeaaGreatDoor
open Go.RowKit Go.Joins Go.Shelf
attribute [local go_sem] Oper.semAt_some

theorem res3d {w0 w : World} {r : List Thing} {b3 : Nat} {x : Bool} {a : Ak} {e : Int} (tmps : Array Value) (h2 : tmps.getD 2 undef = .bool x) (h3 : tmps.getD 3 undef = .pointer (some ⟨b3, 0, none⟩)) (h4 : tmps.getD 4 undef = .int .i64 e) (H : Hp w0 w (Blk b3 (.cells (akA a) 37 (0, 0)) :: r)) :
    (results Tryz.f19 tmps).run Tryz.prog w = .ok (stV x a e) w := by
  have hb3 := blk_get H
  have d0 : w.cell? ⟨b3, 0, none⟩ = some (bv a.what) := cell_blk hb3 0
  have d1 : w.cell? ⟨b3, 1, none⟩ = some (wv a.h) := cell_blk hb3 1
  have d2 : w.cell? ⟨b3, 2, none⟩ = some (wv a.v) := cell_blk hb3 2
  have d3 : w.cell? ⟨b3, 3, none⟩ = some (wv a.m) := cell_blk hb3 3
  have d4 : w.cell? ⟨b3, 4, none⟩ = some (.int .i64 a.wait) := cell_blk hb3 4
  have h2' : tmps[2]?.getD undef = .bool x := by simpa using h2
  have h3' : tmps[3]?.getD undef = .pointer (some ⟨b3, 0, none⟩) := by simpa using h3
  have h4' : tmps[4]?.getD undef = .int .i64 e := by simpa using h4
  simp [results, Tryz.results19, h2', h3', h4', asAddr, go_sem, d0, d1, d2, d3, d4, akA]
set_option maxHeartbeats 4000000 in
set_option maxRecDepth 20000 in
theorem rstep_asked {w0 w : World} {r : List Thing} {b : Nat} {c : List I4} {s : Cs} (ha : s.asked = true) (H : Hp w0 w (DR b c s :: r)) :
    Calls Tryz.prog 19 #[.pointer (some ⟨b, 0, none⟩)] w fun e w' => e = .returned (stV false ak0 7) ∧ Hp w0 w' (DR b c s :: r) := by
  have HR := Lib.hid (blk_new H ZA)
  clear H
  go_enter Tryz.func19, Tryz.ntmps19
  go_upto_region 1 with fail
  generalize w.heap.size = b3 at *
  generalize w.alloc _ = W at *
  obtain ⟨mb, vc, hl, hm, H2⟩ := dr_open HR.out.tail
  have C3 : W.cell? ⟨b, 12, none⟩ = _ := db_cell H2 hl 4
  rw [ha] at C3
  have hb3 := blk_get HR.out
  have d0 : W.cell? ⟨b3, 0, none⟩ = some (.int .u8 0) := cell_blk hb3 0
  have d1 : W.cell? ⟨b3, 1, none⟩ = some (.int .u32 0) := cell_blk hb3 1
  have d2 : W.cell? ⟨b3, 2, none⟩ = some (.int .u32 0) := cell_blk hb3 2
  have d3 : W.cell? ⟨b3, 3, none⟩ = some (.int .u32 0) := cell_blk hb3 3
  have d4 : W.cell? ⟨b3, 4, none⟩ = some (.int .i64 0) := cell_blk hb3 4
  have z0 := free_blk hb3 0
  have z1 := free_blk hb3 1
  have z2 := free_blk hb3 2
  have z3 := free_blk hb3 3
  have z4 := free_blk hb3 4
  have HZ : Hid (Hp w0 (((((W.setCell ⟨b3, 0, none⟩ (.int .u8 0)).setCell ⟨b3, 1, none⟩ (.int .u32 0)).setCell ⟨b3, 2, none⟩ (.int .u32 0)).setCell ⟨b3, 3, none⟩ (.int .u32 0)).setCell ⟨b3, 4, none⟩ (.int .i64 0)) (Blk b3 (.cells (akA ak0) 37 (0, 0)) :: DR b c s :: r)) := Lib.hid (blk_set (blk_set (blk_set (blk_set (blk_set HR.out 0 (.int .u8 0)) 1 (.int .u32 0)) 2 (.int .u32 0)) 3 (.int .u32 0)) 4 (.int .i64 0))
  clear HR H2 hl hm hb3
  go_wp2
  exact bodyPost_ret (res3d _ rfl rfl rfl HZ.out) rfl ⟨rfl, HZ.out.tail⟩
end Go.Proofs.YtijkkompnfpdeaaGreatDoor
set_option linter.unusedVariables false
set_option linter.unusedSimpArgs false
namespace Go.Proofs.YtijkkompnfpdeaaGreatDoor
open Go.RowKit Go.Joins Go.Shelf
attribute [local go_sem] Oper.semAt_some

set_option maxHeartbeats 4000000 in
set_option maxRecDepth 20000 in
theorem rstep_low {w0 w : World} {r : List Thing} {b : Nat} {c : List I4} {s : Cs} (ha : s.asked = false) (hn : s.at_ < 0) (H : Hp w0 w (DR b c s :: r)) :
    Calls Tryz.prog 19 #[.pointer (some ⟨b, 0, none⟩)] w fun e w' => e = .returned (stV false ak0 15) ∧ Hp w0 w' (DR b c s :: r) := by
  have HR := Lib.hid (blk_new H ZA)
  clear H
  go_enter Tryz.func19, Tryz.ntmps19
  go_upto_region 1 with fail
  generalize w.heap.size = b3 at *
  generalize w.alloc _ = W at *
  obtain ⟨mb, vc, hl, hm, H2⟩ := dr_open HR.out.tail
  have C3 : W.cell? ⟨b, 12, none⟩ = _ := db_cell H2 hl 4
  rw [ha] at C3
  have C1 : W.cell? ⟨b, 8, none⟩ = _ := db_cell H2 hl 0
  have C4 : W.cell? ⟨b, 10, none⟩ = _ := db_cell H2 hl 2
  obtain ⟨av, cv, rfl⟩ := own_slice (H2.pull 2 rfl)
  have hn2 : decide (s.at_ < 0) = true := by simpa using hn
  clear H2 hl hm
  go_wp2
  go_quiet (fail)
  have HR := Lib.hid (HR.out.drewN nq)
  generalize W.drewN nq = W at *
  clear C1 C3 C4
  have hb3 := blk_get HR.out
  have d0 : W.cell? ⟨b3, 0, none⟩ = some (.int .u8 0) := cell_blk hb3 0
  have d1 : W.cell? ⟨b3, 1, none⟩ = some (.int .u32 0) := cell_blk hb3 1
  have d2 : W.cell? ⟨b3, 2, none⟩ = some (.int .u32 0) := cell_blk hb3 2
  have d3 : W.cell? ⟨b3, 3, none⟩ = some (.int .u32 0) := cell_blk hb3 3
  have d4 : W.cell? ⟨b3, 4, none⟩ = some (.int .i64 0) := cell_blk hb3 4
  have z0 := free_blk hb3 0
  have z1 := free_blk hb3 1
  have z2 := free_blk hb3 2
  have z3 := free_blk hb3 3
  have z4 := free_blk hb3 4
  have HZ : Hid (Hp w0 (((((W.setCell ⟨b3, 0, none⟩ (.int .u8 0)).setCell ⟨b3, 1, none⟩ (.int .u32 0)).setCell ⟨b3, 2, none⟩ (.int .u32 0)).setCell ⟨b3, 3, none⟩ (.int .u32 0)).setCell ⟨b3, 4, none⟩ (.int .i64 0)) (Blk b3 (.cells (akA ak0) 37 (0, 0)) :: DR b c s :: r)) := Lib.hid (blk_set (blk_set (blk_set (blk_set (blk_set HR.out 0 (.int .u8 0)) 1 (.int .u32 0)) 2 (.int .u32 0)) 3 (.int .u32 0)) 4 (.int .i64 0))
  clear HR hb3
  go_wp2
  exact bodyPost_ret (res3d _ rfl rfl rfl HZ.out) rfl ⟨rfl, HZ.out.tail⟩
set_option maxHeartbeats 4000000 in
set_option maxRecDepth 20000 in
theorem rstep_high {w0 w : World} {r : List Thing} {b : Nat} {c : List I4} {s : Cs} (ha : s.asked = false) (hn0 : ¬ s.at_ < 0) (hn : (c.length : Int) ≤ s.at_) (H : Hp w0 w (DR b c s :: r)) :
    Calls Tryz.prog 19 #[.pointer (some ⟨b, 0, none⟩)] w fun e w' => e = .returned (stV false ak0 15) ∧ Hp w0 w' (DR b c s :: r) := by
  have HR := Lib.hid (blk_new H ZA)
  clear H
  go_enter Tryz.func19, Tryz.ntmps19
  go_upto_region 1 with fail
  generalize w.heap.size = b3 at *
  generalize w.alloc _ = W at *
  obtain ⟨mb, vc, hl, hm, H2⟩ := dr_open HR.out.tail
  have C3 : W.cell? ⟨b, 12, none⟩ = _ := db_cell H2 hl 4
  rw [ha] at C3
  have C1 : W.cell? ⟨b, 8, none⟩ = _ := db_cell H2 hl 0
  have C4 : W.cell? ⟨b, 10, none⟩ = _ := db_cell H2 hl 2
  obtain ⟨av, cv, rfl⟩ := own_slice (H2.pull 2 rfl)
  have hn2 : decide (s.at_ < 0) = false := by simpa using hn0
  have hn3 : decide ((c.length : Int) ≤ s.at_) = true := by simpa using hn
  clear H2 hl hm
  go_wp2
  go_quiet (fail)
  have HR := Lib.hid (HR.out.drewN nq)
  generalize W.drewN nq = W at *
  clear C1 C3 C4
  have hb3 := blk_get HR.out
  have d0 : W.cell? ⟨b3, 0, none⟩ = some (.int .u8 0) := cell_blk hb3 0
  have d1 : W.cell? ⟨b3, 1, none⟩ = some (.int .u32 0) := cell_blk hb3 1
  have d2 : W.cell? ⟨b3, 2, none⟩ = some (.int .u32 0) := cell_blk hb3 2
  have d3 : W.cell? ⟨b3, 3, none⟩ = some (.int .u32 0) := cell_blk hb3 3
  have d4 : W.cell? ⟨b3, 4, none⟩ = some (.int .i64 0) := cell_blk hb3 4
  have z0 := free_blk hb3 0
  have z1 := free_blk hb3 1
  have z2 := free_blk hb3 2
  have z3 := free_blk hb3 3
  have z4 := free_blk hb3 4
  have HZ : Hid (Hp w0 (((((W.setCell ⟨b3, 0, none⟩ (.int .u8 0)).setCell ⟨b3, 1, none⟩ (.int .u32 0)).setCell ⟨b3, 2, none⟩ (.int .u32 0)).setCell ⟨b3, 3, none⟩ (.int .u32 0)).setCell ⟨b3, 4, none⟩ (.int .i64 0)) (Blk b3 (.cells (akA ak0) 37 (0, 0)) :: DR b c s :: r)) := Lib.hid (blk_set (blk_set (blk_set (blk_set (blk_set HR.out 0 (.int .u8 0)) 1 (.int .u32 0)) 2 (.int .u32 0)) 3 (.int .u32 0)) 4 (.int .i64 0))
  clear HR hb3
  go_wp2
  exact bodyPost_ret (res3d _ rfl rfl rfl HZ.out) rfl ⟨rfl, HZ.out.tail⟩
end Go.Proofs.YtijkkompnfpdeaaGreatDoor
