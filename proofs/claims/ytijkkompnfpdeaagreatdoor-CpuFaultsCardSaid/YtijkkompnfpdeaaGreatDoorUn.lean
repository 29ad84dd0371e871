/- Cores: the deferred closure; what a step hands back: walked. -/
import Derived.Test.YtijkkompnfpdeaaGreatDoorUm
import Derived.Defers
import Derived.Recover
import Derived.Laws.ResultCell
set_option linter.unusedVariables false
set_option linter.unusedSimpArgs false
namespace Go.Proofs.YtijkkompnfpdeaaGreatDoor
open Go.RowKit Go.Joins Go.Shelf
attribute [local go_sem] Oper.semAt_some

def akA (a : Ak) : Array Value := #[bv a.what, wv a.h, wv a.v, wv a.m, .int .i64 a.wait]
theorem assert_fault (w : World) : (Instr.typeAssert (.iface 81 (.agg #[.int .i64 4])) 20 81 false).run Tryz.prog w = .ok (.agg #[.int .i64 4]) w := by kernel_rfl
/-- What a step hands back, in three variables. -/
abbrev R3 (b2 b3 b4 : Nat) (x : Bool) (a : Ak) (e : Int) : List Thing := [Blk b2 (.cells #[.bool x] 4 (0, 0)), Blk b3 (.cells (akA a) 37 (0, 0)), Blk b4 (.cells #[.int .i64 e] 31 (0, 0))]
theorem ask_info : (Tryz.prog.info? 37).map (·.size) = some 5 := by kernel_rfl
theorem res3 {w0 w : World} {r : List Thing} {b2 b3 b4 : Nat} {x : Bool} {a : Ak} {e : Int} (tmps : Array Value) (h2 : tmps.getD 2 undef = .pointer (some ⟨b2, 0, none⟩)) (h3 : tmps.getD 3 undef = .pointer (some ⟨b3, 0, none⟩)) (h4 : tmps.getD 4 undef = .pointer (some ⟨b4, 0, none⟩)) (H : Hp w0 w (R3 b2 b3 b4 x a e ++ r)) :
    (results Tryz.f9 tmps).run Tryz.prog w = .ok (.tuple #[.bool x, .agg (akA a), .int .i64 e]) w := by
  have c2 : w.cell? ⟨b2, 0, none⟩ = some (.bool x) := cell_blk (blk_get H) 0
  have c4 : w.cell? ⟨b4, 0, none⟩ = some (.int .i64 e) := cell_blk (blk_get (H.pull 2 rfl)) 0
  have hb3 := blk_get (H.pull 1 rfl)
  have d0 : w.cell? ⟨b3, 0, none⟩ = some (bv a.what) := cell_blk hb3 0
  have d1 : w.cell? ⟨b3, 1, none⟩ = some (wv a.h) := cell_blk hb3 1
  have d2 : w.cell? ⟨b3, 2, none⟩ = some (wv a.v) := cell_blk hb3 2
  have d3 : w.cell? ⟨b3, 3, none⟩ = some (wv a.m) := cell_blk hb3 3
  have d4 : w.cell? ⟨b3, 4, none⟩ = some (.int .i64 a.wait) := cell_blk hb3 4
  have h2' : tmps[2]?.getD undef = .pointer (some ⟨b2, 0, none⟩) := by simpa using h2
  have h3' : tmps[3]?.getD undef = .pointer (some ⟨b3, 0, none⟩) := by simpa using h3
  have h4' : tmps[4]?.getD undef = .pointer (some ⟨b4, 0, none⟩) := by simpa using h4
  simp [results, Tryz.results9, h2', h3', h4', asAddr, go_sem, c2, c4, d0, d1, d2, d3, d4, akA]
/-- The three variables are three; turned. -/
theorem blk_apart {w0 w : World} {r : List Thing} {a b : Nat} {o o' : Obj} (H : Hp w0 w (Blk a o :: Blk b o' :: r)) : ¬ a = b := by
  obtain ⟨S, ⟨h1, rfl⟩, h2, S', ⟨h1', rfl⟩, h2', _⟩ := H.lay
  intro e
  exact (h2' b rfl).2 (Or.inr e.symm)
theorem r3_set {w0 w : World} {r : List Thing} {b2 b3 b4 : Nat} {x y : Bool} {a d : Ak} {e f : Int} (H : Hp w0 w (R3 b2 b3 b4 x a e ++ r)) :
    Hp w0 (((((((w.setCell ⟨b2, 0, none⟩ (.bool y)).setCell ⟨b3, 0, none⟩ (bv d.what)).setCell ⟨b3, 1, none⟩ (wv d.h)).setCell ⟨b3, 2, none⟩ (wv d.v)).setCell ⟨b3, 3, none⟩ (wv d.m)).setCell ⟨b3, 4, none⟩ (.int .i64 d.wait)).setCell ⟨b4, 0, none⟩ (.int .i64 f)) (R3 b2 b3 b4 y d f ++ r) := by
  have h1 := blk_set H 0 (.bool y)
  have h2 := blk_set (blk_set (blk_set (blk_set (blk_set (h1.pull 1 rfl) 0 (bv d.what)) 1 (wv d.h)) 2 (wv d.v)) 3 (wv d.m)) 4 (.int .i64 d.wait)
  exact ((blk_set (h2.pull 2 rfl) 0 (.int .i64 f)).pull 1 rfl).pull 2 rfl
set_option maxRecDepth 20000 in
set_option maxHeartbeats 2000000 in
theorem catch_p {w0 w : World} {r : List Thing} {b2 b3 b4 : Nat} {x : Bool} {a : Ak} {e : Int} (H : Hp w0 w (R3 b2 b3 b4 x a e ++ r)) :
    CallsD Tryz.prog 33 #[.pointer (some ⟨b2, 0, none⟩), .pointer (some ⟨b3, 0, none⟩), .pointer (some ⟨b4, 0, none⟩)] (.panicking [PE 4]) w fun e' u' w' =>
      e' = .returned (.tuple #[]) ∧ u' = .panicking [{ v := .iface 81 (.agg #[.int .i64 4]), recovered := true }] ∧ Hp w0 w' (R3 b2 b3 b4 false ak0 15 ++ r) := by
  have G := r3_set (y := false) (d := ak0) (f := 15) H
  have c2 : w.cell? ⟨b2, 0, none⟩ = some (.bool x) := cell_blk (blk_get H) 0
  have z2 := free_blk (blk_get H) 0
  have hb3 := blk_get (H.pull 1 rfl)
  have d0 : w.cell? ⟨b3, 0, none⟩ = some (bv a.what) := cell_blk hb3 0
  have d1 : w.cell? ⟨b3, 1, none⟩ = some (wv a.h) := cell_blk hb3 1
  have d2 : w.cell? ⟨b3, 2, none⟩ = some (wv a.v) := cell_blk hb3 2
  have d3 : w.cell? ⟨b3, 3, none⟩ = some (wv a.m) := cell_blk hb3 3
  have d4 : w.cell? ⟨b3, 4, none⟩ = some (.int .i64 a.wait) := cell_blk hb3 4
  have z30 := free_blk hb3 0
  have z31 := free_blk hb3 1
  have z32 := free_blk hb3 2
  have z33 := free_blk hb3 3
  have z34 := free_blk hb3 4
  have c4 : w.cell? ⟨b4, 0, none⟩ = some (.int .i64 e) := cell_blk (blk_get (H.pull 2 rfl)) 0
  have z4 := free_blk (blk_get (H.pull 2 rfl)) 0
  have n1 : ¬ b2 = b3 := blk_apart H
  have n2 : ¬ b3 = b4 := blk_apart H.tail
  have n3 : ¬ b2 = b4 := blk_apart (H.pull 1 rfl).tail
  have n4 : ¬ b3 = b2 := fun h => n1 h.symm
  have n5 : ¬ b4 = b3 := fun h => n2 h.symm
  have n6 : ¬ b4 = b2 := fun h => n3 h.symm
  replace G := Lib.hid G
  clear H hb3
  refine callsD_of_wpS Tryz.func33 rfl fun c₀ cs hu => ?_
  have hta := assert_fault
  apply wpS_seq
  apply wpS_region
  simp [wpOpsS, go_sem, recoverD, hu, PE, Tryz.ntmps33, Exit.thenS]
  refine wpS_of_wp ?_
  go_wp2
  exact ⟨rfl, _, rfl, .tuple #[], by simp [results, Tryz.results33], rfl, rfl, G.out⟩
set_option maxRecDepth 20000 in
theorem catch_r (p q u : Value) (w : World) :
    CallsD Tryz.prog 33 #[p, q, u] .returning w fun e' u' w' => e' = .returned (.tuple #[]) ∧ u' = .returning ∧ w' = w := by
  refine callsD_of_wpS Tryz.func33 rfl fun c₀ cs hu => ?_
  apply wpS_seq
  apply wpS_region
  simp [wpOpsS, go_sem, recoverD, hu, Tryz.ntmps33, Exit.thenS]
  refine wpS_of_wp ?_
  go_wp2
  cases c₀
  simp_all [bodyPostS, results, Tryz.results33]
end Go.Proofs.YtijkkompnfpdeaaGreatDoor
