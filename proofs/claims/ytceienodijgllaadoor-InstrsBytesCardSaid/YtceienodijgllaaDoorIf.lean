/- InstrsBytes of timekeeperlaw02: the walk. -/
import Derived.Test.YtceienodijgllaaDoorIe
import Derived.Stop.BytesEq
set_option linter.unusedVariables false
set_option linter.unusedSimpArgs false
namespace Go.Proofs.YtceienodijgllaaDoor
open Go.RowKit Go.Lib
attribute [local go_sem] Oper.semAt_some

/-- What Get answers. -/
def gv (op : Nat) (a b c : Int) : Value := if ck op a b c then inS op a b c else .agg zS
def gc (op : Nat) (a b c : Int) : Int := if ck op a b c then 0 else 14
theorem get_c {w0 w : World} {r : List Thing} {op : Nat} {a b c : Int} (H : Hp w0 w r) (hb : By3 a b c) :
    ∃ u0 u1 u2 u3 : Int, gv op a b c = .agg #[.int .u8 u0, .int .u8 u1, .int .u8 u2, .int .u8 u3] ∧ Calls Tryd.prog 7 #[inS op a b c] w fun e w' => e = .returned (.tuple #[.agg #[.int .u8 u0, .int .u8 u1, .int .u8 u2, .int .u8 u3], .int .i64 (gc op a b c)]) ∧ Hp w0 w' r := by
  unfold gv gc
  by_cases hk : ck op a b c = true
  · rw [if_pos hk, if_pos hk]; exact ⟨_, _, _, _, rfl, get_yes H hb hk⟩
  · rw [if_neg hk, if_neg hk]; exact ⟨_, _, _, _, rfl, get_no H hb (by simpa using hk)⟩
theorem rget_c {w0 w : World} {r : List Thing} {op : Nat} {a b c : Int} (H : Hp w0 w r) (hb : By3 a b c) (hop : op < 256) :
    Calls Tryd.prog 8 #[inS op a b c] w fun e w' => e = .returned (.tuple #[gv op a b c, .int .i64 (gc op a b c)]) ∧ Hp w0 w' r := by
  unfold gv gc
  by_cases hk : ck op a b c = true
  · rw [if_pos hk, if_pos hk]; exact rget_yes H hb hop hk
  · rw [if_neg hk, if_neg hk]; exact rget_no H hb hop (by simpa using hk)

set_option maxRecDepth 20000 in
theorem eq_arr {a b c d : Nat} (h1 : a < 256) (h2 : b < 256) (h3 : c < 256) (h4 : d < 256) (w : World) : (Op.equalIn 10000 25 (inS a b c d) (inS a b c d)).run Tryd.prog w = .ok true w := by
  have := run_equalIn_bytes (P := Tryd.prog) w 9998 25 5 4 Tryd.underlying25 Tryd.underlying5 (fun w => by kernel_rfl) [UInt8.ofNat a, UInt8.ofNat b, UInt8.ofNat c, UInt8.ofNat d] [UInt8.ofNat a, UInt8.ofNat b, UInt8.ofNat c, UInt8.ofNat d] rfl rfl
  simp [Extern.Stop.cell, UInt8.toNat_ofNat, Nat.mod_eq_of_lt h1, Nat.mod_eq_of_lt h2, Nat.mod_eq_of_lt h3, Nat.mod_eq_of_lt h4] at this
  exact this
theorem xyz_cells {w x : World} {zb yb bb xb : Nat} {u0 u1 u2 u3 v0 v1 v2 v3 p q r s : Int} {t : TypeId} (H : Hp w x [Blk zb (.cells #[.int .u8 u0, .int .u8 u1, .int .u8 u2, .int .u8 u3] 24 (0, 0)), Blk yb (.cells #[.int .u8 u0, .int .u8 u1, .int .u8 u2, .int .u8 u3] 24 (0, 0)), Blk bb (.cells #[.int .u8 p, .int .u8 q, .int .u8 r, .int .u8 s] t (0, 0)), Blk xb (.cells #[.int .u8 v0, .int .u8 v1, .int .u8 v2, .int .u8 v3] 24 (0, 0))]) :
    x.cell? ⟨zb, 0, none⟩ = some (.int .u8 u0) ∧ x.cell? ⟨zb, 1, none⟩ = some (.int .u8 u1) ∧ x.cell? ⟨zb, 2, none⟩ = some (.int .u8 u2) ∧ x.cell? ⟨zb, 3, none⟩ = some (.int .u8 u3) ∧ x.cell? ⟨yb, 0, none⟩ = some (.int .u8 u0) ∧ x.cell? ⟨yb, 1, none⟩ = some (.int .u8 u1) ∧ x.cell? ⟨yb, 2, none⟩ = some (.int .u8 u2) ∧ x.cell? ⟨yb, 3, none⟩ = some (.int .u8 u3) ∧ x.cell? ⟨xb, 0, none⟩ = some (.int .u8 v0) ∧ x.cell? ⟨xb, 1, none⟩ = some (.int .u8 v1) ∧ x.cell? ⟨xb, 2, none⟩ = some (.int .u8 v2) ∧ x.cell? ⟨xb, 3, none⟩ = some (.int .u8 v3) := by
  have h0 := fun k => cell_blk (blk_get H) k
  have h1 := fun k => cell_blk (blk_get (H.pull 1 rfl)) k
  have h3 := fun k => cell_blk (blk_get (H.pull 3 rfl)) k
  exact ⟨h0 0, h0 1, h0 2, h0 3, h1 0, h1 1, h1 2, h1 3, h3 0, h3 1, h3 2, h3 3⟩
set_option maxHeartbeats 8000000 in
set_option maxRecDepth 20000 in
theorem bytes_c (op a b c : Nat) (p q r s : Nat) (h1 : op < 256) (h2 : a < 256) (h3 : b < 256) (h4 : c < 256) (k1 : p < 256) (k2 : q < 256) (k3 : r < 256) (k4 : s < 256) (w : World) :
    Calls Tryd.prog 3 #[inS op a b c, inS p q r s] w fun e w' => e = .returned (.bool true) ∧ Below w.heap.size w w' := by
  have hb : By3 a b c := ⟨⟨by omega, by omega⟩, ⟨by omega, by omega⟩, ⟨by omega, by omega⟩⟩
  have kb : By3 q r s := ⟨⟨by omega, by omega⟩, ⟨by omega, by omega⟩, ⟨by omega, by omega⟩⟩
  have HX := Lib.hid (blk_new_at (blk_new (Hp.start w) (.cells #[.int .u8 op, .int .u8 a, .int .u8 b, .int .u8 c] 24)) (.cells #[.int .u8 p, .int .u8 q, .int .u8 r, .int .u8 s] 25) (w.heap.size + 1) (size_alloc1 _ _))
  go_enter Tryd.func3, Tryd.ntmps3
  go_wp2_with fail
  obtain ⟨u0, u1, u2, u3, hu, hg⟩ := get_c (op := p) HX.out kb
  have HU := Lib.hid hu
  clear hu
  refine hg.mono ?_; rintro e w1 ⟨rfl, H1⟩
  have H2 := Lib.hid (blk_new H1 (.cells #[.int .u8 u0, .int .u8 u1, .int .u8 u2, .int .u8 u3] 24))
  have x0 : (w1.alloc (.cells #[.int .u8 u0, .int .u8 u1, .int .u8 u2, .int .u8 u3] 24)).cell? ⟨w.heap.size + 1, 0, none⟩ = some (.int .u8 p) := cell_blk (blk_get (H2.out.pull 1 rfl)) 0
  have x1 : (w1.alloc (.cells #[.int .u8 u0, .int .u8 u1, .int .u8 u2, .int .u8 u3] 24)).cell? ⟨w.heap.size + 1, 1, none⟩ = some (.int .u8 q) := cell_blk (blk_get (H2.out.pull 1 rfl)) 1
  have x2 : (w1.alloc (.cells #[.int .u8 u0, .int .u8 u1, .int .u8 u2, .int .u8 u3] 24)).cell? ⟨w.heap.size + 1, 2, none⟩ = some (.int .u8 r) := cell_blk (blk_get (H2.out.pull 1 rfl)) 2
  have x3 : (w1.alloc (.cells #[.int .u8 u0, .int .u8 u1, .int .u8 u2, .int .u8 u3] 24)).cell? ⟨w.heap.size + 1, 3, none⟩ = some (.int .u8 s) := cell_blk (blk_get (H2.out.pull 1 rfl)) 3
  clear H1 HX hg
  have hg2 := rget_c (op := p) H2.out kb k1
  rw [HU.out] at hg2
  have HG := Lib.hid hg2
  clear hg2
  go_wp2_with fail
  refine HG.out.mono ?_; rintro e w2 ⟨rfl, H3⟩
  have H4 := Lib.hid (blk_new H3 (.cells #[.int .u8 u0, .int .u8 u1, .int .u8 u2, .int .u8 u3] 24))
  clear H2 H3 HG HU x0 x1 x2 x3
  go_upto_region 3 with fail
  generalize hw3 : (w2.alloc (.cells #[.int .u8 u0, .int .u8 u1, .int .u8 u2, .int .u8 u3] 24)) = w3 at *
  clear hw3
  generalize w2.heap.size = zb at *
  generalize w1.heap.size = yb at *
  have hS := xyz_cells H4.out
  have heq := eq_arr h1 h2 h3 h4
  go_region_held3 (fun x => x.cell? ⟨zb, 0, none⟩ = some (.int .u8 u0) ∧ x.cell? ⟨zb, 1, none⟩ = some (.int .u8 u1) ∧ x.cell? ⟨zb, 2, none⟩ = some (.int .u8 u2) ∧ x.cell? ⟨zb, 3, none⟩ = some (.int .u8 u3) ∧ x.cell? ⟨yb, 0, none⟩ = some (.int .u8 u0) ∧ x.cell? ⟨yb, 1, none⟩ = some (.int .u8 u1) ∧ x.cell? ⟨yb, 2, none⟩ = some (.int .u8 u2) ∧ x.cell? ⟨yb, 3, none⟩ = some (.int .u8 u3) ∧ x.cell? ⟨w.heap.size, 0, none⟩ = some (.int .u8 op) ∧ x.cell? ⟨w.heap.size, 1, none⟩ = some (.int .u8 a) ∧ x.cell? ⟨w.heap.size, 2, none⟩ = some (.int .u8 b) ∧ x.cell? ⟨w.heap.size, 3, none⟩ = some (.int .u8 c)) (first | exact hS) (first | (go_at_call 9; (first | refine (check_c (op := op) H4.out hb).mono ?_ | refine (check_c (op := op) H4.out.drew hb).mono ?_); rintro e wq ⟨rfl, G⟩; have hS := xyz_cells G; have H4 := Lib.hid G) | (go_at_call 10; (first | refine (rcheck_c (op := op) H4.out hb h1).mono ?_ | refine (rcheck_c (op := op) H4.out.drew hb h1).mono ?_); rintro e wq ⟨rfl, G⟩; have hS := xyz_cells G; have H4 := Lib.hid G) | (go_at_call 11; (first | refine (put_c (op := op) H4.out).mono ?_ | refine (put_c (op := op) H4.out.drew).mono ?_); rintro e wq ⟨rfl, G⟩; have hS := xyz_cells G; have H4 := Lib.hid G) | (go_at_call 12; (first | refine (rput_c (op := op) H4.out).mono ?_ | refine (rput_c (op := op) H4.out.drew).mono ?_); rintro e wq ⟨rfl, G⟩; have hS := xyz_cells G; have H4 := Lib.hid G))
  all_goals go_wp2
  all_goals go_ret
  all_goals exact ⟨by first | rfl | simp, H4.out.below⟩
end Go.Proofs.YtceienodijgllaaDoor
