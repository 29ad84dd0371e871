/- InstrsFour: the law's text. -/
import Derived.Test.YtceienodijgllacDoorJg
import Derived.Stop.BytesEq
set_option linter.unusedVariables false
set_option linter.unusedSimpArgs false
namespace Go.Proofs.YtceienodijgllacDoor
open Go.RowKit Go.Joins Go.Shelf
attribute [local go_sem] Oper.semAt_some

theorem eq_arr2 {a b c d a' b' c' d' : Nat} (h1 : a < 256) (h2 : b < 256) (h3 : c < 256) (h4 : d < 256) (h1' : a' < 256) (h2' : b' < 256) (h3' : c' < 256) (h4' : d' < 256) (w : World) : (Op.equalIn 10000 25 (inS a b c d) (inS a' b' c' d')).run Tryd.prog w = .ok (decide (a = a' ∧ b = b' ∧ c = c' ∧ d = d')) w := by
  have := run_equalIn_bytes (P := Tryd.prog) w 9998 25 5 4 Tryd.underlying25 Tryd.underlying5 (fun w => by kernel_rfl) [UInt8.ofNat a, UInt8.ofNat b, UInt8.ofNat c, UInt8.ofNat d] [UInt8.ofNat a', UInt8.ofNat b', UInt8.ofNat c', UInt8.ofNat d'] rfl rfl
  simp only [List.map_cons, List.map_nil, Extern.Stop.cell, UInt8.toNat_ofNat', Nat.mod_eq_of_lt h1, Nat.mod_eq_of_lt h2, Nat.mod_eq_of_lt h3, Nat.mod_eq_of_lt h4, Nat.mod_eq_of_lt h1', Nat.mod_eq_of_lt h2', Nat.mod_eq_of_lt h3', Nat.mod_eq_of_lt h4'] at this
  have e : ([UInt8.ofNat a, UInt8.ofNat b, UInt8.ofNat c, UInt8.ofNat d] == [UInt8.ofNat a', UInt8.ofNat b', UInt8.ofNat c', UInt8.ofNat d']) = decide (a = a' ∧ b = b' ∧ c = c' ∧ d = d') := by
    rw [Bool.eq_iff_iff]
    simp only [beq_iff_eq, List.cons.injEq, and_true, ← UInt8.toNat_inj, UInt8.toNat_ofNat', Nat.mod_eq_of_lt h1, Nat.mod_eq_of_lt h2, Nat.mod_eq_of_lt h3, Nat.mod_eq_of_lt h4, Nat.mod_eq_of_lt h1', Nat.mod_eq_of_lt h2', Nat.mod_eq_of_lt h3', Nat.mod_eq_of_lt h4', decide_eq_true_eq]
  rw [e] at this
  exact this
theorem xya_cells {w x : World} {ab yb xb : Nat} {u0 u1 u2 u3 v0 v1 v2 v3 : Int} {t : TypeId} (H : Hp w x [Blk ab (.cells #[.int .u8 u0, .int .u8 u1, .int .u8 u2, .int .u8 u3] t (0, 0)), Blk yb (.cells #[.int .u8 v0, .int .u8 v1, .int .u8 v2, .int .u8 v3] 24 (0, 0)), Blk xb (.cells #[.int .u8 u0, .int .u8 u1, .int .u8 u2, .int .u8 u3] 24 (0, 0))]) :
    x.cell? ⟨ab, 0, none⟩ = some (.int .u8 u0) ∧ x.cell? ⟨ab, 1, none⟩ = some (.int .u8 u1) ∧ x.cell? ⟨ab, 2, none⟩ = some (.int .u8 u2) ∧ x.cell? ⟨ab, 3, none⟩ = some (.int .u8 u3) ∧ x.cell? ⟨yb, 0, none⟩ = some (.int .u8 v0) ∧ x.cell? ⟨yb, 1, none⟩ = some (.int .u8 v1) ∧ x.cell? ⟨yb, 2, none⟩ = some (.int .u8 v2) ∧ x.cell? ⟨yb, 3, none⟩ = some (.int .u8 v3) ∧ x.cell? ⟨xb, 0, none⟩ = some (.int .u8 u0) ∧ x.cell? ⟨xb, 1, none⟩ = some (.int .u8 u1) ∧ x.cell? ⟨xb, 2, none⟩ = some (.int .u8 u2) ∧ x.cell? ⟨xb, 3, none⟩ = some (.int .u8 u3) := by
  have h0 := fun k => cell_blk (blk_get H) k
  have h1 := fun k => cell_blk (blk_get (H.pull 1 rfl)) k
  have h2 := fun k => cell_blk (blk_get (H.pull 2 rfl)) k
  exact ⟨h0 0, h0 1, h0 2, h0 3, h1 0, h1 1, h1 2, h1 3, h2 0, h2 1, h2 2, h2 3⟩
set_option maxHeartbeats 8000000 in
set_option maxRecDepth 20000 in
theorem four_c (w : World) (L : Lf w) (op a b c op' a' b' c' : Nat) (hop : op < 256) (ha : a < 256) (hb : b < 256) (hc : c < 256) (hop' : op' < 256) (ha' : a' < 256) (hb' : b' < 256) (hc' : c' < 256) :
    Calls Tryd.prog 3 #[inS op a b c, inS op' a' b' c'] w fun e w' => e = .returned (.bool true) ∧ Below w.heap.size w w' := by
  have H1 := Lib.hid (blk_new_at (blk_new (Hp.start w) (.cells #[.int .u8 op, .int .u8 a, .int .u8 b, .int .u8 c] 24)) (.cells #[.int .u8 op', .int .u8 a', .int .u8 b', .int .u8 c'] 24) (w.heap.size + 1) (size_alloc1 _ _))
  have HEQ := Lib.hid (eq_arr2 hop ha hb hc hop' ha' hb' hc')
  clear hop ha hb hc hop' ha' hb' hc'
  go_enter Tryd.func3, Tryd.ntmps3
  go_wp2_with fail
  refine (put_c (op := op) H1.out).mono ?_; rintro e w1 ⟨rfl, H2⟩
  have H4 := Lib.hid (blk_new H2 (.cells #[.int .u8 op, .int .u8 a, .int .u8 b, .int .u8 c] 25))
  clear H1 H2
  go_upto_region 2 with fail
  generalize (w1.alloc (.cells #[.int .u8 op, .int .u8 a, .int .u8 b, .int .u8 c] 25)) = w2 at *
  generalize w1.heap.size = ab at *
  have hS := xya_cells H4.out
  have hcs : (op = op' ∧ a = a' ∧ b = b' ∧ c = c') ∨ op ≠ op' ∨ (op = op' ∧ a ≠ a') ∨ (op = op' ∧ a = a' ∧ b ≠ b') ∨ (op = op' ∧ a = a' ∧ b = b' ∧ c ≠ c') := by omega
  rcases hcs with ⟨rfl, rfl, rfl, rfl⟩ | h | ⟨rfl, h⟩ | ⟨rfl, rfl, h⟩ | ⟨rfl, rfl, rfl, h⟩
  · have heq := HEQ.out
    simp only [and_self, decide_true] at heq
    clear HEQ
    go_region_held3 (fun x => x.cell? ⟨ab, 0, none⟩ = some (.int .u8 op) ∧ x.cell? ⟨ab, 1, none⟩ = some (.int .u8 a) ∧ x.cell? ⟨ab, 2, none⟩ = some (.int .u8 b) ∧ x.cell? ⟨ab, 3, none⟩ = some (.int .u8 c) ∧ x.cell? ⟨w.heap.size + 1, 0, none⟩ = some (.int .u8 op) ∧ x.cell? ⟨w.heap.size + 1, 1, none⟩ = some (.int .u8 a) ∧ x.cell? ⟨w.heap.size + 1, 2, none⟩ = some (.int .u8 b) ∧ x.cell? ⟨w.heap.size + 1, 3, none⟩ = some (.int .u8 c) ∧ x.cell? ⟨w.heap.size, 0, none⟩ = some (.int .u8 op) ∧ x.cell? ⟨w.heap.size, 1, none⟩ = some (.int .u8 a) ∧ x.cell? ⟨w.heap.size, 2, none⟩ = some (.int .u8 b) ∧ x.cell? ⟨w.heap.size, 3, none⟩ = some (.int .u8 c)) (first | exact hS) (first | (go_at_call 5; (first | refine (alive_c L H4.out).mono ?_ | refine (alive_c L H4.out.drew).mono ?_); rintro e wq ⟨rfl, G⟩; have hS := xya_cells G; have H4 := Lib.hid G) | (go_at_call 4; (first | refine (put_c (op := op) H4.out).mono ?_ | refine (put_c (op := op) H4.out.drew).mono ?_); rintro e wq ⟨rfl, G⟩; have hS := xya_cells G; have H4 := Lib.hid G))
    all_goals go_wp2
    all_goals go_ret
    all_goals exact ⟨by first | rfl | simp, H4.out.below⟩
  · have heq := HEQ.out
    have hi : ¬ (op : Int) = op' := by omega
    have hib : ((op : Int) == op') = false := by rw [beq_eq_false_iff_ne]; omega
    simp only [h, false_and, and_false, decide_false] at heq
    clear HEQ
    go_region_held3 (fun x => x.cell? ⟨ab, 0, none⟩ = some (.int .u8 op) ∧ x.cell? ⟨ab, 1, none⟩ = some (.int .u8 a) ∧ x.cell? ⟨ab, 2, none⟩ = some (.int .u8 b) ∧ x.cell? ⟨ab, 3, none⟩ = some (.int .u8 c) ∧ x.cell? ⟨w.heap.size + 1, 0, none⟩ = some (.int .u8 op') ∧ x.cell? ⟨w.heap.size + 1, 1, none⟩ = some (.int .u8 a') ∧ x.cell? ⟨w.heap.size + 1, 2, none⟩ = some (.int .u8 b') ∧ x.cell? ⟨w.heap.size + 1, 3, none⟩ = some (.int .u8 c') ∧ x.cell? ⟨w.heap.size, 0, none⟩ = some (.int .u8 op) ∧ x.cell? ⟨w.heap.size, 1, none⟩ = some (.int .u8 a) ∧ x.cell? ⟨w.heap.size, 2, none⟩ = some (.int .u8 b) ∧ x.cell? ⟨w.heap.size, 3, none⟩ = some (.int .u8 c)) (first | exact hS) (first | (go_at_call 5; (first | refine (alive_c L H4.out).mono ?_ | refine (alive_c L H4.out.drew).mono ?_); rintro e wq ⟨rfl, G⟩; have hS := xya_cells G; have H4 := Lib.hid G) | (go_at_call 4; (first | refine (put_c (op := op') H4.out).mono ?_ | refine (put_c (op := op') H4.out.drew).mono ?_); rintro e wq ⟨rfl, G⟩; have hS := xya_cells G; have H4 := Lib.hid G))
    all_goals go_wp2
    all_goals go_ret
    all_goals exact ⟨by first | rfl | simp, H4.out.below⟩
  · have heq := HEQ.out
    have hi : ¬ (a : Int) = a' := by omega
    have hib : ((a : Int) == a') = false := by rw [beq_eq_false_iff_ne]; omega
    simp only [h, false_and, and_false, decide_false] at heq
    clear HEQ
    go_region_held3 (fun x => x.cell? ⟨ab, 0, none⟩ = some (.int .u8 op) ∧ x.cell? ⟨ab, 1, none⟩ = some (.int .u8 a) ∧ x.cell? ⟨ab, 2, none⟩ = some (.int .u8 b) ∧ x.cell? ⟨ab, 3, none⟩ = some (.int .u8 c) ∧ x.cell? ⟨w.heap.size + 1, 0, none⟩ = some (.int .u8 op) ∧ x.cell? ⟨w.heap.size + 1, 1, none⟩ = some (.int .u8 a') ∧ x.cell? ⟨w.heap.size + 1, 2, none⟩ = some (.int .u8 b') ∧ x.cell? ⟨w.heap.size + 1, 3, none⟩ = some (.int .u8 c') ∧ x.cell? ⟨w.heap.size, 0, none⟩ = some (.int .u8 op) ∧ x.cell? ⟨w.heap.size, 1, none⟩ = some (.int .u8 a) ∧ x.cell? ⟨w.heap.size, 2, none⟩ = some (.int .u8 b) ∧ x.cell? ⟨w.heap.size, 3, none⟩ = some (.int .u8 c)) (first | exact hS) (first | (go_at_call 5; (first | refine (alive_c L H4.out).mono ?_ | refine (alive_c L H4.out.drew).mono ?_); rintro e wq ⟨rfl, G⟩; have hS := xya_cells G; have H4 := Lib.hid G) | (go_at_call 4; (first | refine (put_c (op := op) H4.out).mono ?_ | refine (put_c (op := op) H4.out.drew).mono ?_); rintro e wq ⟨rfl, G⟩; have hS := xya_cells G; have H4 := Lib.hid G))
    all_goals go_wp2
    all_goals go_ret
    all_goals exact ⟨by first | rfl | simp, H4.out.below⟩
  · have heq := HEQ.out
    have hi : ¬ (b : Int) = b' := by omega
    have hib : ((b : Int) == b') = false := by rw [beq_eq_false_iff_ne]; omega
    simp only [h, false_and, and_false, decide_false] at heq
    clear HEQ
    go_region_held3 (fun x => x.cell? ⟨ab, 0, none⟩ = some (.int .u8 op) ∧ x.cell? ⟨ab, 1, none⟩ = some (.int .u8 a) ∧ x.cell? ⟨ab, 2, none⟩ = some (.int .u8 b) ∧ x.cell? ⟨ab, 3, none⟩ = some (.int .u8 c) ∧ x.cell? ⟨w.heap.size + 1, 0, none⟩ = some (.int .u8 op) ∧ x.cell? ⟨w.heap.size + 1, 1, none⟩ = some (.int .u8 a) ∧ x.cell? ⟨w.heap.size + 1, 2, none⟩ = some (.int .u8 b') ∧ x.cell? ⟨w.heap.size + 1, 3, none⟩ = some (.int .u8 c') ∧ x.cell? ⟨w.heap.size, 0, none⟩ = some (.int .u8 op) ∧ x.cell? ⟨w.heap.size, 1, none⟩ = some (.int .u8 a) ∧ x.cell? ⟨w.heap.size, 2, none⟩ = some (.int .u8 b) ∧ x.cell? ⟨w.heap.size, 3, none⟩ = some (.int .u8 c)) (first | exact hS) (first | (go_at_call 5; (first | refine (alive_c L H4.out).mono ?_ | refine (alive_c L H4.out.drew).mono ?_); rintro e wq ⟨rfl, G⟩; have hS := xya_cells G; have H4 := Lib.hid G) | (go_at_call 4; (first | refine (put_c (op := op) H4.out).mono ?_ | refine (put_c (op := op) H4.out.drew).mono ?_); rintro e wq ⟨rfl, G⟩; have hS := xya_cells G; have H4 := Lib.hid G))
    all_goals go_wp2
    all_goals go_ret
    all_goals exact ⟨by first | rfl | simp, H4.out.below⟩
  · have heq := HEQ.out
    have hi : ¬ (c : Int) = c' := by omega
    have hib : ((c : Int) == c') = false := by rw [beq_eq_false_iff_ne]; omega
    simp only [h, false_and, and_false, decide_false] at heq
    clear HEQ
    go_region_held3 (fun x => x.cell? ⟨ab, 0, none⟩ = some (.int .u8 op) ∧ x.cell? ⟨ab, 1, none⟩ = some (.int .u8 a) ∧ x.cell? ⟨ab, 2, none⟩ = some (.int .u8 b) ∧ x.cell? ⟨ab, 3, none⟩ = some (.int .u8 c) ∧ x.cell? ⟨w.heap.size + 1, 0, none⟩ = some (.int .u8 op) ∧ x.cell? ⟨w.heap.size + 1, 1, none⟩ = some (.int .u8 a) ∧ x.cell? ⟨w.heap.size + 1, 2, none⟩ = some (.int .u8 b) ∧ x.cell? ⟨w.heap.size + 1, 3, none⟩ = some (.int .u8 c') ∧ x.cell? ⟨w.heap.size, 0, none⟩ = some (.int .u8 op) ∧ x.cell? ⟨w.heap.size, 1, none⟩ = some (.int .u8 a) ∧ x.cell? ⟨w.heap.size, 2, none⟩ = some (.int .u8 b) ∧ x.cell? ⟨w.heap.size, 3, none⟩ = some (.int .u8 c)) (first | exact hS) (first | (go_at_call 5; (first | refine (alive_c L H4.out).mono ?_ | refine (alive_c L H4.out.drew).mono ?_); rintro e wq ⟨rfl, G⟩; have hS := xya_cells G; have H4 := Lib.hid G) | (go_at_call 4; (first | refine (put_c (op := op) H4.out).mono ?_ | refine (put_c (op := op) H4.out.drew).mono ?_); rintro e wq ⟨rfl, G⟩; have hS := xya_cells G; have H4 := Lib.hid G))
    all_goals go_wp2
    all_goals go_ret
    all_goals exact ⟨by first | rfl | simp, H4.out.below⟩
end Go.Proofs.YtceienodijgllacDoor
