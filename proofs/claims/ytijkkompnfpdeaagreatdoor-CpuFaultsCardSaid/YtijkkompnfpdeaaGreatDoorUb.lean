/- Regions: a task's own bytes: walked. -/
import Derived.Test.YtijkkompnfpdeaaGreatDoorUa
import Derived.Deep.OwnRows
import Derived.Laws.CopyRow
import Derived.Laws.BitsAllLaws
set_option linter.unusedVariables false
set_option linter.unusedSimpArgs false
namespace Go.Proofs.YtijkkompnfpdeaaGreatDoor
open Go.RowKit Go.Joins Go.Shelf
attribute [local go_sem] Oper.semAt_some

/-- Bytes, in a block of their own; a region. -/
abbrev MB (mb : Nat) (m : List UInt8) : Thing := Blk mb (.cells (m.map bv).toArray 5 (0, 0))
abbrev RGN (rb mb n : Nat) : Thing := Blk rb (.cells #[.slice (some ⟨mb, 0, none⟩) n n, .bool true] 102 (0, 0))
set_option maxHeartbeats 2000000 in
theorem part_y (rb mb n k : Nat) (a : UInt32) (w : World) (hk : k ≤ 4) (hk0 : 0 < k) (h : a.toNat + k ≤ n) (hn : n ≤ 4096) (r0 : w.cell? ⟨rb, 0, none⟩ = some (.slice (some ⟨mb, 0, none⟩) n n)) (r1 : w.cell? ⟨rb, 1, none⟩ = some (.bool true)) :
    Calls Tryz.prog 127 #[.pointer (some ⟨rb, 0, none⟩), wv a, .int .u64 k] w fun e w' => e = .returned (.tuple #[.slice (some ⟨mb, a.toNat, none⟩) k k, .int .i64 0]) ∧ w' = w := by
  have c1 : IntKind.u64.wrap (a.toNat : Int) = (a.toNat : Int) := by rw [IntKind.wrap_u64]; omega
  have c2 : IntKind.u64.wrap ((a.toNat : Int) + (k : Int)) = (a.toNat : Int) + (k : Int) := by rw [IntKind.wrap_u64]; omega
  have c3 : IntKind.u64.wrap (n : Int) = (n : Int) := by rw [IntKind.wrap_u64]; omega
  have c4 : ¬ ((n : Int) < (a.toNat : Int) + (k : Int)) := by omega
  have c5 : ((a.toNat : Int) + (k : Int)).toNat = a.toNat + k := by omega
  go_enter Tryz.func127, Tryz.ntmps127
  go_wp2
  go_ret2
  exact ⟨rfl, rfl⟩
set_option maxHeartbeats 2000000 in
theorem part_n (rb mb n k : Nat) (a : UInt32) (w : World) (hk : k ≤ 4) (h : ¬ a.toNat + k ≤ n) (hn : n ≤ 4096) (r0 : w.cell? ⟨rb, 0, none⟩ = some (.slice (some ⟨mb, 0, none⟩) n n)) (r1 : w.cell? ⟨rb, 1, none⟩ = some (.bool true)) :
    Calls Tryz.prog 127 #[.pointer (some ⟨rb, 0, none⟩), wv a, .int .u64 k] w fun e w' => e = .returned (.tuple #[.slice none 0 0, .int .i64 4]) ∧ w' = w := by
  have := a.toNat_lt
  have c1 : IntKind.u64.wrap (a.toNat : Int) = (a.toNat : Int) := by rw [IntKind.wrap_u64]; omega
  have c2 : IntKind.u64.wrap ((a.toNat : Int) + (k : Int)) = (a.toNat : Int) + (k : Int) := by rw [IntKind.wrap_u64]; omega
  have c3 : IntKind.u64.wrap (n : Int) = (n : Int) := by rw [IntKind.wrap_u64]; omega
  have c4 : ((n : Int) < (a.toNat : Int) + (k : Int)) := by omega
  clear this
  go_enter Tryz.func127, Tryz.ntmps127
  go_wp2
  go_ret2
  exact ⟨rfl, rfl⟩
/-- Bytes read one behind the other. -/
def pn (m : List UInt8) (k : Nat) : Nat → Nat
  | 0 => 0
  | j + 1 => pn m k j * 256 + (m.getD (k + j) 0).toNat
theorem pn_lt (m : List UInt8) (k : Nat) : ∀ j, pn m k j < 256 ^ j
  | 0 => by simp [pn]
  | j + 1 => by
    have h1 := pn_lt m k j
    have h2 := (m.getD (k + j) 0).toNat_lt
    rw [pn, Nat.pow_succ]; omega
theorem pn_four (m : List UInt8) (k : Nat) : pn m k 4 = ((((m.getD k 0).toNat * 256 + (m.getD (k + 1) 0).toNat) * 256 + (m.getD (k + 2) 0).toNat) * 256 + (m.getD (k + 3) 0).toNat) := by simp [pn]
theorem pn_ld (m : List UInt8) (k : Nat) : ((ld4 m k).toNat : Int) = (pn m k 4 : Nat) := by
  have h := pn_lt m k 4
  rw [ld4, ← pn_four, UInt32.toNat_ofNat', Nat.mod_eq_of_lt (by omega)]
theorem or_byte (x c : Nat) (hx : x < 16777216) (hc : c < 256) : bits .or .u32 (IntKind.u32.wrap ((x : Int) * 256)) (c : Int) = ((x * 256 + c : Nat) : Int) := by
  have e : IntKind.u32.wrap ((x : Int) * 256) = ((x * 256 : Nat) : Int) := by rw [IntKind.wrap_u32]; omega
  rw [e, u32_or_nat _ _ (by omega) (by omega)]
  have h := Nat.shiftLeft_add_eq_or_of_lt (i := 8) (b := c) (by omega) x
  rw [Nat.shiftLeft_eq] at h
  rw [← h]
theorem mb_cell {w0 w : World} {r : List Thing} {mb : Nat} {m : List UInt8} (H : Hp w0 w (MB mb m :: r)) {k : Nat} (hk : k < m.length) : w.cell? ⟨mb, k, none⟩ = some (bv (m.getD k 0)) := by
  rw [cell_blk (blk_get H) k]
  simp [hk]
set_option maxHeartbeats 4000000 in
theorem word_y (rb mb : Nat) (m : List UInt8) (a : UInt32) (w : World) (h : a.toNat + 4 ≤ m.length) (hn : m.length ≤ 4096) (r0 : w.cell? ⟨rb, 0, none⟩ = some (.slice (some ⟨mb, 0, none⟩) m.length m.length)) (r1 : w.cell? ⟨rb, 1, none⟩ = some (.bool true))
    (hm : ∀ k, k < m.length → w.cell? ⟨mb, k, none⟩ = some (bv (m.getD k 0))) :
    Calls Tryz.prog 84 #[.pointer (some ⟨rb, 0, none⟩), wv a] w fun e w' => e = .returned (.tuple #[wv (ld4 m a.toNat), .int .i64 0]) ∧ w' = w := by
  have CP := Lib.hid (part_y rb mb m.length 4 a w (by omega) (by omega) h hn r0 r1)
  have HM := Lib.hid hm
  have HL := Lib.hid h
  clear r0 r1 hm h hn
  go_enter Tryz.func84, Tryz.ntmps84
  go_wp2_with fail
  refine CP.out.mono ?_; rintro e w1 ⟨rfl, rfl⟩
  clear CP
  go_wp2
  go_loopw [4, 17] (fun s4 s17 wr => ∃ j : Nat, j ≤ 4 ∧ s17 = .int .i64 j ∧ s4 = .int .u32 (pn m a.toNat j : Nat) ∧ wr = w1) (fun _ s17 _ => 4 - (intOf s17).toNat)
  case atStart => exact ⟨0, by omega, rfl, rfl, rfl⟩
  case round =>
    obtain ⟨j, hj, rfl, rfl, rfl⟩ := hrel
    by_cases hlt : j < 4
    · have cm := HM.out (a.toNat + j) (by have := HL.out; omega)
      have hp := pn_lt m a.toNat j
      have hp2 : 256 ^ j ≤ 16777216 := by
        have : 256 ^ j ≤ 256 ^ 3 := Nat.pow_le_pow_right (by omega) (by omega)
        omega
      have hs : pn m a.toNat (j + 1) = pn m a.toNat j * 256 + (m.getD (a.toNat + j) 0).toNat := rfl
      generalize m.getD (a.toNat + j) 0 = b at *
      have hb := b.toNat_lt
      have ho := or_byte (pn m a.toNat j) b.toNat (by omega) (by omega)
      rw [← hs] at ho
      have HO := Lib.hid ho
      have hkw : IntKind.i64.wrap ((j : Int) + 1) = (j : Int) + 1 := by rw [IntKind.wrap_i64]; omega
      have hcw : IntKind.u32.wrap (b.toNat : Int) = (b.toNat : Int) := by rw [IntKind.wrap_u32]; omega
      clear hb hp hp2 hs ho
      go_wp2
      go_roundw
      case rel =>
        refine ⟨j + 1, by omega, by go_num, ?_, by trivial⟩
        rw [← HO.out]
        first | rfl | exact congrArg (fun x => Value.int .u32 (bits .or .u32 _ x)) hcw
      case measure => simp [intOf]; omega
    · obtain rfl : j = 4 := by omega
      have HP := Lib.hid (pn_ld m a.toNat)
      generalize pn m a.toNat 4 = q at *
      clear HM
      go_wp2
      go_ret2
      refine ⟨?_, rfl⟩
      show Ending.returned (.tuple #[.int .u32 (q : Int), .int .i64 0]) = _
      rw [← HP.out]
set_option maxHeartbeats 2000000 in
theorem word_n (rb mb n : Nat) (a : UInt32) (w : World) (h : ¬ a.toNat + 4 ≤ n) (hn : n ≤ 4096) (r0 : w.cell? ⟨rb, 0, none⟩ = some (.slice (some ⟨mb, 0, none⟩) n n)) (r1 : w.cell? ⟨rb, 1, none⟩ = some (.bool true)) :
    Calls Tryz.prog 84 #[.pointer (some ⟨rb, 0, none⟩), wv a] w fun e w' => e = .returned (.tuple #[.int .u32 0, .int .i64 4]) ∧ w' = w := by
  have CP := Lib.hid (part_n rb mb n 4 a w (by omega) h hn r0 r1)
  clear r0 r1 h hn
  go_enter Tryz.func84, Tryz.ntmps84
  go_wp2_with fail
  refine CP.out.mono ?_; rintro e w1 ⟨rfl, rfl⟩
  clear CP
  go_wp2
  go_loopw [4, 17] (fun s4 s17 wr => s4 = .int .u32 0 ∧ s17 = .int .i64 0 ∧ wr = w1) (fun _ _ _ => 0)
  case atStart => exact ⟨rfl, rfl, rfl⟩
  case round =>
    obtain ⟨rfl, rfl, rfl⟩ := hrel
    go_wp2
    go_ret2
    exact ⟨rfl, rfl⟩
set_option maxHeartbeats 2000000 in
theorem byte_y (rb mb : Nat) (m : List UInt8) (a : UInt32) (w : World) (h : a.toNat + 1 ≤ m.length) (hn : m.length ≤ 4096) (r0 : w.cell? ⟨rb, 0, none⟩ = some (.slice (some ⟨mb, 0, none⟩) m.length m.length)) (r1 : w.cell? ⟨rb, 1, none⟩ = some (.bool true))
    (hm : ∀ k, k < m.length → w.cell? ⟨mb, k, none⟩ = some (bv (m.getD k 0))) :
    Calls Tryz.prog 87 #[.pointer (some ⟨rb, 0, none⟩), wv a] w fun e w' => e = .returned (.tuple #[bv (m.getD a.toNat 0), .int .i64 0]) ∧ w' = w := by
  have CP := Lib.hid (part_y rb mb m.length 1 a w (by omega) (by omega) h hn r0 r1)
  have cm := hm a.toNat (by omega)
  clear r0 r1 hm h hn
  go_enter Tryz.func87, Tryz.ntmps87
  go_wp2_with fail
  refine CP.out.mono ?_; rintro e w1 ⟨rfl, rfl⟩
  clear CP
  go_wp2
  go_ret2
  exact ⟨rfl, rfl⟩
set_option maxHeartbeats 2000000 in
theorem byte_n (rb mb n : Nat) (a : UInt32) (w : World) (h : ¬ a.toNat + 1 ≤ n) (hn : n ≤ 4096) (r0 : w.cell? ⟨rb, 0, none⟩ = some (.slice (some ⟨mb, 0, none⟩) n n)) (r1 : w.cell? ⟨rb, 1, none⟩ = some (.bool true)) :
    Calls Tryz.prog 87 #[.pointer (some ⟨rb, 0, none⟩), wv a] w fun e w' => e = .returned (.tuple #[.int .u8 0, .int .i64 4]) ∧ w' = w := by
  have CP := Lib.hid (part_n rb mb n 1 a w (by omega) h hn r0 r1)
  clear r0 r1 h hn
  go_enter Tryz.func87, Tryz.ntmps87
  go_wp2_with fail
  refine CP.out.mono ?_; rintro e w1 ⟨rfl, rfl⟩
  clear CP
  go_wp2
  go_ret2
  exact ⟨rfl, rfl⟩
theorem blk_sets {w0 : World} {r : List Thing} {b : Nat} {e : TypeId} {f : Nat × Nat} : ∀ (vs : List Value) {w : World} {cur : Array Value} (o : Nat), Hp w0 w (Blk b (.cells cur e f) :: r) → Hp w0 (w.setCells b o vs) (Blk b (.cells (laid cur o vs) e f) :: r)
  | [], _, _, _, h => h
  | v :: vs, w, cur, o, h => blk_sets vs (o + 1) (blk_set h o v)
theorem laid_lay : ∀ (l m : List UInt8) (o : Nat), laid (m.map bv).toArray o (l.map bv) = ((layB m o l).map bv).toArray
  | [], m, o => rfl
  | x :: l, m, o => by
    have e : (m.map bv).toArray.setIfInBounds o (bv x) = ((m.set o x).map bv).toArray := by simp [List.map_set]
    rw [List.map_cons, laid, layB, ← laid_lay l (m.set o x), e]
theorem w4_get (v : UInt32) : ∃ x0 x1 x2 x3 : UInt8, w4 v = [x0, x1, x2, x3] ∧ IntKind.u8.wrap ((v.toNat : Int) / 16777216) = (x0.toNat : Int) ∧ IntKind.u8.wrap ((v.toNat : Int) / 65536) = (x1.toNat : Int) ∧ IntKind.u8.wrap ((v.toNat : Int) / 256) = (x2.toNat : Int) ∧ IntKind.u8.wrap (v.toNat : Int) = (x3.toNat : Int) :=
  ⟨_, _, _, _, rfl, by simp [IntKind.wrap_u8], by simp [IntKind.wrap_u8], by simp [IntKind.wrap_u8], by simp [IntKind.wrap_u8]⟩
theorem info_u8s : (Tryz.prog.info? 5).map (·.size) = some 1 := by kernel_rfl
/-- Bytes copied over some of a block's. -/
theorem copy_bytes {w0 w : World} {r : List Thing} {mb g n c : Nat} {m l : List UInt8} {fr : Nat × Nat} (k : Nat) (H : Hp w0 w (MB mb m :: r)) (hg : w.heap[g]? = some (.cells (l.map bv).toArray 5 fr)) (hk : k + l.length ≤ m.length) (hn : l.length ≤ n) (ty : TypeId) :
    (Builtin.copy_ #[22, 22] ty #[.slice (some ⟨mb, k, none⟩) n c, .slice (some ⟨g, 0, none⟩) l.length l.length]).run Tryz.prog w = .ok (goInt l.length) (w.setCells mb k (l.map bv)) ∧ Hp w0 (w.setCells mb k (l.map bv)) (MB mb (layB m k l) :: r) := by
  have hb := blk_get H
  refine ⟨?_, ?_⟩
  · have := run_copy_cells (P := Tryz.prog) w 22 22 ty 5 mb k n c ⟨g, 0, none⟩ l.length l.length (l.map bv) Tryz.underlying22 info_u8s (by rw [List.length_map]; exact (Nat.min_eq_left hn).symm) (fun j v hj => by
      rw [show (⟨g, 0, none⟩ : Addr).add j = ⟨g, 0 + j, none⟩ from Addr.add_lit g 0 j, Nat.zero_add, cell_blk hg]; simpa using hj) (fun j hj => by
      rw [cell_blk hb]; simp at hj; simp; omega) (fun j hj => free_blk hb _) (fun v hv => by
      obtain ⟨x, _, rfl⟩ := List.mem_map.1 hv; rfl)
    rwa [List.length_map] at this
  · have := blk_sets (l.map bv) k H
    rwa [laid_lay] at this
set_option maxHeartbeats 4000000 in
set_option maxRecDepth 20000 in
theorem setword_y {w0 w : World} {r : List Thing} (rb mb : Nat) (m : List UInt8) (a v : UInt32) (h : a.toNat + 4 ≤ m.length) (hn : m.length ≤ 4096) (H : Hp w0 w (MB mb m :: RGN rb mb m.length :: r)) :
    Calls Tryz.prog 90 #[.pointer (some ⟨rb, 0, none⟩), wv a, wv v] w fun e w' => e = .returned (.int .i64 0) ∧ Hp w0 w' (MB mb (layB m a.toNat (w4 v)) :: RGN rb mb m.length :: r) := by
  have r0 : w.cell? ⟨rb, 0, none⟩ = _ := cell_blk (blk_get H.tail) 0
  have r1 : w.cell? ⟨rb, 1, none⟩ = _ := cell_blk (blk_get H.tail) 1
  have CP := Lib.hid (part_y rb mb m.length 4 a w (by omega) (by omega) h hn r0 r1)
  obtain ⟨x0, x1, x2, x3, e4, q0, q1, q2, q3⟩ := w4_get v
  have HG := copy_bytes (n := 4) (c := 4) (l := [x0, x1, x2, x3]) a.toNat (H.alloc (.cells #[bv x0, bv x1, bv x2, bv x3] 5)) (blk_alloc_new _ _) (by simpa using h) (by simp) 3
  rw [← e4] at HG
  generalize hW : (w.alloc (.cells #[bv x0, bv x1, bv x2, bv x3] 5)).setCells mb a.toNat ((w4 v).map bv) = W2 at HG
  have hcp : (Builtin.copy_ #[22, 22] 3 #[.slice (some ⟨mb, a.toNat, none⟩) 4 4, .slice (some ⟨w.heap.size, 0, none⟩) 4 4]).run Tryz.prog (w.alloc (.cells #[bv x0, bv x1, bv x2, bv x3] 5)) = .ok (.int .i64 4) W2 := HG.1
  have H2 := Lib.hid HG.2
  clear r0 r1 hn H e4 h HG hW
  go_enter Tryz.func90, Tryz.ntmps90
  go_wp2_with fail
  refine CP.out.mono ?_; rintro e w1 ⟨rfl, rfl⟩
  clear CP
  go_wp2
  go_ret
  exact ⟨rfl, H2.out⟩
set_option maxHeartbeats 2000000 in
set_option maxRecDepth 20000 in
theorem setword_n (rb mb n : Nat) (a v : UInt32) (w : World) (h : ¬ a.toNat + 4 ≤ n) (hn : n ≤ 4096) (r0 : w.cell? ⟨rb, 0, none⟩ = some (.slice (some ⟨mb, 0, none⟩) n n)) (r1 : w.cell? ⟨rb, 1, none⟩ = some (.bool true)) :
    Calls Tryz.prog 90 #[.pointer (some ⟨rb, 0, none⟩), wv a, wv v] w fun e w' => e = .returned (.int .i64 4) ∧ Below w.heap.size w w' := by
  have CP := Lib.hid (part_n rb mb n 4 a w (by omega) h hn r0 r1)
  obtain ⟨x0, x1, x2, x3, e4, q0, q1, q2, q3⟩ := w4_get v
  have HB := Lib.hid ((Hp.start w).alloc (.cells #[bv x0, bv x1, bv x2, bv x3] 5)).below
  have HC : ∀ W a n c, (Builtin.copy_ #[22, 22] 3 #[.slice none 0 0, .slice a n c]).run Tryz.prog W = .ok (.int .i64 0) W := fun W a n c => run_copy_none (P := Tryz.prog) W 22 22 3 5 none a 0 0 n c Tryz.underlying22 info_u8s (Nat.min_zero _)
  clear r0 r1 hn e4 h
  go_enter Tryz.func90, Tryz.ntmps90
  go_wp2_with fail
  refine CP.out.mono ?_; rintro e w1 ⟨rfl, rfl⟩
  clear CP
  go_wp2
  go_ret
  exact ⟨rfl, HB.out⟩
set_option maxHeartbeats 4000000 in
set_option maxRecDepth 20000 in
theorem setbyte_y {w0 w : World} {r : List Thing} (rb mb : Nat) (m : List UInt8) (a : UInt32) (x : UInt8) (h : a.toNat + 1 ≤ m.length) (hn : m.length ≤ 4096) (H : Hp w0 w (MB mb m :: RGN rb mb m.length :: r)) :
    Calls Tryz.prog 92 #[.pointer (some ⟨rb, 0, none⟩), wv a, bv x] w fun e w' => e = .returned (.int .i64 0) ∧ Hp w0 w' (MB mb (m.set a.toNat x) :: RGN rb mb m.length :: r) := by
  have r0 : w.cell? ⟨rb, 0, none⟩ = _ := cell_blk (blk_get H.tail) 0
  have r1 : w.cell? ⟨rb, 1, none⟩ = _ := cell_blk (blk_get H.tail) 1
  have CP := Lib.hid (part_y rb mb m.length 1 a w (by omega) (by omega) h hn r0 r1)
  have HG := copy_bytes (n := 1) (c := 1) (l := [x]) a.toNat (H.alloc (.cells #[bv x] 5)) (blk_alloc_new _ _) (by simpa using h) (by simp) 3
  generalize hW : (w.alloc (.cells #[bv x] 5)).setCells mb a.toNat ([x].map bv) = W2 at HG
  have hcp : (Builtin.copy_ #[22, 22] 3 #[.slice (some ⟨mb, a.toNat, none⟩) 1 1, .slice (some ⟨w.heap.size, 0, none⟩) 1 1]).run Tryz.prog (w.alloc (.cells #[bv x] 5)) = .ok (.int .i64 1) W2 := HG.1
  have H2 : Hid (Hp w0 W2 (MB mb (m.set a.toNat x) :: RGN rb mb m.length :: r)) := Lib.hid HG.2
  clear r0 r1 hn H h HG hW
  go_enter Tryz.func92, Tryz.ntmps92
  go_wp2_with fail
  refine CP.out.mono ?_; rintro e w1 ⟨rfl, rfl⟩
  clear CP
  go_wp2
  go_ret
  exact ⟨rfl, H2.out⟩
set_option maxHeartbeats 2000000 in
set_option maxRecDepth 20000 in
theorem setbyte_n (rb mb n : Nat) (a : UInt32) (x : UInt8) (w : World) (h : ¬ a.toNat + 1 ≤ n) (hn : n ≤ 4096) (r0 : w.cell? ⟨rb, 0, none⟩ = some (.slice (some ⟨mb, 0, none⟩) n n)) (r1 : w.cell? ⟨rb, 1, none⟩ = some (.bool true)) :
    Calls Tryz.prog 92 #[.pointer (some ⟨rb, 0, none⟩), wv a, bv x] w fun e w' => e = .returned (.int .i64 4) ∧ Below w.heap.size w w' := by
  have CP := Lib.hid (part_n rb mb n 1 a w (by omega) h hn r0 r1)
  have HB := Lib.hid ((Hp.start w).alloc (.cells #[bv x] 5)).below
  have HC : ∀ W a n c, (Builtin.copy_ #[22, 22] 3 #[.slice none 0 0, .slice a n c]).run Tryz.prog W = .ok (.int .i64 0) W := fun W a n c => run_copy_none (P := Tryz.prog) W 22 22 3 5 none a 0 0 n c Tryz.underlying22 info_u8s (Nat.min_zero _)
  clear r0 r1 hn h
  go_enter Tryz.func92, Tryz.ntmps92
  go_wp2_with fail
  refine CP.out.mono ?_; rintro e w1 ⟨rfl, rfl⟩
  clear CP
  go_wp2
  go_ret
  exact ⟨rfl, HB.out⟩
end Go.Proofs.YtijkkompnfpdeaaGreatDoor
