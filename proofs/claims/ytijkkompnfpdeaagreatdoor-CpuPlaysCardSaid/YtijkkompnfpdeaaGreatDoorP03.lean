/- Regions: a task's own bytes: walked. Regions and cores: made; their bytes handed out: walked. -/
import Derived.Test.YtijkkompnfpdeaaGreatDoorP02
import Derived.Deep.OwnRows
import Derived.Laws.CopyRow
import Derived.Laws.BitsAllLaws
set_option linter.unusedVariables false
set_option linter.unusedSimpArgs false
namespace Go.Proofs.YtijkkompnfpdeaaGreatDoor
open Go.RowKit Go.Joins Go.Shelf
attribute [local go_sem] Oper.semAt_some

/-- Bytes, in a block of their own; a region. -/
abbrev MB (mb : Nat) (m : List UInt8) : Thing := Blk mb (.cells (m.map bv).toArray 5 (0, 0))
abbrev RGN (rb mb n : Nat) : Thing := Blk rb (.cells #[.slice (some ⟨mb, 0, none⟩) n n, .bool true] 102 (0, 0))
set_option maxHeartbeats 2000000 in
theorem part_y (rb mb n k : Nat) (a : UInt32) (w : World) (hk : k ≤ 4) (hk0 : 0 < k) (h : a.toNat + k ≤ n) (hn : n ≤ 4096) (r0 : w.cell? ⟨rb, 0, none⟩ = some (.slice (some ⟨mb, 0, none⟩) n n)) (r1 : w.cell? ⟨rb, 1, none⟩ = some (.bool true)) :
    Calls Tryz.prog 127 #[.pointer (some ⟨rb, 0, none⟩), wv a, .int .u64 k] w fun e w' => e = .returned (.tuple #[.slice (some ⟨mb, a.toNat, none⟩) k k, .int .i64 0]) ∧ w' = w := by
  have c1 : IntKind.u64.wrap (a.toNat : Int) = (a.toNat : Int) := by rw [IntKind.wrap_u64]; omega
  have c2 : IntKind.u64.wrap ((a.toNat : Int) + (k : Int)) = (a.toNat : Int) + (k : Int) := by rw [IntKind.wrap_u64]; omega
  have c3 : IntKind.u64.wrap (n : Int) = (n : Int) := by rw [IntKind.wrap_u64]; omega
  have c4 : ¬ ((n : Int) < (a.toNat : Int) + (k : Int)) := by omega
  have c5 : ((a.toNat : Int) + (k : Int)).toNat = a.toNat + k := by omega
  go_enter Tryz.func127, Tryz.ntmps127
  go_wp2
  go_ret2
  exact ⟨rfl, rfl⟩
set_option maxHeartbeats 2000000 in
theorem part_n (rb mb n k : Nat) (a : UInt32) (w : World) (hk : k ≤ 4) (h : ¬ a.toNat + k ≤ n) (hn : n ≤ 4096) (r0 : w.cell? ⟨rb, 0, none⟩ = some (.slice (some ⟨mb, 0, none⟩) n n)) (r1 : w.cell? ⟨rb, 1, none⟩ = some (.bool true)) :
    Calls Tryz.prog 127 #[.pointer (some ⟨rb, 0, none⟩), wv a, .int .u64 k] w fun e w' => e = .returned (.tuple #[.slice none 0 0, .int .i64 4]) ∧ w' = w := by
  have := a.toNat_lt
  have c1 : IntKind.u64.wrap (a.toNat : Int) = (a.toNat : Int) := by rw [IntKind.wrap_u64]; omega
  have c2 : IntKind.u64.wrap ((a.toNat : Int) + (k : Int)) = (a.toNat : Int) + (k : Int) := by rw [IntKind.wrap_u64]; omega
  have c3 : IntKind.u64.wrap (n : Int) = (n : Int) := by rw [IntKind.wrap_u64]; omega
  have c4 : ((n : Int) < (a.toNat : Int) + (k : Int)) := by omega
  clear this
  go_enter Tryz.func127, Tryz.ntmps127
  go_wp2
  go_ret2
  exact ⟨rfl, rfl⟩
/-- Bytes read one behind the other. -/
def pn (m : List UInt8) (k : Nat) : Nat → Nat
  | 0 => 0
  | j + 1 => pn m k j * 256 + (m.getD (k + j) 0).toNat
theorem pn_lt (m : List UInt8) (k : Nat) : ∀ j, pn m k j < 256 ^ j
  | 0 => by simp [pn]
  | j + 1 => by
    have h1 := pn_lt m k j
    have h2 := (m.getD (k + j) 0).toNat_lt
    rw [pn, Nat.pow_succ]; omega
theorem pn_four (m : List UInt8) (k : Nat) : pn m k 4 = ((((m.getD k 0).toNat * 256 + (m.getD (k + 1) 0).toNat) * 256 + (m.getD (k + 2) 0).toNat) * 256 + (m.getD (k + 3) 0).toNat) := by simp [pn]
theorem pn_ld (m : List UInt8) (k : Nat) : ((ld4 m k).toNat : Int) = (pn m k 4 : Nat) := by
  have h := pn_lt m k 4
  rw [ld4, ← pn_four, UInt32.toNat_ofNat', Nat.mod_eq_of_lt (by omega)]
theorem or_byte (x c : Nat) (hx : x < 16777216) (hc : c < 256) : bits .or .u32 (IntKind.u32.wrap ((x : Int) * 256)) (c : Int) = ((x * 256 + c : Nat) : Int) := by
  have e : IntKind.u32.wrap ((x : Int) * 256) = ((x * 256 : Nat) : Int) := by rw [IntKind.wrap_u32]; omega
  rw [e, u32_or_nat _ _ (by omega) (by omega)]
  have h := Nat.shiftLeft_add_eq_or_of_lt (i := 8) (b := c) (by omega) x
  rw [Nat.shiftLeft_eq] at h
  rw [← h]
theorem mb_cell {w0 w : World} {r : List Thing} {mb : Nat} {m : List UInt8} (H : Hp w0 w (MB mb m :: r)) {k : Nat} (hk : k < m.length) : w.cell? ⟨mb, k, none⟩ = some (bv (m.getD k 0)) := by
  rw [cell_blk (blk_get H) k]
  simp [hk]
set_option maxHeartbeats 4000000 in
theorem word_y (rb mb : Nat) (m : List UInt8) (a : UInt32) (w : World) (h : a.toNat + 4 ≤ m.length) (hn : m.length ≤ 4096) (r0 : w.cell? ⟨rb, 0, none⟩ = some (.slice (some ⟨mb, 0, none⟩) m.length m.length)) (r1 : w.cell? ⟨rb, 1, none⟩ = some (.bool true))
    (hm : ∀ k, k < m.length → w.cell? ⟨mb, k, none⟩ = some (bv (m.getD k 0))) :
    Calls Tryz.prog 84 #[.pointer (some ⟨rb, 0, none⟩), wv a] w fun e w' => e = .returned (.tuple #[wv (ld4 m a.toNat), .int .i64 0]) ∧ w' = w := by
  have CP := Lib.hid (part_y rb mb m.length 4 a w (by omega) (by omega) h hn r0 r1)
  have HM := Lib.hid hm
  have HL := Lib.hid h
  clear r0 r1 hm h hn
  go_enter Tryz.func84, Tryz.ntmps84
  go_wp2_with fail
  refine CP.out.mono ?_; rintro e w1 ⟨rfl, rfl⟩
  clear CP
  go_wp2
  go_loopw [4, 17] (fun s4 s17 wr => ∃ j : Nat, j ≤ 4 ∧ s17 = .int .i64 j ∧ s4 = .int .u32 (pn m a.toNat j : Nat) ∧ wr = w1) (fun _ s17 _ => 4 - (intOf s17).toNat)
  case atStart => exact ⟨0, by omega, rfl, rfl, rfl⟩
  case round =>
    obtain ⟨j, hj, rfl, rfl, rfl⟩ := hrel
    by_cases hlt : j < 4
    · have cm := HM.out (a.toNat + j) (by have := HL.out; omega)
      have hp := pn_lt m a.toNat j
      have hp2 : 256 ^ j ≤ 16777216 := by
        have : 256 ^ j ≤ 256 ^ 3 := Nat.pow_le_pow_right (by omega) (by omega)
        omega
      have hs : pn m a.toNat (j + 1) = pn m a.toNat j * 256 + (m.getD (a.toNat + j) 0).toNat := rfl
      generalize m.getD (a.toNat + j) 0 = b at *
      have hb := b.toNat_lt
      have ho := or_byte (pn m a.toNat j) b.toNat (by omega) (by omega)
      rw [← hs] at ho
      have HO := Lib.hid ho
      have hkw : IntKind.i64.wrap ((j : Int) + 1) = (j : Int) + 1 := by rw [IntKind.wrap_i64]; omega
      have hcw : IntKind.u32.wrap (b.toNat : Int) = (b.toNat : Int) := by rw [IntKind.wrap_u32]; omega
      clear hb hp hp2 hs ho
      go_wp2
      go_roundw
      case rel =>
        refine ⟨j + 1, by omega, by go_num, ?_, by trivial⟩
        rw [← HO.out]
        first | rfl | exact congrArg (fun x => Value.int .u32 (bits .or .u32 _ x)) hcw
      case measure => simp [intOf]; omega
    · obtain rfl : j = 4 := by omega
      have HP := Lib.hid (pn_ld m a.toNat)
      generalize pn m a.toNat 4 = q at *
      clear HM
      go_wp2
      go_ret2
      refine ⟨?_, rfl⟩
      show Ending.returned (.tuple #[.int .u32 (q : Int), .int .i64 0]) = _
      rw [← HP.out]
set_option maxHeartbeats 2000000 in
theorem word_n (rb mb n : Nat) (a : UInt32) (w : World) (h : ¬ a.toNat + 4 ≤ n) (hn : n ≤ 4096) (r0 : w.cell? ⟨rb, 0, none⟩ = some (.slice (some ⟨mb, 0, none⟩) n n)) (r1 : w.cell? ⟨rb, 1, none⟩ = some (.bool true)) :
    Calls Tryz.prog 84 #[.pointer (some ⟨rb, 0, none⟩), wv a] w fun e w' => e = .returned (.tuple #[.int .u32 0, .int .i64 4]) ∧ w' = w := by
  have CP := Lib.hid (part_n rb mb n 4 a w (by omega) h hn r0 r1)
  clear r0 r1 h hn
  go_enter Tryz.func84, Tryz.ntmps84
  go_wp2_with fail
  refine CP.out.mono ?_; rintro e w1 ⟨rfl, rfl⟩
  clear CP
  go_wp2
  go_loopw [4, 17] (fun s4 s17 wr => s4 = .int .u32 0 ∧ s17 = .int .i64 0 ∧ wr = w1) (fun _ _ _ => 0)
  case atStart => exact ⟨rfl, rfl, rfl⟩
  case round =>
    obtain ⟨rfl, rfl, rfl⟩ := hrel
    go_wp2
    go_ret2
    exact ⟨rfl, rfl⟩
set_option maxHeartbeats 2000000 in
theorem byte_y (rb mb : Nat) (m : List UInt8) (a : UInt32) (w : World) (h : a.toNat + 1 ≤ m.length) (hn : m.length ≤ 4096) (r0 : w.cell? ⟨rb, 0, none⟩ = some (.slice (some ⟨mb, 0, none⟩) m.length m.length)) (r1 : w.cell? ⟨rb, 1, none⟩ = some (.bool true))
    (hm : ∀ k, k < m.length → w.cell? ⟨mb, k, none⟩ = some (bv (m.getD k 0))) :
    Calls Tryz.prog 87 #[.pointer (some ⟨rb, 0, none⟩), wv a] w fun e w' => e = .returned (.tuple #[bv (m.getD a.toNat 0), .int .i64 0]) ∧ w' = w := by
  have CP := Lib.hid (part_y rb mb m.length 1 a w (by omega) (by omega) h hn r0 r1)
  have cm := hm a.toNat (by omega)
  clear r0 r1 hm h hn
  go_enter Tryz.func87, Tryz.ntmps87
  go_wp2_with fail
  refine CP.out.mono ?_; rintro e w1 ⟨rfl, rfl⟩
  clear CP
  go_wp2
  go_ret2
  exact ⟨rfl, rfl⟩
set_option maxHeartbeats 2000000 in
theorem byte_n (rb mb n : Nat) (a : UInt32) (w : World) (h : ¬ a.toNat + 1 ≤ n) (hn : n ≤ 4096) (r0 : w.cell? ⟨rb, 0, none⟩ = some (.slice (some ⟨mb, 0, none⟩) n n)) (r1 : w.cell? ⟨rb, 1, none⟩ = some (.bool true)) :
    Calls Tryz.prog 87 #[.pointer (some ⟨rb, 0, none⟩), wv a] w fun e w' => e = .returned (.tuple #[.int .u8 0, .int .i64 4]) ∧ w' = w := by
  have CP := Lib.hid (part_n rb mb n 1 a w (by omega) h hn r0 r1)
  clear r0 r1 h hn
  go_enter Tryz.func87, Tryz.ntmps87
  go_wp2_with fail
  refine CP.out.mono ?_; rintro e w1 ⟨rfl, rfl⟩
  clear CP
  go_wp2
  go_ret2
  exact ⟨rfl, rfl⟩
theorem blk_sets {w0 : World} {r : List Thing} {b : Nat} {e : TypeId} {f : Nat × Nat} : ∀ (vs : List Value) {w : World} {cur : Array Value} (o : Nat), Hp w0 w (Blk b (.cells cur e f) :: r) → Hp w0 (w.setCells b o vs) (Blk b (.cells (laid cur o vs) e f) :: r)
  | [], _, _, _, h => h
  | v :: vs, w, cur, o, h => blk_sets vs (o + 1) (blk_set h o v)
theorem laid_lay : ∀ (l m : List UInt8) (o : Nat), laid (m.map bv).toArray o (l.map bv) = ((layB m o l).map bv).toArray
  | [], m, o => rfl
  | x :: l, m, o => by
    have e : (m.map bv).toArray.setIfInBounds o (bv x) = ((m.set o x).map bv).toArray := by simp [List.map_set]
    rw [List.map_cons, laid, layB, ← laid_lay l (m.set o x), e]
theorem w4_get (v : UInt32) : ∃ x0 x1 x2 x3 : UInt8, w4 v = [x0, x1, x2, x3] ∧ IntKind.u8.wrap ((v.toNat : Int) / 16777216) = (x0.toNat : Int) ∧ IntKind.u8.wrap ((v.toNat : Int) / 65536) = (x1.toNat : Int) ∧ IntKind.u8.wrap ((v.toNat : Int) / 256) = (x2.toNat : Int) ∧ IntKind.u8.wrap (v.toNat : Int) = (x3.toNat : Int) :=
  ⟨_, _, _, _, rfl, by simp [IntKind.wrap_u8], by simp [IntKind.wrap_u8], by simp [IntKind.wrap_u8], by simp [IntKind.wrap_u8]⟩
theorem info_u8s : (Tryz.prog.info? 5).map (·.size) = some 1 := by kernel_rfl
/-- Bytes copied over some of a block's. -/
theorem copy_bytes {w0 w : World} {r : List Thing} {mb g n c : Nat} {m l : List UInt8} {fr : Nat × Nat} (k : Nat) (H : Hp w0 w (MB mb m :: r)) (hg : w.heap[g]? = some (.cells (l.map bv).toArray 5 fr)) (hk : k + l.length ≤ m.length) (hn : l.length ≤ n) (ty : TypeId) :
    (Builtin.copy_ #[22, 22] ty #[.slice (some ⟨mb, k, none⟩) n c, .slice (some ⟨g, 0, none⟩) l.length l.length]).run Tryz.prog w = .ok (goInt l.length) (w.setCells mb k (l.map bv)) ∧ Hp w0 (w.setCells mb k (l.map bv)) (MB mb (layB m k l) :: r) := by
  have hb := blk_get H
  refine ⟨?_, ?_⟩
  · have := run_copy_cells (P := Tryz.prog) w 22 22 ty 5 mb k n c ⟨g, 0, none⟩ l.length l.length (l.map bv) Tryz.underlying22 info_u8s (by rw [List.length_map]; exact (Nat.min_eq_left hn).symm) (fun j v hj => by
      rw [show (⟨g, 0, none⟩ : Addr).add j = ⟨g, 0 + j, none⟩ from Addr.add_lit g 0 j, Nat.zero_add, cell_blk hg]; simpa using hj) (fun j hj => by
      rw [cell_blk hb]; simp at hj; simp; omega) (fun j hj => free_blk hb _) (fun v hv => by
      obtain ⟨x, _, rfl⟩ := List.mem_map.1 hv; rfl)
    rwa [List.length_map] at this
  · have := blk_sets (l.map bv) k H
    rwa [laid_lay] at this
set_option maxHeartbeats 4000000 in
set_option maxRecDepth 20000 in
theorem setword_y {w0 w : World} {r : List Thing} (rb mb : Nat) (m : List UInt8) (a v : UInt32) (h : a.toNat + 4 ≤ m.length) (hn : m.length ≤ 4096) (H : Hp w0 w (MB mb m :: RGN rb mb m.length :: r)) :
    Calls Tryz.prog 90 #[.pointer (some ⟨rb, 0, none⟩), wv a, wv v] w fun e w' => e = .returned (.int .i64 0) ∧ Hp w0 w' (MB mb (layB m a.toNat (w4 v)) :: RGN rb mb m.length :: r) := by
  have r0 : w.cell? ⟨rb, 0, none⟩ = _ := cell_blk (blk_get H.tail) 0
  have r1 : w.cell? ⟨rb, 1, none⟩ = _ := cell_blk (blk_get H.tail) 1
  have CP := Lib.hid (part_y rb mb m.length 4 a w (by omega) (by omega) h hn r0 r1)
  obtain ⟨x0, x1, x2, x3, e4, q0, q1, q2, q3⟩ := w4_get v
  have HG := copy_bytes (n := 4) (c := 4) (l := [x0, x1, x2, x3]) a.toNat (H.alloc (.cells #[bv x0, bv x1, bv x2, bv x3] 5)) (blk_alloc_new _ _) (by simpa using h) (by simp) 3
  rw [← e4] at HG
  generalize hW : (w.alloc (.cells #[bv x0, bv x1, bv x2, bv x3] 5)).setCells mb a.toNat ((w4 v).map bv) = W2 at HG
  have hcp : (Builtin.copy_ #[22, 22] 3 #[.slice (some ⟨mb, a.toNat, none⟩) 4 4, .slice (some ⟨w.heap.size, 0, none⟩) 4 4]).run Tryz.prog (w.alloc (.cells #[bv x0, bv x1, bv x2, bv x3] 5)) = .ok (.int .i64 4) W2 := HG.1
  have H2 := Lib.hid HG.2
  clear r0 r1 hn H e4 h HG hW
  go_enter Tryz.func90, Tryz.ntmps90
  go_wp2_with fail
  refine CP.out.mono ?_; rintro e w1 ⟨rfl, rfl⟩
  clear CP
  go_wp2
  go_ret
  exact ⟨rfl, H2.out⟩
set_option maxHeartbeats 2000000 in
set_option maxRecDepth 20000 in
theorem setword_n (rb mb n : Nat) (a v : UInt32) (w : World) (h : ¬ a.toNat + 4 ≤ n) (hn : n ≤ 4096) (r0 : w.cell? ⟨rb, 0, none⟩ = some (.slice (some ⟨mb, 0, none⟩) n n)) (r1 : w.cell? ⟨rb, 1, none⟩ = some (.bool true)) :
    Calls Tryz.prog 90 #[.pointer (some ⟨rb, 0, none⟩), wv a, wv v] w fun e w' => e = .returned (.int .i64 4) ∧ Below w.heap.size w w' := by
  have CP := Lib.hid (part_n rb mb n 4 a w (by omega) h hn r0 r1)
  obtain ⟨x0, x1, x2, x3, e4, q0, q1, q2, q3⟩ := w4_get v
  have HB := Lib.hid ((Hp.start w).alloc (.cells #[bv x0, bv x1, bv x2, bv x3] 5)).below
  have HC : ∀ W a n c, (Builtin.copy_ #[22, 22] 3 #[.slice none 0 0, .slice a n c]).run Tryz.prog W = .ok (.int .i64 0) W := fun W a n c => run_copy_none (P := Tryz.prog) W 22 22 3 5 none a 0 0 n c Tryz.underlying22 info_u8s (Nat.min_zero _)
  clear r0 r1 hn e4 h
  go_enter Tryz.func90, Tryz.ntmps90
  go_wp2_with fail
  refine CP.out.mono ?_; rintro e w1 ⟨rfl, rfl⟩
  clear CP
  go_wp2
  go_ret
  exact ⟨rfl, HB.out⟩
set_option maxHeartbeats 4000000 in
set_option maxRecDepth 20000 in
theorem setbyte_y {w0 w : World} {r : List Thing} (rb mb : Nat) (m : List UInt8) (a : UInt32) (x : UInt8) (h : a.toNat + 1 ≤ m.length) (hn : m.length ≤ 4096) (H : Hp w0 w (MB mb m :: RGN rb mb m.length :: r)) :
    Calls Tryz.prog 92 #[.pointer (some ⟨rb, 0, none⟩), wv a, bv x] w fun e w' => e = .returned (.int .i64 0) ∧ Hp w0 w' (MB mb (m.set a.toNat x) :: RGN rb mb m.length :: r) := by
  have r0 : w.cell? ⟨rb, 0, none⟩ = _ := cell_blk (blk_get H.tail) 0
  have r1 : w.cell? ⟨rb, 1, none⟩ = _ := cell_blk (blk_get H.tail) 1
  have CP := Lib.hid (part_y rb mb m.length 1 a w (by omega) (by omega) h hn r0 r1)
  have HG := copy_bytes (n := 1) (c := 1) (l := [x]) a.toNat (H.alloc (.cells #[bv x] 5)) (blk_alloc_new _ _) (by simpa using h) (by simp) 3
  generalize hW : (w.alloc (.cells #[bv x] 5)).setCells mb a.toNat ([x].map bv) = W2 at HG
  have hcp : (Builtin.copy_ #[22, 22] 3 #[.slice (some ⟨mb, a.toNat, none⟩) 1 1, .slice (some ⟨w.heap.size, 0, none⟩) 1 1]).run Tryz.prog (w.alloc (.cells #[bv x] 5)) = .ok (.int .i64 1) W2 := HG.1
  have H2 : Hid (Hp w0 W2 (MB mb (m.set a.toNat x) :: RGN rb mb m.length :: r)) := Lib.hid HG.2
  clear r0 r1 hn H h HG hW
  go_enter Tryz.func92, Tryz.ntmps92
  go_wp2_with fail
  refine CP.out.mono ?_; rintro e w1 ⟨rfl, rfl⟩
  clear CP
  go_wp2
  go_ret
  exact ⟨rfl, H2.out⟩
set_option maxHeartbeats 2000000 in
set_option maxRecDepth 20000 in
theorem setbyte_n (rb mb n : Nat) (a : UInt32) (x : UInt8) (w : World) (h : ¬ a.toNat + 1 ≤ n) (hn : n ≤ 4096) (r0 : w.cell? ⟨rb, 0, none⟩ = some (.slice (some ⟨mb, 0, none⟩) n n)) (r1 : w.cell? ⟨rb, 1, none⟩ = some (.bool true)) :
    Calls Tryz.prog 92 #[.pointer (some ⟨rb, 0, none⟩), wv a, bv x] w fun e w' => e = .returned (.int .i64 4) ∧ Below w.heap.size w w' := by
  have CP := Lib.hid (part_n rb mb n 1 a w (by omega) h hn r0 r1)
  have HB := Lib.hid ((Hp.start w).alloc (.cells #[bv x] 5)).below
  have HC : ∀ W a n c, (Builtin.copy_ #[22, 22] 3 #[.slice none 0 0, .slice a n c]).run Tryz.prog W = .ok (.int .i64 0) W := fun W a n c => run_copy_none (P := Tryz.prog) W 22 22 3 5 none a 0 0 n c Tryz.underlying22 info_u8s (Nat.min_zero _)
  clear r0 r1 hn h
  go_enter Tryz.func92, Tryz.ntmps92
  go_wp2_with fail
  refine CP.out.mono ?_; rintro e w1 ⟨rfl, rfl⟩
  clear CP
  go_wp2
  go_ret
  exact ⟨rfl, HB.out⟩
end Go.Proofs.YtijkkompnfpdeaaGreatDoor
set_option linter.unusedVariables false
set_option linter.unusedSimpArgs false
namespace Go.Proofs.YtijkkompnfpdeaaGreatDoor
open Go.RowKit Go.Joins Go.Shelf
attribute [local go_sem] Oper.semAt_some

theorem own_lit {w0 w : World} {r : List Thing} {e : TypeId} {size n : Nat} {cs : Array Value} (H : Hp w0 w r) (hs : cs.size = n * size) (hn : n ≤ maxLen) : Hp w0 (w.alloc (.cells cs e)) (Own e size (.slice (some ⟨w.heap.size, 0, none⟩) n n) n cs.toList :: r) := by
  refine own_new H ((Tch.refl _ w).alloc _) ⟨by simpa using hs, Or.inr ⟨w.heap.size, n, cs, rfl, Nat.le_refl _, blk_alloc_new w _, Nat.le_refl _, hn, hs, ?_⟩⟩
  rw [← hs, ← Array.length_toList, List.take_length]
theorem info_b8 : (Tryz.prog.info? 5).map (fun i => (i.zero, i.size, i.bytes)) = some (some (.int .u8 0), 1, 1) := by kernel_rfl
theorem info_i4 : (Tryz.prog.info? 26).map (fun i => (i.zero, i.size, i.bytes)) = some (some (.agg #[.int .u8 0, .int .u8 0, .int .u8 0, .int .u8 0]), 4, 4) := by kernel_rfl
theorem made_bytes (n : Nat) : madeCells #[Value.int .u8 0] n = ((List.replicate n (0 : UInt8)).map bv).toArray := by
  apply Array.ext
  · simp [madeCells]
  · intro i h1 h2
    simp [madeCells, Nat.mod_one]
theorem layB_app : ∀ (d p q : List UInt8), d.length ≤ q.length → layB (p ++ q) p.length d = p ++ d ++ q.drop d.length
  | [], p, q, _ => by simp [layB]
  | x :: d, p, y :: q, h => by
    have e : (p ++ y :: q).set p.length x = (p ++ [x]) ++ q := by simp
    have h2 : p.length + 1 = (p ++ [x]).length := by simp
    rw [layB, e, h2, layB_app d (p ++ [x]) q (by simpa using h)]
    simp
  | x :: d, p, [], h => by simp at h
theorem layB_first (n : Nat) (d : List UInt8) (h : d.length ≤ n) : layB (List.replicate n 0) 0 d = d ++ List.replicate (n - d.length) 0 := by
  have := layB_app d [] (List.replicate n 0) (by simpa using h)
  simpa using this
/-- Bytes copied from anywhere over a block's first ones. -/
theorem copy_from {w0 w : World} {r : List Thing} {mb n c dc : Nat} {m d : List UInt8} {ad : Option Addr} (H : Hp w0 w (MB mb m :: r)) (hg : CellsIn w ad (d.map bv)) (hk : d.length ≤ m.length) (hn : n = m.length) :
    (Builtin.copy_ #[22, 22] 3 #[.slice (some ⟨mb, 0, none⟩) n c, .slice ad d.length dc]).run Tryz.prog w = .ok (.int .i64 d.length) (w.setCells mb 0 (d.map bv)) ∧ Hp w0 (w.setCells mb 0 (d.map bv)) (MB mb (layB m 0 d) :: r) := by
  have hb := blk_get H
  refine ⟨?_, ?_⟩
  · match d, ad, hg with
    | [], ad, hg => exact run_copy_none (P := Tryz.prog) w 22 22 3 5 _ ad n c 0 dc Tryz.underlying22 info_u8s (Nat.zero_min _)
    | x :: d, ad, hg =>
      obtain ⟨g, o, rfl, _⟩ := hg 0 (by simp)
      have := run_copy_cells (P := Tryz.prog) w 22 22 3 5 mb 0 n c ⟨g, o, none⟩ (x :: d).length dc ((x :: d).map bv) Tryz.underlying22 info_u8s (by rw [List.length_map]; exact (Nat.min_eq_left (by omega)).symm) (fun j v hj => by
        obtain ⟨hlt, e⟩ := List.getElem?_eq_some_iff.1 hj
        obtain ⟨g', o', e', hc⟩ := hg j hlt
        cases e'
        rw [Addr.add_lit, hc, e]) (fun j hj => by
        rw [cell_blk hb]; rw [List.length_map] at hj; simp only [List.getElem?_toArray, List.getElem?_map, Nat.zero_add]; rw [List.getElem?_eq_getElem (by omega)]; rfl) (fun j hj => free_blk hb _) (fun v hv => by
        obtain ⟨x, _, rfl⟩ := List.mem_map.1 hv; rfl)
      rwa [List.length_map] at this
  · have := blk_sets (d.map bv) 0 H
    rwa [laid_lay] at this
/-- A region is there. -/
def RNewP (w0 : World) (r : List Thing) (n : Nat) (m : List UInt8) (e : Ending) (w' : World) : Prop := ∃ rb mb, e = .returned (.tuple #[.pointer (some ⟨rb, 0, none⟩), .int .i64 0]) ∧ Hp w0 w' (MB mb m :: RGN rb mb n :: r)
theorem RNewP.mk' {w0 : World} {r : List Thing} {n : Nat} {m : List UInt8} {e : Ending} {w' : World} (rb mb : Nat) (h1 : e = .returned (.tuple #[.pointer (some ⟨rb, 0, none⟩), .int .i64 0])) (h2 : Hp w0 w' (MB mb m :: RGN rb mb n :: r)) : RNewP w0 r n m e w' := ⟨rb, mb, h1, h2⟩
set_option maxHeartbeats 4000000 in
set_option maxRecDepth 20000 in
theorem rnew_c {w0 w : World} {r : List Thing} (n : Nat) (ad : Option Addr) (dc : Nat) (d : List UInt8) (hn : n ≤ 4096) (hd : d.length ≤ n) (hc : CellsIn w ad (d.map bv)) (H : Hp w0 w r) :
    Calls Tryz.prog 30 #[.int .i64 (n : Int), .slice ad d.length dc] w (RNewP w0 r n (d ++ List.replicate (n - d.length) 0)) := by
  obtain ⟨i0, hi, hz0, hz1, hz2⟩ := info_parts info_b8
  have H1 := blk_new H (.cells (madeCells #[Value.int .u8 0] n) 5)
  rw [made_bytes n] at H1
  have H2 := blk_new_at H1 (.cells #[.slice (some ⟨w.heap.size, 0, none⟩) n n, .bool true] 102) (w.heap.size + 1) (size_alloc1 _ _)
  have r0 := cell_blk (blk_get H2) 0
  have HC := copy_from (n := n) (c := n) (dc := dc) (H2.pull 1 rfl) (hc.below (((Below.refl _ w).alloc (Nat.le_refl _) _).alloc (by simp) _)) (by simpa using hd) (by simp)
  rw [layB_first n d hd] at HC
  generalize hW : World.setCells _ w.heap.size 0 (d.map bv) = W3 at HC
  obtain ⟨hcp, HH⟩ := HC
  rw [show ((List.replicate n (0 : UInt8)).map bv).toArray = Array.replicate n (bv 0) by simp] at hcp r0
  have H3 := Lib.hid HH
  have hlt1 : ¬ ((n : Int) < 0) := by omega
  have hlt2 : ¬ ((4096 : Int) < (n : Int)) := by omega
  have hlt3 : ¬ ((n : Int) < (d.length : Int)) := by omega
  have HN := Lib.hid hn
  clear HH hW H2 H1 H hc hd hn
  go_enter Tryz.func30, Tryz.ntmps30
  go_wp2_with (refine wpList_make_row _ rfl _ _ 22 rfl 5 i0 _ Tryz.underlying22 hi hz0 hz1 rfl .i64 .i64 n rfl rfl (by rw [hz2]; have := HN.out; omega) (by have := HN.out; omega) ?_; rw [made_bytes n])
  go_wp2
  go_ret2
  exact RNewP.mk' _ _ rfl H3.out
set_option maxHeartbeats 4000000 in
set_option maxRecDepth 20000 in
theorem clone_b {w0 w : World} {r : List Thing} (a : Option Addr) (c n : Nat) (cs : List Value) (hn : n ≤ 5000) (hl : cs.length = n * 1) (hc : CellsIn w a cs) (h1 : ∀ u ∈ cs, u.oneCell' = true) (H : Hp w0 w r) :
    Calls Tryz.prog 100 #[.slice a n c] w fun e w' => ∃ v, e = .returned v ∧ Hp w0 w' (Own 5 1 v n cs :: r) := by
  have q22 : ∀ (w : World) (a : Option Addr) (n c n' c' : Nat), (binOp .eql 22 (.slice a n c) (.slice none n' c')).run Tryz.prog w = .ok (.bool a.isNone) w := fun w a n c n' c' => Lib.run_eql_slice_nil w _ _ a n c n' c' Tryz.underlying22
  cases a with
  | none =>
    obtain rfl : cs = [] := by
      cases cs with
      | nil => rfl
      | cons x l => obtain ⟨g, o, e, _⟩ := hc 0 (by simp); cases e
    obtain rfl : n = 0 := by simp at hl; omega
    have H2 := Lib.hid (own_nil H 5 1)
    clear H hc h1 hl hn
    go_enter Tryz.func100, Tryz.ntmps100
    go_wp2
    go_ret
    exact ⟨_, rfl, H2.out⟩
  | some ad =>
    obtain ⟨i0, hi, hz0, hz1, hz2⟩ := info_parts info_b8
    have H2 := Lib.hid (own_lit (n := 0) (size := 1) (cs := #[]) (e := 5) H rfl (Nat.zero_le _))
    have HH := Lib.hid (show cs.length = n * 1 ∧ n ≤ 5000 ∧ (∀ u ∈ cs, u.oneCell' = true) from ⟨hl, hn, h1⟩)
    have HS : Hid (∀ j u, cs[j]? = some u → (w.alloc (.cells #[] 5)).cell? (ad.add j) = some u) := Lib.hid (fun j u hj => by
      obtain ⟨hlt, e⟩ := List.getElem?_eq_some_iff.1 hj
      obtain ⟨g', o', e', hcell⟩ := (hc.below ((Below.refl _ w).alloc (Nat.le_refl _) _)) j hlt
      cases e'
      rw [Addr.add_lit, hcell, e])
    clear H hc h1 hl hn
    go_enter Tryz.func100, Tryz.ntmps100
    go_wp2_with (at_builtin; refine wpList_append_hp rfl _ _ 22 rfl 5 i0 _ 1 1 Tryz.underlying22 hi hz0 hz1 hz2 rfl (by decide) H2.out rfl ad n c cs rfl HH.out.1 HS.out HH.out.2.2 (by have := HH.out.2.1; omega) (by omega) ?_; intro v' w2 HA0)
    have HA := Lib.hid (own_as HA0 (Nat.zero_add n) (List.nil_append cs))
    clear HA0 H2 HS
    go_wp2
    go_ret
    exact ⟨_, rfl, HA.out⟩
set_option maxHeartbeats 4000000 in
set_option maxRecDepth 20000 in
theorem clone_i {w0 w : World} {r : List Thing} (a : Option Addr) (c n : Nat) (cs : List Value) (hn : n ≤ 5000) (hl : cs.length = n * 4) (hc : CellsIn w a cs) (h1 : ∀ u ∈ cs, u.oneCell' = true) (H : Hp w0 w r) :
    Calls Tryz.prog 31 #[.slice a n c] w fun e w' => ∃ v, e = .returned v ∧ Hp w0 w' (Own 26 4 v n cs :: r) := by
  have q22 : ∀ (w : World) (a : Option Addr) (n c n' c' : Nat), (binOp .eql 27 (.slice a n c) (.slice none n' c')).run Tryz.prog w = .ok (.bool a.isNone) w := fun w a n c n' c' => Lib.run_eql_slice_nil w _ _ a n c n' c' Tryz.underlying27
  cases a with
  | none =>
    obtain rfl : cs = [] := by
      cases cs with
      | nil => rfl
      | cons x l => obtain ⟨g, o, e, _⟩ := hc 0 (by simp); cases e
    obtain rfl : n = 0 := by simp at hl; omega
    have H2 := Lib.hid (own_nil H 26 4)
    clear H hc h1 hl hn
    go_enter Tryz.func31, Tryz.ntmps31
    go_wp2
    go_ret
    exact ⟨_, rfl, H2.out⟩
  | some ad =>
    obtain ⟨i0, hi, hz0, hz1, hz2⟩ := info_parts info_i4
    have H2 := Lib.hid (own_lit (n := 0) (size := 4) (cs := #[]) (e := 26) H rfl (Nat.zero_le _))
    have HH := Lib.hid (show cs.length = n * 4 ∧ n ≤ 5000 ∧ (∀ u ∈ cs, u.oneCell' = true) from ⟨hl, hn, h1⟩)
    have HS : Hid (∀ j u, cs[j]? = some u → (w.alloc (.cells #[] 26)).cell? (ad.add j) = some u) := Lib.hid (fun j u hj => by
      obtain ⟨hlt, e⟩ := List.getElem?_eq_some_iff.1 hj
      obtain ⟨g', o', e', hcell⟩ := (hc.below ((Below.refl _ w).alloc (Nat.le_refl _) _)) j hlt
      cases e'
      rw [Addr.add_lit, hcell, e])
    clear H hc h1 hl hn
    go_enter Tryz.func31, Tryz.ntmps31
    go_wp2_with (at_builtin; refine wpList_append_hp rfl _ _ 27 rfl 26 i0 _ 4 4 Tryz.underlying27 hi hz0 hz1 hz2 rfl (by decide) H2.out rfl ad n c cs rfl HH.out.1 HS.out HH.out.2.2 (by have := HH.out.2.1; omega) (by omega) ?_; intro v' w2 HA0)
    have HA := Lib.hid (own_as HA0 (Nat.zero_add n) (List.nil_append cs))
    clear HA0 H2 HS
    go_wp2
    go_ret
    exact ⟨_, rfl, HA.out⟩
theorem mb_cells {w0 w : World} {r : List Thing} {mb : Nat} {m : List UInt8} (H : Hp w0 w (MB mb m :: r)) : CellsIn w (some ⟨mb, 0, none⟩) (m.map bv) := fun j hj => by
  refine ⟨mb, 0, rfl, ?_⟩
  rw [Nat.zero_add, cell_blk (blk_get H) j]
  simp at hj
  simp [hj]
theorem rbytes_c {w0 w : World} {r : List Thing} (rb mb : Nat) (m : List UInt8) (hm : m.length ≤ 4096) (H : Hp w0 w (MB mb m :: RGN rb mb m.length :: r)) :
    Calls Tryz.prog 36 #[.pointer (some ⟨rb, 0, none⟩)] w fun e w' => ∃ v, e = .returned v ∧ Hp w0 w' (Own 5 1 v m.length (m.map bv) :: MB mb m :: RGN rb mb m.length :: r) := by
  have r0 : w.cell? ⟨rb, 0, none⟩ = _ := cell_blk (blk_get H.tail) 0
  have C := Lib.hid (clone_b (some ⟨mb, 0, none⟩) m.length m.length (m.map bv) (by omega) (by simp) (mb_cells H) (by simp [bv, Value.oneCell']) H)
  clear H hm
  go_enter Tryz.func36, Tryz.ntmps36
  go_wp2_with fail
  refine C.out.mono ?_; rintro e w1 ⟨v, rfl, H1'⟩
  have H1 := Lib.hid H1'
  obtain ⟨a, c, rfl⟩ := own_slice H1'
  clear C H1' r0
  go_wp2
  go_ret
  exact ⟨_, rfl, H1.out⟩
end Go.Proofs.YtijkkompnfpdeaaGreatDoor
