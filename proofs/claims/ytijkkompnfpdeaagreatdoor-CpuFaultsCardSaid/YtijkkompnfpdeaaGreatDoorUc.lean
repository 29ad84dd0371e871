/- Regions and cores: made; their bytes handed out: walked. -/
import Derived.Test.YtijkkompnfpdeaaGreatDoorUb
set_option linter.unusedVariables false
set_option linter.unusedSimpArgs false
namespace Go.Proofs.YtijkkompnfpdeaaGreatDoor
open Go.RowKit Go.Joins Go.Shelf
attribute [local go_sem] Oper.semAt_some

theorem own_lit {w0 w : World} {r : List Thing} {e : TypeId} {size n : Nat} {cs : Array Value} (H : Hp w0 w r) (hs : cs.size = n * size) (hn : n ≤ maxLen) : Hp w0 (w.alloc (.cells cs e)) (Own e size (.slice (some ⟨w.heap.size, 0, none⟩) n n) n cs.toList :: r) := by
  refine own_new H ((Tch.refl _ w).alloc _) ⟨by simpa using hs, Or.inr ⟨w.heap.size, n, cs, rfl, Nat.le_refl _, blk_alloc_new w _, Nat.le_refl _, hn, hs, ?_⟩⟩
  rw [← hs, ← Array.length_toList, List.take_length]
theorem info_b8 : (Tryz.prog.info? 5).map (fun i => (i.zero, i.size, i.bytes)) = some (some (.int .u8 0), 1, 1) := by kernel_rfl
theorem info_i4 : (Tryz.prog.info? 26).map (fun i => (i.zero, i.size, i.bytes)) = some (some (.agg #[.int .u8 0, .int .u8 0, .int .u8 0, .int .u8 0]), 4, 4) := by kernel_rfl
theorem made_bytes (n : Nat) : madeCells #[Value.int .u8 0] n = ((List.replicate n (0 : UInt8)).map bv).toArray := by
  apply Array.ext
  · simp [madeCells]
  · intro i h1 h2
    simp [madeCells, Nat.mod_one]
theorem layB_app : ∀ (d p q : List UInt8), d.length ≤ q.length → layB (p ++ q) p.length d = p ++ d ++ q.drop d.length
  | [], p, q, _ => by simp [layB]
  | x :: d, p, y :: q, h => by
    have e : (p ++ y :: q).set p.length x = (p ++ [x]) ++ q := by simp
    have h2 : p.length + 1 = (p ++ [x]).length := by simp
    rw [layB, e, h2, layB_app d (p ++ [x]) q (by simpa using h)]
    simp
  | x :: d, p, [], h => by simp at h
theorem layB_first (n : Nat) (d : List UInt8) (h : d.length ≤ n) : layB (List.replicate n 0) 0 d = d ++ List.replicate (n - d.length) 0 := by
  have := layB_app d [] (List.replicate n 0) (by simpa using h)
  simpa using this
/-- Bytes copied from anywhere over a block's first ones. -/
theorem copy_from {w0 w : World} {r : List Thing} {mb n c dc : Nat} {m d : List UInt8} {ad : Option Addr} (H : Hp w0 w (MB mb m :: r)) (hg : CellsIn w ad (d.map bv)) (hk : d.length ≤ m.length) (hn : n = m.length) :
    (Builtin.copy_ #[22, 22] 3 #[.slice (some ⟨mb, 0, none⟩) n c, .slice ad d.length dc]).run Tryz.prog w = .ok (.int .i64 d.length) (w.setCells mb 0 (d.map bv)) ∧ Hp w0 (w.setCells mb 0 (d.map bv)) (MB mb (layB m 0 d) :: r) := by
  have hb := blk_get H
  refine ⟨?_, ?_⟩
  · match d, ad, hg with
    | [], ad, hg => exact run_copy_none (P := Tryz.prog) w 22 22 3 5 _ ad n c 0 dc Tryz.underlying22 info_u8s (Nat.zero_min _)
    | x :: d, ad, hg =>
      obtain ⟨g, o, rfl, _⟩ := hg 0 (by simp)
      have := run_copy_cells (P := Tryz.prog) w 22 22 3 5 mb 0 n c ⟨g, o, none⟩ (x :: d).length dc ((x :: d).map bv) Tryz.underlying22 info_u8s (by rw [List.length_map]; exact (Nat.min_eq_left (by omega)).symm) (fun j v hj => by
        obtain ⟨hlt, e⟩ := List.getElem?_eq_some_iff.1 hj
        obtain ⟨g', o', e', hc⟩ := hg j hlt
        cases e'
        rw [Addr.add_lit, hc, e]) (fun j hj => by
        rw [cell_blk hb]; rw [List.length_map] at hj; simp only [List.getElem?_toArray, List.getElem?_map, Nat.zero_add]; rw [List.getElem?_eq_getElem (by omega)]; rfl) (fun j hj => free_blk hb _) (fun v hv => by
        obtain ⟨x, _, rfl⟩ := List.mem_map.1 hv; rfl)
      rwa [List.length_map] at this
  · have := blk_sets (d.map bv) 0 H
    rwa [laid_lay] at this
/-- A region is there. -/
def RNewP (w0 : World) (r : List Thing) (n : Nat) (m : List UInt8) (e : Ending) (w' : World) : Prop := ∃ rb mb, e = .returned (.tuple #[.pointer (some ⟨rb, 0, none⟩), .int .i64 0]) ∧ Hp w0 w' (MB mb m :: RGN rb mb n :: r)
theorem RNewP.mk' {w0 : World} {r : List Thing} {n : Nat} {m : List UInt8} {e : Ending} {w' : World} (rb mb : Nat) (h1 : e = .returned (.tuple #[.pointer (some ⟨rb, 0, none⟩), .int .i64 0])) (h2 : Hp w0 w' (MB mb m :: RGN rb mb n :: r)) : RNewP w0 r n m e w' := ⟨rb, mb, h1, h2⟩
set_option maxHeartbeats 4000000 in
set_option maxRecDepth 20000 in
theorem rnew_c {w0 w : World} {r : List Thing} (n : Nat) (ad : Option Addr) (dc : Nat) (d : List UInt8) (hn : n ≤ 4096) (hd : d.length ≤ n) (hc : CellsIn w ad (d.map bv)) (H : Hp w0 w r) :
    Calls Tryz.prog 30 #[.int .i64 (n : Int), .slice ad d.length dc] w (RNewP w0 r n (d ++ List.replicate (n - d.length) 0)) := by
  obtain ⟨i0, hi, hz0, hz1, hz2⟩ := info_parts info_b8
  have H1 := blk_new H (.cells (madeCells #[Value.int .u8 0] n) 5)
  rw [made_bytes n] at H1
  have H2 := blk_new_at H1 (.cells #[.slice (some ⟨w.heap.size, 0, none⟩) n n, .bool true] 102) (w.heap.size + 1) (size_alloc1 _ _)
  have r0 := cell_blk (blk_get H2) 0
  have HC := copy_from (n := n) (c := n) (dc := dc) (H2.pull 1 rfl) (hc.below (((Below.refl _ w).alloc (Nat.le_refl _) _).alloc (by simp) _)) (by simpa using hd) (by simp)
  rw [layB_first n d hd] at HC
  generalize hW : World.setCells _ w.heap.size 0 (d.map bv) = W3 at HC
  obtain ⟨hcp, HH⟩ := HC
  rw [show ((List.replicate n (0 : UInt8)).map bv).toArray = Array.replicate n (bv 0) by simp] at hcp r0
  have H3 := Lib.hid HH
  have hlt1 : ¬ ((n : Int) < 0) := by omega
  have hlt2 : ¬ ((4096 : Int) < (n : Int)) := by omega
  have hlt3 : ¬ ((n : Int) < (d.length : Int)) := by omega
  have HN := Lib.hid hn
  clear HH hW H2 H1 H hc hd hn
  go_enter Tryz.func30, Tryz.ntmps30
  go_wp2_with (refine wpList_make_row _ rfl _ _ 22 rfl 5 i0 _ Tryz.underlying22 hi hz0 hz1 rfl .i64 .i64 n rfl rfl (by rw [hz2]; have := HN.out; omega) (by have := HN.out; omega) ?_; rw [made_bytes n])
  go_wp2
  go_ret2
  exact RNewP.mk' _ _ rfl H3.out
set_option maxHeartbeats 4000000 in
set_option maxRecDepth 20000 in
theorem clone_b {w0 w : World} {r : List Thing} (a : Option Addr) (c n : Nat) (cs : List Value) (hn : n ≤ 5000) (hl : cs.length = n * 1) (hc : CellsIn w a cs) (h1 : ∀ u ∈ cs, u.oneCell' = true) (H : Hp w0 w r) :
    Calls Tryz.prog 100 #[.slice a n c] w fun e w' => ∃ v, e = .returned v ∧ Hp w0 w' (Own 5 1 v n cs :: r) := by
  have q22 : ∀ (w : World) (a : Option Addr) (n c n' c' : Nat), (binOp .eql 22 (.slice a n c) (.slice none n' c')).run Tryz.prog w = .ok (.bool a.isNone) w := fun w a n c n' c' => Lib.run_eql_slice_nil w _ _ a n c n' c' Tryz.underlying22
  cases a with
  | none =>
    obtain rfl : cs = [] := by
      cases cs with
      | nil => rfl
      | cons x l => obtain ⟨g, o, e, _⟩ := hc 0 (by simp); cases e
    obtain rfl : n = 0 := by simp at hl; omega
    have H2 := Lib.hid (own_nil H 5 1)
    clear H hc h1 hl hn
    go_enter Tryz.func100, Tryz.ntmps100
    go_wp2
    go_ret
    exact ⟨_, rfl, H2.out⟩
  | some ad =>
    obtain ⟨i0, hi, hz0, hz1, hz2⟩ := info_parts info_b8
    have H2 := Lib.hid (own_lit (n := 0) (size := 1) (cs := #[]) (e := 5) H rfl (Nat.zero_le _))
    have HH := Lib.hid (show cs.length = n * 1 ∧ n ≤ 5000 ∧ (∀ u ∈ cs, u.oneCell' = true) from ⟨hl, hn, h1⟩)
    have HS : Hid (∀ j u, cs[j]? = some u → (w.alloc (.cells #[] 5)).cell? (ad.add j) = some u) := Lib.hid (fun j u hj => by
      obtain ⟨hlt, e⟩ := List.getElem?_eq_some_iff.1 hj
      obtain ⟨g', o', e', hcell⟩ := (hc.below ((Below.refl _ w).alloc (Nat.le_refl _) _)) j hlt
      cases e'
      rw [Addr.add_lit, hcell, e])
    clear H hc h1 hl hn
    go_enter Tryz.func100, Tryz.ntmps100
    go_wp2_with (at_builtin; refine wpList_append_hp rfl _ _ 22 rfl 5 i0 _ 1 1 Tryz.underlying22 hi hz0 hz1 hz2 rfl (by decide) H2.out rfl ad n c cs rfl HH.out.1 HS.out HH.out.2.2 (by have := HH.out.2.1; omega) (by omega) ?_; intro v' w2 HA0)
    have HA := Lib.hid (own_as HA0 (Nat.zero_add n) (List.nil_append cs))
    clear HA0 H2 HS
    go_wp2
    go_ret
    exact ⟨_, rfl, HA.out⟩
set_option maxHeartbeats 4000000 in
set_option maxRecDepth 20000 in
theorem clone_i {w0 w : World} {r : List Thing} (a : Option Addr) (c n : Nat) (cs : List Value) (hn : n ≤ 5000) (hl : cs.length = n * 4) (hc : CellsIn w a cs) (h1 : ∀ u ∈ cs, u.oneCell' = true) (H : Hp w0 w r) :
    Calls Tryz.prog 31 #[.slice a n c] w fun e w' => ∃ v, e = .returned v ∧ Hp w0 w' (Own 26 4 v n cs :: r) := by
  have q22 : ∀ (w : World) (a : Option Addr) (n c n' c' : Nat), (binOp .eql 27 (.slice a n c) (.slice none n' c')).run Tryz.prog w = .ok (.bool a.isNone) w := fun w a n c n' c' => Lib.run_eql_slice_nil w _ _ a n c n' c' Tryz.underlying27
  cases a with
  | none =>
    obtain rfl : cs = [] := by
      cases cs with
      | nil => rfl
      | cons x l => obtain ⟨g, o, e, _⟩ := hc 0 (by simp); cases e
    obtain rfl : n = 0 := by simp at hl; omega
    have H2 := Lib.hid (own_nil H 26 4)
    clear H hc h1 hl hn
    go_enter Tryz.func31, Tryz.ntmps31
    go_wp2
    go_ret
    exact ⟨_, rfl, H2.out⟩
  | some ad =>
    obtain ⟨i0, hi, hz0, hz1, hz2⟩ := info_parts info_i4
    have H2 := Lib.hid (own_lit (n := 0) (size := 4) (cs := #[]) (e := 26) H rfl (Nat.zero_le _))
    have HH := Lib.hid (show cs.length = n * 4 ∧ n ≤ 5000 ∧ (∀ u ∈ cs, u.oneCell' = true) from ⟨hl, hn, h1⟩)
    have HS : Hid (∀ j u, cs[j]? = some u → (w.alloc (.cells #[] 26)).cell? (ad.add j) = some u) := Lib.hid (fun j u hj => by
      obtain ⟨hlt, e⟩ := List.getElem?_eq_some_iff.1 hj
      obtain ⟨g', o', e', hcell⟩ := (hc.below ((Below.refl _ w).alloc (Nat.le_refl _) _)) j hlt
      cases e'
      rw [Addr.add_lit, hcell, e])
    clear H hc h1 hl hn
    go_enter Tryz.func31, Tryz.ntmps31
    go_wp2_with (at_builtin; refine wpList_append_hp rfl _ _ 27 rfl 26 i0 _ 4 4 Tryz.underlying27 hi hz0 hz1 hz2 rfl (by decide) H2.out rfl ad n c cs rfl HH.out.1 HS.out HH.out.2.2 (by have := HH.out.2.1; omega) (by omega) ?_; intro v' w2 HA0)
    have HA := Lib.hid (own_as HA0 (Nat.zero_add n) (List.nil_append cs))
    clear HA0 H2 HS
    go_wp2
    go_ret
    exact ⟨_, rfl, HA.out⟩
theorem mb_cells {w0 w : World} {r : List Thing} {mb : Nat} {m : List UInt8} (H : Hp w0 w (MB mb m :: r)) : CellsIn w (some ⟨mb, 0, none⟩) (m.map bv) := fun j hj => by
  refine ⟨mb, 0, rfl, ?_⟩
  rw [Nat.zero_add, cell_blk (blk_get H) j]
  simp at hj
  simp [hj]
theorem rbytes_c {w0 w : World} {r : List Thing} (rb mb : Nat) (m : List UInt8) (hm : m.length ≤ 4096) (H : Hp w0 w (MB mb m :: RGN rb mb m.length :: r)) :
    Calls Tryz.prog 36 #[.pointer (some ⟨rb, 0, none⟩)] w fun e w' => ∃ v, e = .returned v ∧ Hp w0 w' (Own 5 1 v m.length (m.map bv) :: MB mb m :: RGN rb mb m.length :: r) := by
  have r0 : w.cell? ⟨rb, 0, none⟩ = _ := cell_blk (blk_get H.tail) 0
  have C := Lib.hid (clone_b (some ⟨mb, 0, none⟩) m.length m.length (m.map bv) (by omega) (by simp) (mb_cells H) (by simp [bv, Value.oneCell']) H)
  clear H hm
  go_enter Tryz.func36, Tryz.ntmps36
  go_wp2_with fail
  refine C.out.mono ?_; rintro e w1 ⟨v, rfl, H1'⟩
  have H1 := Lib.hid H1'
  obtain ⟨a, c, rfl⟩ := own_slice H1'
  clear C H1' r0
  go_wp2
  go_ret
  exact ⟨_, rfl, H1.out⟩
end Go.Proofs.YtijkkompnfpdeaaGreatDoor
