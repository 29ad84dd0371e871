/- Cores: what they are in memory; what an instruction does, closure by closure: walked. -/
import Derived.Test.YtijkkompnfpdeaaGreatDoorUd
import Derived.RegionTactic
import Derived.BigRegion
import Derived.Test.YtijkkompnfpdeaaGreatDoorLs
import Derived.Deep.QuietTactic
import Derived.RegionCalls
set_option linter.unusedVariables false
set_option linter.unusedSimpArgs false
namespace Go.Proofs.YtijkkompnfpdeaaGreatDoor
open Go.RowKit Go.Joins Go.Shelf
attribute [local go_sem] Oper.semAt_some

/-- A core's cells. -/
def coreL (s : Cs) (rb : Nat) (vc vs : Value) : List Value := s.r.map wv ++ [.int .i64 s.at_, .pointer (some ⟨rb, 0, none⟩), vc, vs, .bool s.asked]
abbrev CB (b rb : Nat) (s : Cs) (vc vs : Value) : Thing := Blk b (.cells (coreL s rb vc vs).toArray 79 (0, 0))
abbrev OwnI4 (v : Value) (c : List I4) : Thing := Own 26 4 v c.length (ics c)
abbrev OwnU8 (v : Value) (c : List UInt8) : Thing := Own 5 1 v c.length (c.map bv)
/-- A core, of some code. -/
def CR (b : Nat) (c : List I4) (s : Cs) : Thing := Ex (fun _ : (Nat × Nat) × Value × Value => s.r.length = 8 ∧ s.mem.length ≤ 4096) (fun t => Alls [CB b t.1.1 s t.2.1 t.2.2, MB t.1.2 s.mem, RGN t.1.1 t.1.2 s.mem.length, OwnI4 t.2.1 c, OwnU8 t.2.2 s.says])
theorem cr_open {w0 w : World} {r : List Thing} {b : Nat} {c : List I4} {s : Cs} (H : Hp w0 w (CR b c s :: r)) : ∃ rb mb vc vs, s.r.length = 8 ∧ s.mem.length ≤ 4096 ∧ Hp w0 w (CB b rb s vc vs :: MB mb s.mem :: RGN rb mb s.mem.length :: OwnI4 vc c :: OwnU8 vs s.says :: r) := by
  obtain ⟨⟨⟨rb, mb⟩, vc, vs⟩, ⟨h1, h2⟩, H1⟩ := H.ex
  exact ⟨rb, mb, vc, vs, h1, h2, H1.unAlls⟩
theorem cr_shut {w0 w : World} {r : List Thing} {b rb mb : Nat} {c : List I4} {s : Cs} {vc vs : Value} (h1 : s.r.length = 8) (h2 : s.mem.length ≤ 4096) (H : Hp w0 w (CB b rb s vc vs :: MB mb s.mem :: RGN rb mb s.mem.length :: OwnI4 vc c :: OwnU8 vs s.says :: r)) : Hp w0 w (CR b c s :: r) :=
  Hp.mkEx ((rb, mb), vc, vs) ⟨h1, h2⟩ (Hp.alls (l := [_, _, _, _, _]) H)
section
variable {w0 w : World} {r : List Thing} {b rb : Nat} {s : Cs} {vc vs : Value}
theorem cb_reg (H : Hp w0 w (CB b rb s vc vs :: r)) (hl : s.r.length = 8) (k : Nat) (hk : k < 8) : w.cell? ⟨b, k, none⟩ = some (wv (s.r.getD k 0)) := by
  rw [cell_blk (blk_get H)]
  simp only [coreL, List.getElem?_toArray]
  rw [List.getElem?_append_left (by simp; omega)]
  simp [hl, hk]
theorem cb_cell (H : Hp w0 w (CB b rb s vc vs :: r)) (hl : s.r.length = 8) (k : Nat) : w.cell? ⟨b, 8 + k, none⟩ = [Value.int .i64 s.at_, .pointer (some ⟨rb, 0, none⟩), vc, vs, .bool s.asked][k]? := by
  rw [cell_blk (blk_get H)]
  simp only [coreL, List.getElem?_toArray]
  rw [List.getElem?_append_right (by simp; omega)]
  simp [hl]
theorem coreL_reg (hl : s.r.length = 8) (k : Nat) (hk : k < 8) (v : UInt32) : (coreL s rb vc vs).toArray.setIfInBounds k (wv v) = (coreL { s with r := s.r.set k v } rb vc vs).toArray := by
  simp only [coreL, List.setIfInBounds_toArray]
  rw [List.set_append_left _ _ (by simp; omega), List.map_set]
theorem coreL_at (hl : s.r.length = 8) (v : Int) : (coreL s rb vc vs).toArray.setIfInBounds 8 (.int .i64 v) = (coreL { s with at_ := v } rb vc vs).toArray := by
  simp only [coreL, List.setIfInBounds_toArray]
  rw [List.set_append_right _ _ (by simp; omega)]
  simp [hl]
theorem coreL_says (hl : s.r.length = 8) (v : Value) : (coreL s rb vc vs).toArray.setIfInBounds 11 v = (coreL s rb vc v).toArray := by
  simp only [coreL, List.setIfInBounds_toArray]
  rw [List.set_append_right _ _ (by simp; omega)]
  simp [hl]
theorem coreL_asked (hl : s.r.length = 8) (v : Bool) : (coreL s rb vc vs).toArray.setIfInBounds 12 (.bool v) = (coreL { s with asked := v } rb vc vs).toArray := by
  simp only [coreL, List.setIfInBounds_toArray]
  rw [List.set_append_right _ _ (by simp; omega)]
  simp [hl]
theorem cb_setreg (H : Hp w0 w (CB b rb s vc vs :: r)) (hl : s.r.length = 8) (k : Nat) (hk : k < 8) (v : UInt32) : Hp w0 (w.setCell ⟨b, k, none⟩ (wv v)) (CB b rb { s with r := s.r.set k v } vc vs :: r) := by
  rw [CB, ← coreL_reg hl k hk]; exact blk_set H k _
theorem cb_setat (H : Hp w0 w (CB b rb s vc vs :: r)) (hl : s.r.length = 8) (v : Int) : Hp w0 (w.setCell ⟨b, 8, none⟩ (.int .i64 v)) (CB b rb { s with at_ := v } vc vs :: r) := by
  rw [CB, ← coreL_at hl]; exact blk_set H 8 _
theorem cb_setsays (H : Hp w0 w (CB b rb s vc vs :: r)) (hl : s.r.length = 8) (v : Value) : Hp w0 (w.setCell ⟨b, 11, none⟩ v) (CB b rb s vc v :: r) := by
  rw [CB, ← coreL_says hl]; exact blk_set H 11 _
theorem cb_setasked (H : Hp w0 w (CB b rb s vc vs :: r)) (hl : s.r.length = 8) (v : Bool) : Hp w0 (w.setCell ⟨b, 12, none⟩ (.bool v)) (CB b rb { s with asked := v } vc vs :: r) := by
  rw [CB, ← coreL_asked hl]; exact blk_set H 12 _
end
theorem set_word (b c : UInt8) : bits .or .u32 (IntKind.u32.wrap ((b.toNat : Int) * 256)) (c.toNat : Int) = ((UInt32.ofNat (b.toNat * 256 + c.toNat)).toNat : Int) := by
  have h1 := b.toNat_lt
  have h2 := c.toNat_lt
  rw [or_byte _ _ (by omega) h2, UInt32.toNat_ofNat', Nat.mod_eq_of_lt (by omega)]
theorem w8_32 (b : UInt8) : IntKind.u32.wrap (b.toNat : Int) = (b.toNat : Int) := by have h1 := b.toNat_lt; rw [IntKind.wrap_u32]; omega
theorem w8_64 (b : UInt8) : IntKind.i64.wrap (b.toNat : Int) = (b.toNat : Int) := by have h1 := b.toNat_lt; rw [IntKind.wrap_i64]; omega
set_option maxHeartbeats 4000000 in
set_option maxRecDepth 20000 in
theorem op1_c {w0 w : World} {r : List Thing} {b : Nat} {c : List I4} {s : Cs} (o x y z : UInt8) (hx : x.toNat < 8) (H : Hp w0 w (CR b c s :: r)) :
    Calls Tryz.prog 80 #[.pointer (some ⟨b, 0, none⟩), i4v (o, x, y, z)] w fun e w' => e = .returned (.int .i64 0) ∧ Hp w0 w' (CR b c (wrg s x (UInt32.ofNat (y.toNat * 256 + z.toNat))) :: r) := by
  have H1 := H.alloc (.cells #[bv o, bv x, bv y, bv z] 26)
  obtain ⟨rb, mb, vc, vs, hl, hm, H2⟩ := cr_open H1
  have HH : Hid (Hp w0 (World.setCell _ ⟨b, x.toNat, none⟩ (wv (UInt32.ofNat (y.toNat * 256 + z.toNat)))) (CR b c (wrg s x (UInt32.ofNat (y.toNat * 256 + z.toNat))) :: r)) := Lib.hid (cr_shut (s := wrg s x (UInt32.ofNat (y.toNat * 256 + z.toNat))) (by simpa [wrg] using hl) hm (cb_setreg H2 hl x.toNat hx _))
  have f0 := cb_reg H2 hl x.toNat hx
  have fz := free_blk (blk_get H2) x.toNat
  have q1 := set_word y z
  have q2 := w8_32 y
  have q3 := w8_32 z
  have q4 : (x.toNat : Int) < 8 := by omega
  generalize UInt32.ofNat (y.toNat * 256 + z.toNat) = u at *
  clear H H1 H2 hl hm
  go_enter Tryz.func80, Tryz.ntmps80
  have Q := Lib.hid q1
  clear q1
  go_wp2
  go_region
  have q5 := Q.out
  rw [IntKind.wrap_u32] at q5
  rw [q5]
  clear q5 Q
  go_wp2
  go_ret
  exact ⟨rfl, HH.out.drew⟩
set_option maxHeartbeats 4000000 in
set_option maxRecDepth 20000 in
theorem op2_c {w0 w : World} {r : List Thing} {b : Nat} {c : List I4} {s : Cs} (o x y z : UInt8) (hx : x.toNat < 8) (hy : y.toNat < 8) (H : Hp w0 w (CR b c s :: r)) :
    Calls Tryz.prog 81 #[.pointer (some ⟨b, 0, none⟩), i4v (o, x, y, z)] w fun e w' => e = .returned (.int .i64 0) ∧ Hp w0 w' (CR b c (wrg s x (rg s y)) :: r) := by
  have H1 := H.alloc (.cells #[bv o, bv x, bv y, bv z] 26)
  obtain ⟨rb, mb, vc, vs, hl, hm, H2⟩ := cr_open H1
  have HH : Hid (Hp w0 (World.setCell _ ⟨b, x.toNat, none⟩ (wv (rg s y))) (CR b c (wrg s x (rg s y)) :: r)) := Lib.hid (cr_shut (s := wrg s x (rg s y)) (by simpa [wrg] using hl) hm (cb_setreg H2 hl x.toNat hx _))
  have f0 := cb_reg H2 hl x.toNat hx
  have f1 := cb_reg H2 hl y.toNat hy
  have fz := free_blk (blk_get H2) x.toNat
  rw [← rg] at f1
  have q4 : (x.toNat : Int) < 8 := by omega
  have q5 : (y.toNat : Int) < 8 := by omega
  generalize rg s y = u at *
  clear H H1 H2 hl hm
  go_enter Tryz.func81, Tryz.ntmps81
  go_wp2
  go_region
  go_wp2
  go_ret
  exact ⟨rfl, HH.out.drew⟩
set_option maxHeartbeats 4000000 in
set_option maxRecDepth 20000 in
theorem op0_c {w0 w : World} {r : List Thing} (p x : Value) (H : Hp w0 w r) (o a b c : UInt8) (hx : x = i4v (o, a, b, c)) :
    Calls Tryz.prog 79 #[p, x] w fun e w' => e = .returned (.int .i64 0) ∧ Hp w0 w' r := by
  subst hx
  have H1 := Lib.hid (H.alloc (.cells #[bv o, bv a, bv b, bv c] 26))
  clear H
  go_enter Tryz.func79, Tryz.ntmps79
  go_wp2
  go_ret
  exact ⟨rfl, H1.out⟩
set_option maxHeartbeats 4000000 in
set_option maxRecDepth 20000 in
theorem op19_c {w0 w : World} {r : List Thing} {b : Nat} {c : List I4} {s : Cs} (o x y z : UInt8) (h0 : 0 ≤ s.at_) (h1 : s.at_ < 5000) (H : Hp w0 w (CR b c s :: r)) :
    Calls Tryz.prog 93 #[.pointer (some ⟨b, 0, none⟩), i4v (o, x, y, z)] w fun e w' => e = .returned (.int .i64 ((x.toNat * 256 + y.toNat : Nat) - s.at_ - 1)) ∧ Hp w0 w' (CR b c s :: r) := by
  have H1 := H.alloc (.cells #[bv o, bv x, bv y, bv z] 26)
  obtain ⟨rb, mb, vc, vs, hl, hm, H2⟩ := cr_open H1
  have HH := Lib.hid H1
  have f0 := cb_cell H2 hl 0
  have q1 := w8_64 x
  have q2 := w8_64 y
  have hx := x.toNat_lt
  have hy := y.toNat_lt
  have q3 : IntKind.i64.wrap ((x.toNat : Int) * 256) = (x.toNat : Int) * 256 := by rw [IntKind.wrap_i64]; omega
  have q4 : IntKind.i64.wrap ((x.toNat : Int) * 256 + (y.toNat : Int)) = (x.toNat : Int) * 256 + (y.toNat : Int) := by rw [IntKind.wrap_i64]; omega
  have q5 : IntKind.i64.wrap ((x.toNat : Int) * 256 + (y.toNat : Int) - s.at_) = (x.toNat : Int) * 256 + (y.toNat : Int) - s.at_ := by rw [IntKind.wrap_i64]; omega
  have q6 : IntKind.i64.wrap ((x.toNat : Int) * 256 + (y.toNat : Int) - s.at_ - 1) = (x.toNat : Int) * 256 + (y.toNat : Int) - s.at_ - 1 := by rw [IntKind.wrap_i64]; omega
  have q8 : wrap64 ((x.toNat : Int) * 256 + (y.toNat : Int) - s.at_ - 1) = (x.toNat : Int) * 256 + (y.toNat : Int) - s.at_ - 1 := by unfold wrap64; omega
  have q7 : (((x.toNat * 256 + y.toNat : Nat) : Int) - s.at_ - 1) = (x.toNat : Int) * 256 + (y.toNat : Int) - s.at_ - 1 := by omega
  rw [q7]
  have Q8 := Lib.hid q8
  clear q8
  generalize hd : (x.toNat : Int) * 256 + (y.toNat : Int) - s.at_ - 1 = d
  have Q8 : Hid (wrap64 ((x.toNat : Int) * 256 + (y.toNat : Int) - s.at_ - 1) = d) := Lib.hid (Q8.out.trans hd)
  clear hd
  clear H H1 H2 hl hm q7 hx hy q6
  go_enter Tryz.func93, Tryz.ntmps93
  go_wp2
  go_quiet (fail)
  go_wp2
  go_ret
  refine ⟨?_, HH.out.drewN _⟩
  exact congrArg (fun t => Ending.returned (.int .i64 t)) Q8.out
/-! ### What may be at fault. -/
def PE (e : Int) : PanicEntry := { v := .iface 81 (.agg #[.int .i64 e]), recovered := false }
set_option maxHeartbeats 1000000 in
theorem must32_y (v : Value) (w : World) : Calls Tryz.prog 83 #[v, .int .i64 0] w fun e w' => e = .returned v ∧ w' = w := by
  go_enter Tryz.func83, Tryz.ntmps83
  go_wp2
  go_ret
  exact ⟨rfl, rfl⟩
set_option maxHeartbeats 1000000 in
theorem must32_n (v : Value) (w : World) : Calls Tryz.prog 83 #[v, .int .i64 4] w fun e w' => e = .panicked [PE 4] ∧ w' = w := by
  have hp : ∀ (t : TypeId) (v : Value) (w : World), (Instr.panic (.iface t v)).run Tryz.prog w = .halt (.panic (.iface t v)) w := fun _ _ _ => rfl
  go_enter Tryz.func83, Tryz.ntmps83
  go_wp2
  exact ⟨rfl, rfl, rfl⟩
set_option maxHeartbeats 1000000 in
theorem must8_y (v : Value) (w : World) : Calls Tryz.prog 86 #[v, .int .i64 0] w fun e w' => e = .returned v ∧ w' = w := by
  go_enter Tryz.func86, Tryz.ntmps86
  go_wp2
  go_ret
  exact ⟨rfl, rfl⟩
set_option maxHeartbeats 1000000 in
theorem must8_n (v : Value) (w : World) : Calls Tryz.prog 86 #[v, .int .i64 4] w fun e w' => e = .panicked [PE 4] ∧ w' = w := by
  have hp : ∀ (t : TypeId) (v : Value) (w : World), (Instr.panic (.iface t v)).run Tryz.prog w = .halt (.panic (.iface t v)) w := fun _ _ _ => rfl
  go_enter Tryz.func86, Tryz.ntmps86
  go_wp2
  exact ⟨rfl, rfl, rfl⟩
set_option maxHeartbeats 1000000 in
theorem mustb_y (v : Value) (w : World) : Calls Tryz.prog 98 #[v, .int .i64 0] w fun e w' => e = .returned v ∧ w' = w := by
  go_enter Tryz.func98, Tryz.ntmps98
  go_wp2
  go_ret
  exact ⟨rfl, rfl⟩
set_option maxHeartbeats 1000000 in
theorem mustb_n (v : Value) (w : World) : Calls Tryz.prog 98 #[v, .int .i64 4] w fun e w' => e = .panicked [PE 4] ∧ w' = w := by
  have hp : ∀ (t : TypeId) (v : Value) (w : World), (Instr.panic (.iface t v)).run Tryz.prog w = .halt (.panic (.iface t v)) w := fun _ _ _ => rfl
  go_enter Tryz.func98, Tryz.ntmps98
  go_wp2
  exact ⟨rfl, rfl, rfl⟩
theorem unit_info : (Tryz.prog.info? 111).map (·.size) = some 0 := by kernel_rfl
set_option maxHeartbeats 1000000 in
theorem mustS_y (w : World) : Calls Tryz.prog 128 #[.agg #[], .int .i64 0] w fun e w' => e = .returned (.agg #[]) ∧ Below w.heap.size w w' := by
  have H2 := Lib.hid (blk_new_at ((Hp.start w).alloc (.cells #[] 111)) (.cells #[] 111) (w.heap.size + 1) (size_alloc1 _ _))
  go_enter Tryz.func128, Tryz.ntmps128
  go_wp2
  exact bodyPost_ret (results_cell_row rfl _ _ (w.heap.size + 1) _ _ _ _ rfl (blk_get H2.out) Tryz.underlying111 rfl unit_info) rfl ⟨rfl, H2.out.below⟩
set_option maxHeartbeats 1000000 in
theorem mustS_n (w : World) : Calls Tryz.prog 128 #[.agg #[], .int .i64 4] w fun e w' => e = .panicked [PE 4] ∧ Below w.heap.size w w' := by
  have hp : ∀ (t : TypeId) (v : Value) (w : World), (Instr.panic (.iface t v)).run Tryz.prog w = .halt (.panic (.iface t v)) w := fun _ _ _ => rfl
  have HB := Lib.hid (((Hp.start w).alloc (.cells #[] 111)).alloc (.cells #[] 111)).below
  go_enter Tryz.func128, Tryz.ntmps128
  go_wp2
  exact ⟨rfl, rfl, HB.out⟩
set_option maxHeartbeats 1000000 in
theorem none_y (w : World) : Calls Tryz.prog 89 #[.int .i64 0] w fun e w' => e = .returned (.agg #[]) ∧ Below w.heap.size w w' := by
  have H2 := Lib.hid (blk_new (Hp.start w) (.cells #[] 111))
  have C := Lib.hid (mustS_y (w.alloc (.cells #[] 111)))
  go_enter Tryz.func89, Tryz.ntmps89
  go_wp2_with fail
  refine C.out.mono ?_; rintro e w1 ⟨rfl, hb⟩
  have H3 := Lib.hid (H2.out.below_read hb)
  clear hb C H2
  go_wp2
  exact bodyPost_ret (results_cell_row rfl _ _ w.heap.size _ _ _ _ rfl (blk_get H3.out) Tryz.underlying111 rfl unit_info) rfl ⟨rfl, H3.out.below⟩
set_option maxHeartbeats 1000000 in
theorem none_n (w : World) : Calls Tryz.prog 89 #[.int .i64 4] w fun e w' => e = .panicked [PE 4] ∧ Below w.heap.size w w' := by
  have H2 := Lib.hid (blk_new (Hp.start w) (.cells #[] 111))
  have C := Lib.hid (mustS_n (w.alloc (.cells #[] 111)))
  go_enter Tryz.func89, Tryz.ntmps89
  go_wp2_with fail
  refine C.out.mono ?_; rintro e w1 ⟨rfl, hb⟩
  exact ⟨rfl, rfl, (H2.out.below_read hb).below⟩
end Go.Proofs.YtijkkompnfpdeaaGreatDoor
