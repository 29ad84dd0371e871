/- CpuFaults: what a step may leave, in plain words; an image that may not be; great: walked. -/
import Derived.Test.YtijkkompnfpdeaaGreatDoorUw
import Derived.DeepKeys
import Derived.Laws.StructEq
set_option linter.unusedVariables false
set_option linter.unusedSimpArgs false
namespace Go.Proofs.YtijkkompnfpdeaaGreatDoor
open Go.RowKit Go.Joins Go.Shelf
attribute [local go_sem] Oper.semAt_some

theorem doesC_jump {x : I4} {s t : Cs} {d : Int} (h : doesC x s = some (t, d)) (hd : 1 + d = 0) : 15 ≤ x.1.toNat := by
  unfold doesC at h
  split at h <;> (try split at h) <;> first | (cases h; done) | (obtain ⟨rfl, rfl⟩ := Prod.mk.inj (Option.some.inj h); omega)
/-- A step of a core that is not asked. -/
inductive Steps3 (c : List I4) (s : Cs) : Prop
  | fault (h : stepC c s = (s, false, ak0, 15))
  | done (t : Cs) (h : stepC c s = (t, false, ak0, 0)) (m : t.mem.length = s.mem.length) (a : t.asked = false) (n : t.says.length ≤ s.says.length + 1) (j : t.at_ = s.at_ → ∃ k : Nat, s.at_ = (k : Int) ∧ ∃ hk : k < c.length, 15 ≤ (c[k]).1.toNat)
  | asks (t : Cs) (a : Ak) (h : stepC c s = (t, true, a, 0)) (m : t.mem.length = s.mem.length) (q : t.asked = true) (n : t.says = s.says) (j : t.at_ ≠ s.at_)
theorem steps3 (c : List I4) (s : Cs) (ha : s.asked = false) : Steps3 c s := by
  by_cases h : 0 ≤ s.at_ ∧ s.at_ < c.length
  · have hlt : s.at_.toNat < c.length := by omega
    have hk : s.at_ = (s.at_.toNat : Int) := by omega
    have e : stepC c s = (if 21 ≤ (c[s.at_.toNat]).1.toNat then ({ s with asked := true, at_ := s.at_ + 1 }, true, askC c[s.at_.toNat] s, (0 : Int)) else match doesC c[s.at_.toNat] s with | some (t, d) => ({ t with at_ := t.at_ + (1 + d) }, false, ak0, (0 : Int)) | none => (s, false, ak0, (15 : Int))) := by
      unfold stepC; rw [ha]; simp only [Bool.false_eq_true, if_false]; rw [dif_pos h]; rfl
    by_cases h21 : 21 ≤ (c[s.at_.toNat]).1.toNat
    · rw [if_pos h21] at e
      exact .asks _ _ e rfl rfl rfl (by show s.at_ + 1 ≠ s.at_; omega)
    · rw [if_neg h21] at e
      cases hd : doesC c[s.at_.toNat] s with
      | none => rw [hd] at e; exact .fault e
      | some q =>
        obtain ⟨t, d⟩ := q
        rw [hd] at e
        obtain ⟨m1, m2, m3, m4, m5, m6⟩ := doesC_mem hd
        refine .done _ e m1 (m4.trans ha) m5 (fun hj => ⟨_, hk, hlt, doesC_jump hd ?_⟩)
        have : t.at_ + (1 + d) = s.at_ := hj
        omega
  · refine .fault ?_
    unfold stepC; rw [ha]; simp only [Bool.false_eq_true, if_false]; rw [dif_neg h]
theorem answC_fin {s : Cs} (h : s.asked = true) (e : Int) (v : UInt32) : (answC s e v).1.asked = false ∧ (answC s e v).1.says = s.says ∧ (answC s e v).1.mem = s.mem ∧ (answC s e v).1.at_ = s.at_ := by rw [answC_y h]; exact ⟨rfl, rfl, rfl, rfl⟩
set_option maxHeartbeats 4000000 in
set_option maxRecDepth 20000 in
theorem new_n (n : Int) (ad ac : Option Addr) (dc cc : Nat) (d : List UInt8) (c : List I4) (w : World) (hk : imck n d c = false) (hc : CellsIn w ac (ics c)) :
    Calls Tryz.prog 8 #[imV n ad d.length dc ac c.length cc] w fun e w' => e = .returned (.tuple #[.pointer none, .int .i64 1]) ∧ Below w.heap.size w w' := by
  have H1 := blk_new (Hp.start w) (.cells #[.int .i64 n, .slice ad d.length dc, .slice ac c.length cc] 29)
  have CK := Lib.hid (imcheck_c n ad ac dc cc d c _ (hc.below H1.below))
  rw [hk] at CK
  have HH := Lib.hid H1
  clear H1 hk hc
  go_enter Tryz.func8, Tryz.ntmps8
  go_wp2_with fail
  refine CK.out.mono ?_; rintro e w2 ⟨rfl, hb⟩
  have H2 := Lib.hid (HH.out.below_read hb)
  clear hb CK HH
  go_wp2
  go_ret2
  exact ⟨rfl, H2.out.below⟩
set_option maxHeartbeats 4000000 in
set_option maxRecDepth 20000 in
theorem size_n (n : Int) (ad ac : Option Addr) (dl dc cl cc : Nat) (w : World) (h1 : dl ≤ 4096) (h2 : cl ≤ 1024) :
    Calls Tryz.prog 37 #[imV n ad dl dc ac cl cc] w fun e w' => e = .returned (.int .i64 (1 + (dl : Int) + (cl : Int))) ∧ Below w.heap.size w w' := by
  have HH := Lib.hid (blk_new (Hp.start w) (.cells #[.int .i64 n, .slice ad dl dc, .slice ac cl cc] 29))
  have q1 : IntKind.i64.wrap (1 + (dl : Int)) = 1 + (dl : Int) := by rw [IntKind.wrap_i64]; omega
  have q2 : IntKind.i64.wrap (1 + (dl : Int) + (cl : Int)) = 1 + (dl : Int) + (cl : Int) := by rw [IntKind.wrap_i64]; omega
  have q3 : 1 + (dl : Int) ≤ 1048576 := by omega
  go_enter Tryz.func37, Tryz.ntmps37
  go_wp2
  go_ret
  exact ⟨rfl, HH.out.below⟩
set_option maxHeartbeats 4000000 in
set_option maxRecDepth 20000 in
theorem great_n (n : Int) (ad ac : Option Addr) (dl dc cl cc : Nat) (w : World) (h0 : n ≤ 4096) (h1 : dl ≤ 4096) (h2 : cl ≤ 1024) :
    Calls Tryz.prog 14 #[imV n ad dl dc ac cl cc] w fun e w' => e = .returned (.bool false) ∧ Below w.heap.size w w' := by
  have HH := Lib.hid (blk_new (Hp.start w) (.cells #[.int .i64 n, .slice ad dl dc, .slice ac cl cc] 29))
  have SC := Lib.hid (fun W => size_n n ad ac dl dc cl cc W h1 (by omega))
  have q1 : decide ((6000 : Int) < 1 + (dl : Int) + (cl : Int)) = false := by simp; omega
  have q2 : decide ((5000 : Int) < n) = false := by simp; omega
  have x0 : (w.alloc (.cells #[.int .i64 n, .slice ad dl dc, .slice ac cl cc] 29)).cell? ⟨w.heap.size, 0, none⟩ = some (.int .i64 n) := cell_blk (blk_get HH.out) 0
  clear h0 h1 h2
  go_enter Tryz.func14, Tryz.ntmps14
  go_wp2_with fail
  refine (SC.out _).mono ?_; rintro e w2 ⟨rfl, hb⟩
  have H2 := Lib.hid (HH.out.below_read hb)
  have y0 : w2.cell? ⟨w.heap.size, 0, none⟩ = some (.int .i64 n) := cell_blk (blk_get H2.out) 0
  clear hb SC HH x0
  go_wp2
  go_ret
  exact ⟨rfl, H2.out.below⟩
theorem key_w (u : UInt32) : (Tryz.prog.keyLits 1 35 [wv u]) = some [.int .u32 (u.toNat : Int)] := by
  have h : (Lit.int .u32 (u.toNat : Int)).wf = true := by
    have := u.toNat_lt
    simp only [Lit.wf, IntKind.min, IntKind.max, IntKind.bits, IntKind.signed, Bool.and_eq_true]
    simp
    omega
  unfold Program.keyLits
  rw [Tryz.underlying35]
  simp [h]
theorem key_a (u0 u1 u2 u3 u4 u5 u6 u7 : UInt32) : (Tryz.prog.keyLits 2 40 (Value.agg #[wv u0, wv u1, wv u2, wv u3, wv u4, wv u5, wv u6, wv u7]).cells.toList) = some [.int .u32 u0.toNat, .int .u32 u1.toNat, .int .u32 u2.toNat, .int .u32 u3.toNat, .int .u32 u4.toNat, .int .u32 u5.toNat, .int .u32 u6.toNat, .int .u32 u7.toNat] := by
  have hc : Tryz.prog.cellsOf 35 = 1 := by kernel_rfl
  have hc8 : Tryz.prog.cellsOf 40 = 8 := by kernel_rfl
  unfold Program.keyLits
  rw [Tryz.underlying40]
  simp [Value.cells, hc, hc8, List.range, List.range.loop, key_w]
theorem eq_regs (u0 u1 u2 u3 u4 u5 u6 u7 : UInt32) (w : World) : (binOp .eql 40 (.agg #[wv u0, wv u1, wv u2, wv u3, wv u4, wv u5, wv u6, wv u7]) (.agg #[wv u0, wv u1, wv u2, wv u3, wv u4, wv u5, wv u6, wv u7])).run Tryz.prog w = .ok (.bool true) w := by
  obtain ⟨r, hr, hi⟩ := run_equalIn_deep (P := Tryz.prog) 9998 2 40 (by kernel_rfl) w 2 2 (.agg #[wv u0, wv u1, wv u2, wv u3, wv u4, wv u5, wv u6, wv u7]) (.agg #[wv u0, wv u1, wv u2, wv u3, wv u4, wv u5, wv u6, wv u7]) [.int .u32 u0.toNat, .int .u32 u1.toNat, .int .u32 u2.toNat, .int .u32 u3.toNat, .int .u32 u4.toNat, .int .u32 u5.toNat, .int .u32 u6.toNat, .int .u32 u7.toNat] [.int .u32 u0.toNat, .int .u32 u1.toNat, .int .u32 u2.toNat, .int .u32 u3.toNat, .int .u32 u4.toNat, .int .u32 u5.toNat, .int .u32 u6.toNat, .int .u32 u7.toNat] (by kernel_rfl) (by kernel_rfl) (key_a u0 u1 u2 u3 u4 u5 u6 u7) (key_a u0 u1 u2 u3 u4 u5 u6 u7)
  obtain rfl : r = true := hi.2 rfl
  rw [run_eql_struct, hr]
  rfl
end Go.Proofs.YtijkkompnfpdeaaGreatDoor
