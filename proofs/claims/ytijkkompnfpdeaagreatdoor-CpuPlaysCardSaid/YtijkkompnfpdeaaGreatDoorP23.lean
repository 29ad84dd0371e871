/- CpuFaults: what a step may leave, in plain words; an image that may not be; great: walked. CpuPlays: a core that is not there; great; replies that lie in memory: walked. The book of lists that were answered: what is common. -/
import Derived.Test.YtijkkompnfpdeaaGreatDoorP12
import Derived.DeepKeys
import Derived.Laws.StructEq
import Derived.Test.YtijkkompnfpdeaaGreatDoorP22
import Derived.Deep.AppendLies
import Derived.Deep.DeepAppendRoom
import Derived.Deep.RegionLaw
import Derived.Deep.RegionHeld3
import Derived.Deep.CutRange
import Derived.Deep.Light
import Derived.BigQuiet
import Derived.StillTailTactics
import Derived.Laws.AppendOwn
import Derived.Deep.QuietTactic
set_option linter.unusedVariables false
set_option linter.unusedSimpArgs false
namespace Go.Proofs.YtijkkompnfpdeaaGreatDoor
open Go.RowKit Go.Joins Go.Shelf
attribute [local go_sem] Oper.semAt_some

theorem doesC_jump {x : I4} {s t : Cs} {d : Int} (h : doesC x s = some (t, d)) (hd : 1 + d = 0) : 15 ≤ x.1.toNat := by
  unfold doesC at h
  split at h <;> (try split at h) <;> first | (cases h; done) | (obtain ⟨rfl, rfl⟩ := Prod.mk.inj (Option.some.inj h); omega)
/-- A step of a core that is not asked. -/
inductive Steps3 (c : List I4) (s : Cs) : Prop
  | fault (h : stepC c s = (s, false, ak0, 15))
  | done (t : Cs) (h : stepC c s = (t, false, ak0, 0)) (m : t.mem.length = s.mem.length) (a : t.asked = false) (n : t.says.length ≤ s.says.length + 1) (j : t.at_ = s.at_ → ∃ k : Nat, s.at_ = (k : Int) ∧ ∃ hk : k < c.length, 15 ≤ (c[k]).1.toNat)
  | asks (t : Cs) (a : Ak) (h : stepC c s = (t, true, a, 0)) (m : t.mem.length = s.mem.length) (q : t.asked = true) (n : t.says = s.says) (j : t.at_ ≠ s.at_)
theorem steps3 (c : List I4) (s : Cs) (ha : s.asked = false) : Steps3 c s := by
  by_cases h : 0 ≤ s.at_ ∧ s.at_ < c.length
  · have hlt : s.at_.toNat < c.length := by omega
    have hk : s.at_ = (s.at_.toNat : Int) := by omega
    have e : stepC c s = (if 21 ≤ (c[s.at_.toNat]).1.toNat then ({ s with asked := true, at_ := s.at_ + 1 }, true, askC c[s.at_.toNat] s, (0 : Int)) else match doesC c[s.at_.toNat] s with | some (t, d) => ({ t with at_ := t.at_ + (1 + d) }, false, ak0, (0 : Int)) | none => (s, false, ak0, (15 : Int))) := by
      unfold stepC; rw [ha]; simp only [Bool.false_eq_true, if_false]; rw [dif_pos h]; rfl
    by_cases h21 : 21 ≤ (c[s.at_.toNat]).1.toNat
    · rw [if_pos h21] at e
      exact .asks _ _ e rfl rfl rfl (by show s.at_ + 1 ≠ s.at_; omega)
    · rw [if_neg h21] at e
      cases hd : doesC c[s.at_.toNat] s with
      | none => rw [hd] at e; exact .fault e
      | some q =>
        obtain ⟨t, d⟩ := q
        rw [hd] at e
        obtain ⟨m1, m2, m3, m4, m5, m6⟩ := doesC_mem hd
        refine .done _ e m1 (m4.trans ha) m5 (fun hj => ⟨_, hk, hlt, doesC_jump hd ?_⟩)
        have : t.at_ + (1 + d) = s.at_ := hj
        omega
  · refine .fault ?_
    unfold stepC; rw [ha]; simp only [Bool.false_eq_true, if_false]; rw [dif_neg h]
theorem answC_fin {s : Cs} (h : s.asked = true) (e : Int) (v : UInt32) : (answC s e v).1.asked = false ∧ (answC s e v).1.says = s.says ∧ (answC s e v).1.mem = s.mem ∧ (answC s e v).1.at_ = s.at_ := by rw [answC_y h]; exact ⟨rfl, rfl, rfl, rfl⟩
set_option maxHeartbeats 4000000 in
set_option maxRecDepth 20000 in
theorem new_n (n : Int) (ad ac : Option Addr) (dc cc : Nat) (d : List UInt8) (c : List I4) (w : World) (hk : imck n d c = false) (hc : CellsIn w ac (ics c)) :
    Calls Tryz.prog 8 #[imV n ad d.length dc ac c.length cc] w fun e w' => e = .returned (.tuple #[.pointer none, .int .i64 1]) ∧ Below w.heap.size w w' := by
  have H1 := blk_new (Hp.start w) (.cells #[.int .i64 n, .slice ad d.length dc, .slice ac c.length cc] 29)
  have CK := Lib.hid (imcheck_c n ad ac dc cc d c _ (hc.below H1.below))
  rw [hk] at CK
  have HH := Lib.hid H1
  clear H1 hk hc
  go_enter Tryz.func8, Tryz.ntmps8
  go_wp2_with fail
  refine CK.out.mono ?_; rintro e w2 ⟨rfl, hb⟩
  have H2 := Lib.hid (HH.out.below_read hb)
  clear hb CK HH
  go_wp2
  go_ret2
  exact ⟨rfl, H2.out.below⟩
set_option maxHeartbeats 4000000 in
set_option maxRecDepth 20000 in
theorem size_n (n : Int) (ad ac : Option Addr) (dl dc cl cc : Nat) (w : World) (h1 : dl ≤ 4096) (h2 : cl ≤ 1024) :
    Calls Tryz.prog 37 #[imV n ad dl dc ac cl cc] w fun e w' => e = .returned (.int .i64 (1 + (dl : Int) + (cl : Int))) ∧ Below w.heap.size w w' := by
  have HH := Lib.hid (blk_new (Hp.start w) (.cells #[.int .i64 n, .slice ad dl dc, .slice ac cl cc] 29))
  have q1 : IntKind.i64.wrap (1 + (dl : Int)) = 1 + (dl : Int) := by rw [IntKind.wrap_i64]; omega
  have q2 : IntKind.i64.wrap (1 + (dl : Int) + (cl : Int)) = 1 + (dl : Int) + (cl : Int) := by rw [IntKind.wrap_i64]; omega
  have q3 : 1 + (dl : Int) ≤ 1048576 := by omega
  go_enter Tryz.func37, Tryz.ntmps37
  go_wp2
  go_ret
  exact ⟨rfl, HH.out.below⟩
set_option maxHeartbeats 4000000 in
set_option maxRecDepth 20000 in
theorem great_n (n : Int) (ad ac : Option Addr) (dl dc cl cc : Nat) (w : World) (h0 : n ≤ 4096) (h1 : dl ≤ 4096) (h2 : cl ≤ 1024) :
    Calls Tryz.prog 14 #[imV n ad dl dc ac cl cc] w fun e w' => e = .returned (.bool false) ∧ Below w.heap.size w w' := by
  have HH := Lib.hid (blk_new (Hp.start w) (.cells #[.int .i64 n, .slice ad dl dc, .slice ac cl cc] 29))
  have SC := Lib.hid (fun W => size_n n ad ac dl dc cl cc W h1 (by omega))
  have q1 : decide ((6000 : Int) < 1 + (dl : Int) + (cl : Int)) = false := by simp; omega
  have q2 : decide ((5000 : Int) < n) = false := by simp; omega
  have x0 : (w.alloc (.cells #[.int .i64 n, .slice ad dl dc, .slice ac cl cc] 29)).cell? ⟨w.heap.size, 0, none⟩ = some (.int .i64 n) := cell_blk (blk_get HH.out) 0
  clear h0 h1 h2
  go_enter Tryz.func14, Tryz.ntmps14
  go_wp2_with fail
  refine (SC.out _).mono ?_; rintro e w2 ⟨rfl, hb⟩
  have H2 := Lib.hid (HH.out.below_read hb)
  have y0 : w2.cell? ⟨w.heap.size, 0, none⟩ = some (.int .i64 n) := cell_blk (blk_get H2.out) 0
  clear hb SC HH x0
  go_wp2
  go_ret
  exact ⟨rfl, H2.out.below⟩
theorem key_w (u : UInt32) : (Tryz.prog.keyLits 1 35 [wv u]) = some [.int .u32 (u.toNat : Int)] := by
  have h : (Lit.int .u32 (u.toNat : Int)).wf = true := by
    have := u.toNat_lt
    simp only [Lit.wf, IntKind.min, IntKind.max, IntKind.bits, IntKind.signed, Bool.and_eq_true]
    simp
    omega
  unfold Program.keyLits
  rw [Tryz.underlying35]
  simp [h]
theorem key_a (u0 u1 u2 u3 u4 u5 u6 u7 : UInt32) : (Tryz.prog.keyLits 2 40 (Value.agg #[wv u0, wv u1, wv u2, wv u3, wv u4, wv u5, wv u6, wv u7]).cells.toList) = some [.int .u32 u0.toNat, .int .u32 u1.toNat, .int .u32 u2.toNat, .int .u32 u3.toNat, .int .u32 u4.toNat, .int .u32 u5.toNat, .int .u32 u6.toNat, .int .u32 u7.toNat] := by
  have hc : Tryz.prog.cellsOf 35 = 1 := by kernel_rfl
  have hc8 : Tryz.prog.cellsOf 40 = 8 := by kernel_rfl
  unfold Program.keyLits
  rw [Tryz.underlying40]
  simp [Value.cells, hc, hc8, List.range, List.range.loop, key_w]
theorem eq_regs (u0 u1 u2 u3 u4 u5 u6 u7 : UInt32) (w : World) : (binOp .eql 40 (.agg #[wv u0, wv u1, wv u2, wv u3, wv u4, wv u5, wv u6, wv u7]) (.agg #[wv u0, wv u1, wv u2, wv u3, wv u4, wv u5, wv u6, wv u7])).run Tryz.prog w = .ok (.bool true) w := by
  obtain ⟨r, hr, hi⟩ := run_equalIn_deep (P := Tryz.prog) 9998 2 40 (by kernel_rfl) w 2 2 (.agg #[wv u0, wv u1, wv u2, wv u3, wv u4, wv u5, wv u6, wv u7]) (.agg #[wv u0, wv u1, wv u2, wv u3, wv u4, wv u5, wv u6, wv u7]) [.int .u32 u0.toNat, .int .u32 u1.toNat, .int .u32 u2.toNat, .int .u32 u3.toNat, .int .u32 u4.toNat, .int .u32 u5.toNat, .int .u32 u6.toNat, .int .u32 u7.toNat] [.int .u32 u0.toNat, .int .u32 u1.toNat, .int .u32 u2.toNat, .int .u32 u3.toNat, .int .u32 u4.toNat, .int .u32 u5.toNat, .int .u32 u6.toNat, .int .u32 u7.toNat] (by kernel_rfl) (by kernel_rfl) (key_a u0 u1 u2 u3 u4 u5 u6 u7) (key_a u0 u1 u2 u3 u4 u5 u6 u7)
  obtain rfl : r = true := hi.2 rfl
  rw [run_eql_struct, hr]
  rfl
end Go.Proofs.YtijkkompnfpdeaaGreatDoor
set_option linter.unusedVariables false
set_option linter.unusedSimpArgs false
namespace Go.Proofs.YtijkkompnfpdeaaGreatDoor
open Go.RowKit Go.Joins Go.Shelf
attribute [local go_sem] Oper.semAt_some

set_option maxHeartbeats 4000000 in
set_option maxRecDepth 20000 in
theorem step_nil {w0 w : World} {r : List Thing} (H : Hp w0 w r) :
    Calls Tryz.prog 9 #[.pointer none] w fun e w' => e = .returned (stV false ak0 2) ∧ Hp w0 w' r := by
  have HR := Lib.hid (r3_new H)
  clear H
  go_enter_defers Tryz.func9, Tryz.ntmps9
  go_upto_region 1 with fail
  generalize w.heap.size + 1 + 1 = b4 at *
  generalize w.heap.size + 1 = b3 at *
  generalize w.heap.size = b2 at *
  generalize ((w.alloc _).alloc _).alloc _ = W at *
  have HZ := Lib.hid (r3_set (y := false) (d := ak0) (f := 2) HR.out)
  obtain ⟨c2, d0, d1, d2, d3, d4, c4, z2, z30, z31, z32, z33, z34, z4, n1, n2, n3, n4, n5, n6⟩ := r3_facts HR.out
  go_wp2
  go_region
  go_wp2
  exact ⟨_, res3 _ rfl rfl rfl HZ.out.drew, rfl, HZ.out.drew.tail.tail.tail⟩
set_option maxHeartbeats 1000000 in
theorem at_nil (w : World) : Calls Tryz.prog 18 #[.pointer none] w fun e w' => e = .returned (.int .i64 0) ∧ w' = w := by
  go_enter Tryz.func18, Tryz.ntmps18
  go_wp2
  go_ret
  exact ⟨rfl, rfl⟩
set_option maxHeartbeats 1000000 in
theorem bytes_nil (w : World) : Calls Tryz.prog 13 #[.pointer none] w fun e w' => e = .returned (.slice none 0 0) ∧ w' = w := by
  go_enter Tryz.func13, Tryz.ntmps13
  go_wp2
  go_ret
  exact ⟨rfl, rfl⟩
set_option maxHeartbeats 4000000 in
set_option maxRecDepth 20000 in
theorem size_g (n : Int) (ad ac : Option Addr) (dl dc cl cc : Nat) (w : World) (h1 : dl ≤ 1000000000000000) (h2 : cl ≤ 1000000000000000) :
    Calls Tryz.prog 37 #[imV n ad dl dc ac cl cc] w fun e w' => ∃ z : Int, e = .returned (.int .i64 z) ∧ (z ≤ 6000 → dl ≤ 6000 ∧ cl ≤ 6000) ∧ Below w.heap.size w w' := by
  have HH := Lib.hid (blk_new (Hp.start w) (.cells #[.int .i64 n, .slice ad dl dc, .slice ac cl cc] 29))
  have q1 : IntKind.i64.wrap (1 + (dl : Int)) = 1 + (dl : Int) := by rw [IntKind.wrap_i64]; omega
  have q2 : IntKind.i64.wrap (1 + (dl : Int) + (cl : Int)) = 1 + (dl : Int) + (cl : Int) := by rw [IntKind.wrap_i64]; omega
  by_cases h3 : 1 + (dl : Int) ≤ 1048576
  · have Z : Hid (1 + (dl : Int) + (cl : Int) ≤ 6000 → dl ≤ 6000 ∧ cl ≤ 6000) := Lib.hid (fun h => by omega)
    clear h1 h2
    go_enter Tryz.func37, Tryz.ntmps37
    go_wp2
    go_ret
    exact ⟨_, rfl, Z.out, HH.out.below⟩
  · have Z : Hid (1 + (dl : Int) ≤ 6000 → dl ≤ 6000 ∧ cl ≤ 6000) := Lib.hid (fun h => by omega)
    clear h1 h2
    go_enter Tryz.func37, Tryz.ntmps37
    go_wp2
    go_ret
    exact ⟨_, rfl, Z.out, HH.out.below⟩
set_option maxHeartbeats 4000000 in
set_option maxRecDepth 20000 in
theorem great_g (n : Int) (ad ac : Option Addr) (dl dc cl cc : Nat) (w : World) (h1 : dl ≤ 1000000000000000) (h2 : cl ≤ 1000000000000000) :
    Calls Tryz.prog 14 #[imV n ad dl dc ac cl cc] w fun e w' => ∃ g : Bool, e = .returned (.bool g) ∧ (g = false → dl ≤ 6000 ∧ cl ≤ 6000) ∧ Below w.heap.size w w' := by
  have HH := Lib.hid (blk_new (Hp.start w) (.cells #[.int .i64 n, .slice ad dl dc, .slice ac cl cc] 29))
  have SC := Lib.hid (fun W => size_g n ad ac dl dc cl cc W h1 h2)
  have x0 : (w.alloc (.cells #[.int .i64 n, .slice ad dl dc, .slice ac cl cc] 29)).cell? ⟨w.heap.size, 0, none⟩ = some (.int .i64 n) := cell_blk (blk_get HH.out) 0
  clear h1 h2
  go_enter Tryz.func14, Tryz.ntmps14
  go_wp2_with fail
  refine (SC.out _).mono ?_; rintro e w2 ⟨z, rfl, hz, hb⟩
  have H2 := Lib.hid (HH.out.below_read hb)
  have HZ := Lib.hid hz
  have y0 : w2.cell? ⟨w.heap.size, 0, none⟩ = some (.int .i64 n) := cell_blk (blk_get H2.out) 0
  clear hb SC HH x0 hz
  by_cases h3 : 6000 < z
  · have d3 : decide (6000 < z) = true := by simpa using h3
    clear h3
    go_wp2
    go_ret
    exact ⟨_, rfl, fun h => (by cases h), H2.out.below⟩
  · have d3 : decide (6000 < z) = false := by simpa using h3
    have HY := Lib.hid (HZ.out (by omega))
    clear h3
    go_wp2
    go_ret
    exact ⟨_, rfl, fun _ => HY.out, H2.out.below⟩
/-! ### Replies. -/
def RepsIn (w : World) (a : Option Addr) (xs : List (Int × UInt32)) : Prop :=
  ∀ j (hj : j < xs.length), ∃ g off, a = some ⟨g, off, none⟩ ∧ w.cell? ⟨g, off + j * 2, none⟩ = some (.int .i64 xs[j].1) ∧ w.cell? ⟨g, off + j * 2 + 1, none⟩ = some (wv xs[j].2)
theorem reps_cell {w0 w : World} {r : List Thing} {a : Option Addr} {xs : List (Int × UInt32)} (h : Hp w0 w r) (hb : RepsIn w0 a xs) (j : Nat) (hj : j < xs.length) : ∃ g off, a = some ⟨g, off, none⟩ ∧ w.cell? ⟨g, off + j * 2, none⟩ = some (.int .i64 xs[j].1) ∧ w.cell? ⟨g, off + j * 2 + 1, none⟩ = some (wv xs[j].2) := by
  obtain ⟨g, off, rfl, h0, h1⟩ := hb j hj
  have k := fun (i : Nat) (v : Value) (e : w0.cell? ⟨g, i, none⟩ = some v) => (h.below.cell (p := ⟨g, i, none⟩) (World.block_lt_of_cell? _ _ e)).trans e
  exact ⟨g, off, rfl, k _ _ h0, k _ _ h1⟩
/-! ### What a step leaves. -/
theorem stepC_says (c : List I4) (s : Cs) : (stepC c s).1.says.length ≤ s.says.length + 1 := by
  cases ha : s.asked with
  | true => unfold stepC; rw [ha]; simp
  | false =>
    rcases steps3 c s ha with h | ⟨t, h, _, _, hn, _⟩ | ⟨t, a, h, _, _, hn, _⟩
    · rw [h]; simp
    · rw [h]; exact hn
    · rw [h]; rw [show t.says = s.says from hn]; simp
theorem answC_says (s : Cs) (e : Int) (v : UInt32) : (answC s e v).1.says = s.says := by unfold answC; split <;> rfl
end Go.Proofs.YtijkkompnfpdeaaGreatDoor
set_option linter.unusedVariables false
set_option linter.unusedSimpArgs false
namespace Go.Proofs.YtijkkompnfpdeaaGreatDoor
open Go.RowKit Go.Shelf
attribute [local go_sem] Oper.semAt_some
/-- An append to a row that grows leaves the old row as it was. -/
theorem run_append_keep {P : Program} (w : World) (base : Nat) (t ty e : TypeId) (i : TypeInfo) (z : Value) (size bytes : Nat) (ht : P.underlying t = some (.slice e)) (hi : P.info? e = some i) (hz : i.zero = some z)
    (hsize : i.size = size) (hby : i.bytes = bytes) (hzs : z.cells.size = size) (hsz : 0 < size)
    (v : Value) (n : Nat) (xs : List Value) (hown : w.ownsRow base e size v n xs)
    (a : Addr) (m c : Nat) (news : List Value) (hl : news.length = m * size) (hnews : ∀ j u, news[j]? = some u → w.cell? (a.add j) = some u) (h1 : ∀ u ∈ news, u.oneCell' = true)
    (h63 : n + m ≤ maxLen) (hbytes : (n + m) * bytes ≤ 140737488355328) (hbase : base ≤ w.heap.size) :
    ∃ v' w', (Builtin.append_ #[t, t] ty #[v, .slice (some a) m c]).run P w = .ok v' w' ∧ w'.ownsRow base e size v' (n + m) (xs ++ news) ∧ w.grownBy w' v.ownBlock ∧
      (v'.ownBlock = v.ownBlock ∨ (v'.ownBlock = some w.heap.size ∧ w.grownBy w' none)) := by
  obtain ⟨v', w', hr, h2, h3, h4, h5⟩ := run_append_own_at (P := P) w base t ty e i z size bytes ht hi hz hsize hby hzs hsz v n xs hown a m c news hl hnews h1 h63 hbytes hbase
  refine ⟨v', w', hr, h2, h3, ?_⟩
  rcases h5 with h5 | h5
  · exact Or.inl h5
  · rcases hown.2 with ⟨rfl, rfl⟩ | ⟨g, cap, cur, rfl, hbg, hg, hnc, hcm, hcs, htake⟩
    · exact Or.inr ⟨h5, h3⟩
    · by_cases hroom : n + m ≤ cap
      · obtain ⟨w2, hr2, h22, h23⟩ := run_append_own_spare (P := P) w base t ty e i size ht hi hsize g n cap xs hown a m c news hl hnews h1 hroom
        rw [hr] at hr2
        injection hr2 with e1 e2
        subst e1
        exact Or.inl rfl
      · subst hsize
        subst hby
        have hsmall : n + m ≤ 9223372036854775807 := by simp only [maxLen] at h63; omega
        have holds : ∀ j u, xs[j]? = some u → w.cell? ((⟨g, 0, none⟩ : Addr).add j) = some u := hown.cells (g := g) rfl
        have hr2 := run_append_grow (P := P) w t ty e i z ht hi hz ⟨g, 0, none⟩ n cap xs hown.1 holds a m c news hl hnews (by omega) (by omega) (growslice_fits (by omega) hbytes)
        rw [hr] at hr2
        injection hr2 with e1 e2
        subst e2
        exact Or.inr ⟨h5, rfl, rfl, rfl, by simp, fun k hk _ => Below.heap_alloc w.drew _ k hk⟩

theorem wpList_append_keep {P : Program} (w : World) {ops : Array Oper} {rest : List Oper} {o : Oper} {a : Act} {Q : Exit → Act → World → Prop} (hgd : o.guard = none) (s x : Operand) (t : TypeId)
    (ho : o.op = .call { callee := .builtin .append, args := #[s, x], argTypes := #[t, t] })
    (base : Nat) (e : TypeId) (i : TypeInfo) (z : Value) (size bytes : Nat) (ht : P.underlying t = some (.slice e)) (hi : P.info? e = some i) (hz : i.zero = some z)
    (hsize : i.size = size) (hby : i.bytes = bytes) (hzs : z.cells.size = size) (hsz : 0 < size)
    (v : Value) (n : Nat) (xs : List Value) (hs : a.eval s = v) (hown : w.ownsRow base e size v n xs)
    (ad : Addr) (m c : Nat) (news : List Value) (hx : a.eval x = .slice (some ad) m c) (hl : news.length = m * size) (hnews : ∀ j u, news[j]? = some u → w.cell? (ad.add j) = some u) (h1 : ∀ u ∈ news, u.oneCell' = true)
    (h63 : n + m ≤ maxLen) (hbytes : (n + m) * bytes ≤ 140737488355328) (hbase : base ≤ w.heap.size)
    (h : ∀ v' w', w'.ownsRow base e size v' (n + m) (xs ++ news) → w.grownBy w' v.ownBlock → (v'.ownBlock = v.ownBlock ∨ (v'.ownBlock = some w.heap.size ∧ w.grownBy w' none)) → wpList P ops Q rest (a.put o.dst v') w') :
    wpList P ops Q (o :: rest) a w := by
  refine wpList_plain hgd fun K hK => ?_
  obtain ⟨v', w', hr, h2, h3, h4⟩ := run_append_keep (P := P) w base t o.type e i z size bytes ht hi hz hsize hby hzs hsz v n xs hown ad m c news hl hnews h1 h63 hbytes hbase
  unfold Oper.wp execOp
  simp only [ho, resolve, invoke, builtin, Sem.run_bind, Sem.run_pure, Result.andThen_ok, List.map_toArray, List.map_cons, List.map_nil, hs, hx, hr]
  exact hK _ _ (h v' w' h2 h3 h4)

/-- The first thing, told otherwise. -/
theorem Hp.as {w0 w : World} {t t' : Thing} {r : List Thing} (h : Hp w0 w (t :: r)) (e : ∀ S, t.at_ w S → t'.at_ w S) : Hp w0 w (t' :: r) := by
  obtain ⟨S, h1, h2, h3⟩ := h.lay
  exact ⟨h.below, S, e S h1, h2, h3⟩

/-- A list of the book: the slice, how long it is, its number. -/
structure Hl where
  v : Value
  n : Nat
  q : Int
/-- A row of the book: the list, the long one, the number. -/
structure Hr where
  l : Hl
  long : Value
def hrc (x : Hr) : List Value := [x.l.v, x.long, .int .i64 x.l.q]
def hc (xs : List Hr) : List Value := xs.flatMap hrc
theorem hc_len (xs : List Hr) : (hc xs).length = xs.length * 3 := by
  induction xs with
  | nil => rfl
  | cons x r ih => simp only [hc, List.flatMap_cons, List.length_append, List.length_cons] at ih ⊢; rw [ih]; simp [hrc]; omega
theorem hc_app (xs ys : List Hr) : hc (xs ++ ys) = hc xs ++ hc ys := by simp [hc]
theorem hc_at (A B : List Hr) (x : Hr) (i : Nat) (h : A.length = i) (o : Nat) (ho : o < 3) : (hc (A ++ x :: B))[i * 3 + o]? = (hrc x)[o]? := by
  rw [hc_app, List.getElem?_append_right (by rw [hc_len, h]; omega), hc_len, h]
  rw [show i * 3 + o - i * 3 = o by omega]
  show (hc (x :: B))[o]? = _
  have : hc (x :: B) = hrc x ++ hc B := rfl
  rw [this, List.getElem?_append_left (by simp [hrc]; omega)]
theorem hc_set (A B : List Hr) (x : Hr) (i : Nat) (h : A.length = i) (v : Value) : (hc (A ++ x :: B)).set (i * 3 + 1) v = hc (A ++ ⟨x.l, v⟩ :: B) := by
  rw [hc_app, hc_app, List.set_append_right _ _ (by rw [hc_len, h]; omega), hc_len, h, show i * 3 + 1 - i * 3 = 1 by omega]
  rfl
theorem perm_in {a b t : Thing} {X Y r : List Thing} : (a :: b :: (X ++ (t :: Y) ++ r)).Perm (t :: a :: b :: (X ++ Y ++ r)) := by
  have := List.perm_middle (a := t) (l₁ := a :: b :: X) (l₂ := Y ++ r)
  simpa using this

theorem own_shape {w : World} {B : Nat} {e : TypeId} {size : Nat} {v : Value} {n : Nat} {xs : List Value} (h : w.ownsRow B e size v n xs) : ∃ a c, v = .slice a n c := by
  rcases h.2 with ⟨e, e2⟩ | ⟨g, cap, cur, e, _⟩
  · exact ⟨none, 0, by rw [e, e2]⟩
  · exact ⟨_, _, e⟩
abbrev nil_ (h : Hl) : Hr := ⟨h, .slice none 0 0⟩
end Go.Proofs.YtijkkompnfpdeaaGreatDoor
