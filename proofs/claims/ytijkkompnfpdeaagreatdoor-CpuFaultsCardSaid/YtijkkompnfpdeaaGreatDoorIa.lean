/- Instructions: the kinds of fields, as a map of functions in memory. -/
import Derived.Test.YtijkkompnfpdeaaGreatDoorRows
import Derived.Test.YtijkkompnfpdeaaGreatDoorGen
import Derived.Laws.EntriesVeiled
import Derived.MapKept
import Derived.RangeFuncRecord
import Derived.Lib.OthersKept
import Derived.BigQuiet
import Derived.Deep.QuietTactic
import Derived.OwnWalk
set_option linter.unusedVariables false
set_option linter.unusedSimpArgs false
namespace Go.Proofs.YtijkkompnfpdeaaGreatDoor
open Go.RowKit Go.MapKept
attribute [local go_sem] Oper.semAt_some

/-! ### A map whose entries are known whole. -/
theorem run_insert_fresh {P : Program} {w : World} {t kt et : TypeId} {d : TypeDesc} {r : Nat} {es : Array MapEntry} {clock : Nat} {k v : Value} (ht : P.underlying t = some (.map kt et)) (hd : P.underlying kt = some d) (hb : w.heap[r]? = some (.map es clock))
    (hk : IsKey d k) (hf : Instr.findNow d k es.toList 0 = some none) : (Instr.mapUpdate t (.map (some r)) k v).run P w = .ok () (w.putObj r (.map (es.push ⟨k, v, clock⟩) (clock + 1))) := by
  have hg : (getObj r).run P w = .ok (.map es clock) w := by simp [getObj, Sem.run, hb]
  have hs : ∀ o, (setObj r o).run P w = .ok () (w.putObj r o) := fun o => by simp [setObj, Sem.run, hb, World.putObj]
  simp only [Instr.mapUpdate, Sem.run_bind, run_underlying ht, Result.andThen, hg, run_checkKey hd hk, run_findKey hd hf, hs]
theorem run_lookup_there {P : Program} {w : World} {t kt et : TypeId} {d : TypeDesc} {r i : Nat} {es : Array MapEntry} {clock : Nat} {k v : Value} (ht : P.underlying t = some (.map kt et)) (hd : P.underlying kt = some d) (hb : w.heap[r]? = some (.map es clock))
    (hk : IsKey d k) (hf : Instr.findNow d k es.toList 0 = some (some (i, v))) : (Instr.lookup t (.map (some r)) k false).run P w = .ok v w := by
  have hg : (getObj r).run P w = .ok (.map es clock) w := by simp [getObj, Sem.run, hb]
  simp only [Instr.lookup, Sem.run_bind, run_underlying ht, Result.andThen, hg, run_checkKey hd hk, run_findKey hd hf, Sem.run_pure]
  simp
theorem wpList_insert_fresh {P : Program} {w : World} {ops : Array Oper} {rest : List Oper} {o : Oper} {a : Act} {Q : Exit → Act → World → Prop} (hg : o.guard = none) (m x v : Operand) (t : TypeId) (hop : o.op = Op.insert t m x v)
    (kt et : TypeId) (d : TypeDesc) (ht : P.underlying t = some (.map kt et)) (hd : P.underlying kt = some d) (r : Nat) (es : Array MapEntry) (clock : Nat) (hb : w.heap[r]? = some (.map es clock)) (hm : a.eval m = .map (some r)) (k val : Value) (hx : a.eval x = k) (hv : a.eval v = val)
    (hk : IsKey d k) (hf : Instr.findNow d k es.toList 0 = some none)
    (hK : wpList P ops Q rest (a.put o.dst undef) (w.putObj r (.map (es.push ⟨k, val, clock⟩) (clock + 1)))) : wpList P ops Q (o :: rest) a w := by
  refine wpList_plain hg fun K' hK' => ?_
  have hrun := run_insert_fresh (P := P) (v := val) ht hd hb hk hf
  unfold Oper.wp
  simp [execOp, hop, hm, hx, hv, hrun, Result.andThen]
  exact hK' _ _ hK
theorem tch_put {w : World} {r : Nat} (o : Obj) : Tch (fun k => k = r) w (w.putObj r o) :=
  ⟨rfl, rfl, rfl, by simp [World.putObj], fun k hk hn => World.putObj_heap_other hn⟩
theorem blk_put {w0 w : World} {b : Nat} {o : Obj} {r : List Thing} (h : Hp w0 w (Blk b o :: r)) (o' : Obj) : Hp w0 (w.putObj b o') (Blk b o' :: r) := by
  obtain ⟨S, ⟨h1, rfl⟩, h2, h3⟩ := h.lay
  exact Hp.step (t' := Blk b o') (S := fun k => k = b) (S' := fun k => k = b) h.below (fun k hk => (h2 k hk).1) h3 (tch_put o') ⟨World.putObj_heap_same (blk_lt h1), rfl⟩ (fun k hk => Or.inl hk)

/-! ### below. -/
abbrev lamB (b : Nat) : Value := .func (.func 158) #[] #[.pointer (some ⟨b, 0, none⟩), .pointer (some ⟨b + 1, 0, none⟩)]
set_option maxHeartbeats 1000000 in
set_option maxRecDepth 20000 in
theorem below_c (l m : Int) (w : World) :
    Calls Tryz.prog 150 #[.int .i64 l, .int .i64 m] w fun e w' => e = .returned (lamB w.heap.size) ∧ (w.alloc (.cells #[.int .i64 l] 3)).alloc (.cells #[.int .i64 m] 3) = w' := by
  go_enter Tryz.func150, Tryz.ntmps150
  go_wp2
  go_ret
  exact ⟨rfl, rfl⟩
set_option maxHeartbeats 1000000 in
set_option maxRecDepth 20000 in
theorem lam_c (n l m : Int) (b : Nat) (w : World) (h1 : w.cell? ⟨b, 0, none⟩ = some (.int .i64 l)) (h2 : w.cell? ⟨b + 1, 0, none⟩ = some (.int .i64 m)) :
    Calls Tryz.prog 158 #[.int .i64 n, .pointer (some ⟨b, 0, none⟩), .pointer (some ⟨b + 1, 0, none⟩)] w fun e w' => e = .returned (.bool (decide (l ≤ n) && decide (n < m))) ∧ w = w' := by
  by_cases hl : l ≤ n
  · have d1 : decide (l ≤ n) = true := by simpa using hl
    go_enter Tryz.func158, Tryz.ntmps158
    go_wp2
    go_ret
    exact ⟨by simp [d1], rfl⟩
  · have d1 : decide (l ≤ n) = false := by simpa using hl
    go_enter Tryz.func158, Tryz.ntmps158
    go_wp2
    go_ret
    exact ⟨by simp [d1], rfl⟩

/-! ### kinds. -/
abbrev fn_ (f : FuncId) : Value := .func (.func f) #[] #[]
abbrev kR (m : Nat) : Value := .agg #[.int .i64 1, lamB (m + 1), fn_ 151, fn_ 152]
abbrev kN (m : Nat) : Value := .agg #[.int .i64 2, lamB (m + 3), fn_ 149, fn_ 154]
abbrev kB (m : Nat) : Value := .agg #[.int .i64 1, lamB (m + 5), fn_ 149, fn_ 154]
abbrev kW (m : Nat) : Value := .agg #[.int .i64 1, lamB (m + 7), fn_ 149, fn_ 154]
abbrev kS (m : Nat) : Value := .agg #[.int .i64 1, lamB (m + 9), fn_ 155, fn_ 156]
def kes (m : Nat) : Array MapEntry := #[⟨.int .i32 114, kR m, 0⟩, ⟨.int .i32 110, kN m, 1⟩, ⟨.int .i32 98, kB m, 2⟩, ⟨.int .i32 119, kW m, 3⟩, ⟨.int .i32 115, kS m, 4⟩]
abbrev Ob (v : Int) : Obj := .cells #[.int .i64 v] 3 (0, 0)
/-- The map, and what its functions have captured. -/
abbrev Kmap (m : Nat) : Thing := Alls [Blk m (.map (kes m) 5), Blk (m + 9) (Ob 0), Blk (m + 10) (Ob 256), Blk (m + 7) (Ob 1), Blk (m + 8) (Ob 21), Blk (m + 5) (Ob 0), Blk (m + 6) (Ob 256), Blk (m + 3) (Ob 0), Blk (m + 4) (Ob 65536), Blk (m + 1) (Ob 0), Blk (m + 2) (Ob 8)]
theorem blk_new_at {w0 w : World} {r : List Thing} (h : Hp w0 w r) (o : Obj) (n : Nat) (e : n = w.heap.size) : Hp w0 (w.alloc o) (Blk n o :: r) := by subst e; exact blk_new h o
theorem put_size (w : World) (r : Nat) (o : Obj) : (w.putObj r o).heap.size = w.heap.size := by simp [World.putObj]

theorem below_h {w0 w : World} {r : List Thing} (l m : Int) (n : Nat) (H : Hp w0 w r) (hs : w.heap.size = n) :
    Calls Tryz.prog 150 #[.int .i64 l, .int .i64 m] w fun e w' => e = .returned (lamB n) ∧ Hp w0 w' (Blk n (Ob l) :: Blk (n + 1) (Ob m) :: r) ∧ w'.heap.size = n + 2 := by
  subst hs
  refine (below_c l m w).mono ?_
  rintro e w' ⟨rfl, rfl⟩
  refine ⟨rfl, (blk_new_at (blk_new H (Ob l)) (Ob m) (w.heap.size + 1) (size_alloc1 _ _)).up1, ?_⟩
  rw [← size_alloc2]
theorem und_map : Tryz.prog.underlying 182 = some (.map 21 191) := Tryz.underlying182
set_option maxHeartbeats 4000000 in
set_option maxRecDepth 20000 in
theorem kinds_c {w0 w : World} {r : List Thing} (H : Hp w0 w r) :
    Calls Tryz.prog 135 #[] w fun e w' => ∃ m, e = .returned (.map (some m)) ∧ Hp w0 w' (Kmap m :: r) := by
  have hmm := @run_makeMap Tryz.prog
  have H1 := Lib.hid (blk_new H (.map #[] 0))
  have hs1 : (w.alloc (.map #[] 0)).heap.size = w.heap.size + 1 := (size_alloc1 _ _).symm
  clear H
  go_enter Tryz.func135, Tryz.ntmps135
  go_wp2_with fail
  generalize (w.alloc (.map #[] 0)) = w1 at *
  generalize w.heap.size = m at *
  refine (below_h 0 8 (m + 1) H1.out hs1).mono ?_; rintro e w2 ⟨rfl, G1, ks1⟩
  have hb1 := blk_get (G1.pull 2 rfl)
  clear hs1 H1
  have hr1 := run_insert_fresh (P := Tryz.prog) und_map Tryz.underlying21 hb1 (k := .int .i32 114) (v := kR m) rfl rfl
  go_wp2_with fail
  have H2 : Hid (Hp w0 (w2.putObj m (.map #[⟨.int .i32 114, kR m, 0⟩] 1)) (Blk m (.map #[⟨.int .i32 114, kR m, 0⟩] 1) :: _)) := Lib.hid (blk_put (G1.pull 2 rfl) _)
  have hs2 : (w2.putObj m (.map #[⟨.int .i32 114, kR m, 0⟩] 1)).heap.size = m + 3 := (put_size _ _ _).trans ks1
  clear hb1 G1 ks1 hr1
  generalize (w2.putObj m (.map #[⟨.int .i32 114, kR m, 0⟩] 1)) = w3 at *
  refine (below_h 0 65536 (m + 3) H2.out hs2).mono ?_; rintro e w4 ⟨rfl, G2, ks2⟩
  have hb2 := blk_get (G2.pull 2 rfl)
  clear hs2 H2
  have hr2 := run_insert_fresh (P := Tryz.prog) und_map Tryz.underlying21 hb2 (k := .int .i32 110) (v := kN m) rfl rfl
  go_wp2_with fail
  have H3 : Hid (Hp w0 (w4.putObj m (.map #[⟨.int .i32 114, kR m, 0⟩, ⟨.int .i32 110, kN m, 1⟩] 2)) (Blk m (.map #[⟨.int .i32 114, kR m, 0⟩, ⟨.int .i32 110, kN m, 1⟩] 2) :: _)) := Lib.hid (blk_put (G2.pull 2 rfl) _)
  have hs3 : (w4.putObj m (.map #[⟨.int .i32 114, kR m, 0⟩, ⟨.int .i32 110, kN m, 1⟩] 2)).heap.size = m + 5 := (put_size _ _ _).trans ks2
  clear hb2 G2 ks2 hr2
  generalize (w4.putObj m (.map #[⟨.int .i32 114, kR m, 0⟩, ⟨.int .i32 110, kN m, 1⟩] 2)) = w5 at *
  refine (below_h 0 256 (m + 5) H3.out hs3).mono ?_; rintro e w6 ⟨rfl, G3, ks3⟩
  have hb3 := blk_get (G3.pull 2 rfl)
  clear hs3 H3
  have hr3 := run_insert_fresh (P := Tryz.prog) und_map Tryz.underlying21 hb3 (k := .int .i32 98) (v := kB m) rfl rfl
  go_wp2_with fail
  have H4 : Hid (Hp w0 (w6.putObj m (.map #[⟨.int .i32 114, kR m, 0⟩, ⟨.int .i32 110, kN m, 1⟩, ⟨.int .i32 98, kB m, 2⟩] 3)) (Blk m (.map #[⟨.int .i32 114, kR m, 0⟩, ⟨.int .i32 110, kN m, 1⟩, ⟨.int .i32 98, kB m, 2⟩] 3) :: _)) := Lib.hid (blk_put (G3.pull 2 rfl) _)
  have hs4 : (w6.putObj m (.map #[⟨.int .i32 114, kR m, 0⟩, ⟨.int .i32 110, kN m, 1⟩, ⟨.int .i32 98, kB m, 2⟩] 3)).heap.size = m + 7 := (put_size _ _ _).trans ks3
  clear hb3 G3 ks3 hr3
  generalize (w6.putObj m (.map #[⟨.int .i32 114, kR m, 0⟩, ⟨.int .i32 110, kN m, 1⟩, ⟨.int .i32 98, kB m, 2⟩] 3)) = w7 at *
  refine (below_h 1 21 (m + 7) H4.out hs4).mono ?_; rintro e w8 ⟨rfl, G4, ks4⟩
  have hb4 := blk_get (G4.pull 2 rfl)
  clear hs4 H4
  have hr4 := run_insert_fresh (P := Tryz.prog) und_map Tryz.underlying21 hb4 (k := .int .i32 119) (v := kW m) rfl rfl
  go_wp2_with fail
  have H5 : Hid (Hp w0 (w8.putObj m (.map #[⟨.int .i32 114, kR m, 0⟩, ⟨.int .i32 110, kN m, 1⟩, ⟨.int .i32 98, kB m, 2⟩, ⟨.int .i32 119, kW m, 3⟩] 4)) (Blk m (.map #[⟨.int .i32 114, kR m, 0⟩, ⟨.int .i32 110, kN m, 1⟩, ⟨.int .i32 98, kB m, 2⟩, ⟨.int .i32 119, kW m, 3⟩] 4) :: _)) := Lib.hid (blk_put (G4.pull 2 rfl) _)
  have hs5 : (w8.putObj m (.map #[⟨.int .i32 114, kR m, 0⟩, ⟨.int .i32 110, kN m, 1⟩, ⟨.int .i32 98, kB m, 2⟩, ⟨.int .i32 119, kW m, 3⟩] 4)).heap.size = m + 9 := (put_size _ _ _).trans ks4
  clear hb4 G4 ks4 hr4
  generalize (w8.putObj m (.map #[⟨.int .i32 114, kR m, 0⟩, ⟨.int .i32 110, kN m, 1⟩, ⟨.int .i32 98, kB m, 2⟩, ⟨.int .i32 119, kW m, 3⟩] 4)) = w9 at *
  refine (below_h 0 256 (m + 9) H5.out hs5).mono ?_; rintro e w10 ⟨rfl, G5, ks5⟩
  have hb5 := blk_get (G5.pull 2 rfl)
  clear hs5 H5
  have hr5 := run_insert_fresh (P := Tryz.prog) und_map Tryz.underlying21 hb5 (k := .int .i32 115) (v := kS m) rfl rfl
  go_wp2_with fail
  have H6 : Hid (Hp w0 (w10.putObj m (.map #[⟨.int .i32 114, kR m, 0⟩, ⟨.int .i32 110, kN m, 1⟩, ⟨.int .i32 98, kB m, 2⟩, ⟨.int .i32 119, kW m, 3⟩, ⟨.int .i32 115, kS m, 4⟩] 5)) (Blk m (.map #[⟨.int .i32 114, kR m, 0⟩, ⟨.int .i32 110, kN m, 1⟩, ⟨.int .i32 98, kB m, 2⟩, ⟨.int .i32 119, kW m, 3⟩, ⟨.int .i32 115, kS m, 4⟩] 5) :: _)) := Lib.hid (blk_put (G5.pull 2 rfl) _)
  have hs6 : (w10.putObj m (.map #[⟨.int .i32 114, kR m, 0⟩, ⟨.int .i32 110, kN m, 1⟩, ⟨.int .i32 98, kB m, 2⟩, ⟨.int .i32 119, kW m, 3⟩, ⟨.int .i32 115, kS m, 4⟩] 5)).heap.size = m + 11 := (put_size _ _ _).trans ks5
  clear hb5 G5 ks5 hr5
  generalize (w10.putObj m (.map #[⟨.int .i32 114, kR m, 0⟩, ⟨.int .i32 110, kN m, 1⟩, ⟨.int .i32 98, kB m, 2⟩, ⟨.int .i32 119, kW m, 3⟩, ⟨.int .i32 115, kS m, 4⟩] 5)) = w11 at *
  go_wp2
  go_ret
  exact ⟨m, rfl, Hp.alls H6.out⟩
end Go.Proofs.YtijkkompnfpdeaaGreatDoor
