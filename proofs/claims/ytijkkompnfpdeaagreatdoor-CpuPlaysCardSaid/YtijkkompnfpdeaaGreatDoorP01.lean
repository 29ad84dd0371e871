/- Instructions: the kinds of fields, as a map of functions in memory. Instructions: their words, their fields, whether one may be. No program in sight but its tables. -/
import Derived.Test.YtijkkompnfpdeaaGreatDoorRows
import Derived.Test.YtijkkompnfpdeaaGreatDoorP00
import Derived.Laws.EntriesVeiled
import Derived.MapKept
import Derived.RangeFuncRecord
import Derived.Lib.OthersKept
import Derived.BigQuiet
import Derived.Deep.QuietTactic
import Derived.OwnWalk
import Derived.Deep.MidRow
import Derived.Deep.CutRange
set_option linter.unusedVariables false
set_option linter.unusedSimpArgs false
namespace Go.Proofs.YtijkkompnfpdeaaGreatDoor
open Go.RowKit Go.MapKept
attribute [local go_sem] Oper.semAt_some

/-! ### A map whose entries are known whole. -/
theorem run_insert_fresh {P : Program} {w : World} {t kt et : TypeId} {d : TypeDesc} {r : Nat} {es : Array MapEntry} {clock : Nat} {k v : Value} (ht : P.underlying t = some (.map kt et)) (hd : P.underlying kt = some d) (hb : w.heap[r]? = some (.map es clock))
    (hk : IsKey d k) (hf : Instr.findNow d k es.toList 0 = some none) : (Instr.mapUpdate t (.map (some r)) k v).run P w = .ok () (w.putObj r (.map (es.push ⟨k, v, clock⟩) (clock + 1))) := by
  have hg : (getObj r).run P w = .ok (.map es clock) w := by simp [getObj, Sem.run, hb]
  have hs : ∀ o, (setObj r o).run P w = .ok () (w.putObj r o) := fun o => by simp [setObj, Sem.run, hb, World.putObj]
  simp only [Instr.mapUpdate, Sem.run_bind, run_underlying ht, Result.andThen, hg, run_checkKey hd hk, run_findKey hd hf, hs]
theorem run_lookup_there {P : Program} {w : World} {t kt et : TypeId} {d : TypeDesc} {r i : Nat} {es : Array MapEntry} {clock : Nat} {k v : Value} (ht : P.underlying t = some (.map kt et)) (hd : P.underlying kt = some d) (hb : w.heap[r]? = some (.map es clock))
    (hk : IsKey d k) (hf : Instr.findNow d k es.toList 0 = some (some (i, v))) : (Instr.lookup t (.map (some r)) k false).run P w = .ok v w := by
  have hg : (getObj r).run P w = .ok (.map es clock) w := by simp [getObj, Sem.run, hb]
  simp only [Instr.lookup, Sem.run_bind, run_underlying ht, Result.andThen, hg, run_checkKey hd hk, run_findKey hd hf, Sem.run_pure]
  simp
theorem wpList_insert_fresh {P : Program} {w : World} {ops : Array Oper} {rest : List Oper} {o : Oper} {a : Act} {Q : Exit → Act → World → Prop} (hg : o.guard = none) (m x v : Operand) (t : TypeId) (hop : o.op = Op.insert t m x v)
    (kt et : TypeId) (d : TypeDesc) (ht : P.underlying t = some (.map kt et)) (hd : P.underlying kt = some d) (r : Nat) (es : Array MapEntry) (clock : Nat) (hb : w.heap[r]? = some (.map es clock)) (hm : a.eval m = .map (some r)) (k val : Value) (hx : a.eval x = k) (hv : a.eval v = val)
    (hk : IsKey d k) (hf : Instr.findNow d k es.toList 0 = some none)
    (hK : wpList P ops Q rest (a.put o.dst undef) (w.putObj r (.map (es.push ⟨k, val, clock⟩) (clock + 1)))) : wpList P ops Q (o :: rest) a w := by
  refine wpList_plain hg fun K' hK' => ?_
  have hrun := run_insert_fresh (P := P) (v := val) ht hd hb hk hf
  unfold Oper.wp
  simp [execOp, hop, hm, hx, hv, hrun, Result.andThen]
  exact hK' _ _ hK
theorem tch_put {w : World} {r : Nat} (o : Obj) : Tch (fun k => k = r) w (w.putObj r o) :=
  ⟨rfl, rfl, rfl, by simp [World.putObj], fun k hk hn => World.putObj_heap_other hn⟩
theorem blk_put {w0 w : World} {b : Nat} {o : Obj} {r : List Thing} (h : Hp w0 w (Blk b o :: r)) (o' : Obj) : Hp w0 (w.putObj b o') (Blk b o' :: r) := by
  obtain ⟨S, ⟨h1, rfl⟩, h2, h3⟩ := h.lay
  exact Hp.step (t' := Blk b o') (S := fun k => k = b) (S' := fun k => k = b) h.below (fun k hk => (h2 k hk).1) h3 (tch_put o') ⟨World.putObj_heap_same (blk_lt h1), rfl⟩ (fun k hk => Or.inl hk)

/-! ### below. -/
abbrev lamB (b : Nat) : Value := .func (.func 158) #[] #[.pointer (some ⟨b, 0, none⟩), .pointer (some ⟨b + 1, 0, none⟩)]
set_option maxHeartbeats 1000000 in
set_option maxRecDepth 20000 in
theorem below_c (l m : Int) (w : World) :
    Calls Tryz.prog 150 #[.int .i64 l, .int .i64 m] w fun e w' => e = .returned (lamB w.heap.size) ∧ (w.alloc (.cells #[.int .i64 l] 3)).alloc (.cells #[.int .i64 m] 3) = w' := by
  go_enter Tryz.func150, Tryz.ntmps150
  go_wp2
  go_ret
  exact ⟨rfl, rfl⟩
set_option maxHeartbeats 1000000 in
set_option maxRecDepth 20000 in
theorem lam_c (n l m : Int) (b : Nat) (w : World) (h1 : w.cell? ⟨b, 0, none⟩ = some (.int .i64 l)) (h2 : w.cell? ⟨b + 1, 0, none⟩ = some (.int .i64 m)) :
    Calls Tryz.prog 158 #[.int .i64 n, .pointer (some ⟨b, 0, none⟩), .pointer (some ⟨b + 1, 0, none⟩)] w fun e w' => e = .returned (.bool (decide (l ≤ n) && decide (n < m))) ∧ w = w' := by
  by_cases hl : l ≤ n
  · have d1 : decide (l ≤ n) = true := by simpa using hl
    go_enter Tryz.func158, Tryz.ntmps158
    go_wp2
    go_ret
    exact ⟨by simp [d1], rfl⟩
  · have d1 : decide (l ≤ n) = false := by simpa using hl
    go_enter Tryz.func158, Tryz.ntmps158
    go_wp2
    go_ret
    exact ⟨by simp [d1], rfl⟩

/-! ### kinds. -/
abbrev fn_ (f : FuncId) : Value := .func (.func f) #[] #[]
abbrev kR (m : Nat) : Value := .agg #[.int .i64 1, lamB (m + 1), fn_ 151, fn_ 152]
abbrev kN (m : Nat) : Value := .agg #[.int .i64 2, lamB (m + 3), fn_ 149, fn_ 154]
abbrev kB (m : Nat) : Value := .agg #[.int .i64 1, lamB (m + 5), fn_ 149, fn_ 154]
abbrev kW (m : Nat) : Value := .agg #[.int .i64 1, lamB (m + 7), fn_ 149, fn_ 154]
abbrev kS (m : Nat) : Value := .agg #[.int .i64 1, lamB (m + 9), fn_ 155, fn_ 156]
def kes (m : Nat) : Array MapEntry := #[⟨.int .i32 114, kR m, 0⟩, ⟨.int .i32 110, kN m, 1⟩, ⟨.int .i32 98, kB m, 2⟩, ⟨.int .i32 119, kW m, 3⟩, ⟨.int .i32 115, kS m, 4⟩]
abbrev Ob (v : Int) : Obj := .cells #[.int .i64 v] 3 (0, 0)
/-- The map, and what its functions have captured. -/
abbrev Kmap (m : Nat) : Thing := Alls [Blk m (.map (kes m) 5), Blk (m + 9) (Ob 0), Blk (m + 10) (Ob 256), Blk (m + 7) (Ob 1), Blk (m + 8) (Ob 21), Blk (m + 5) (Ob 0), Blk (m + 6) (Ob 256), Blk (m + 3) (Ob 0), Blk (m + 4) (Ob 65536), Blk (m + 1) (Ob 0), Blk (m + 2) (Ob 8)]
theorem blk_new_at {w0 w : World} {r : List Thing} (h : Hp w0 w r) (o : Obj) (n : Nat) (e : n = w.heap.size) : Hp w0 (w.alloc o) (Blk n o :: r) := by subst e; exact blk_new h o
theorem put_size (w : World) (r : Nat) (o : Obj) : (w.putObj r o).heap.size = w.heap.size := by simp [World.putObj]

theorem below_h {w0 w : World} {r : List Thing} (l m : Int) (n : Nat) (H : Hp w0 w r) (hs : w.heap.size = n) :
    Calls Tryz.prog 150 #[.int .i64 l, .int .i64 m] w fun e w' => e = .returned (lamB n) ∧ Hp w0 w' (Blk n (Ob l) :: Blk (n + 1) (Ob m) :: r) ∧ w'.heap.size = n + 2 := by
  subst hs
  refine (below_c l m w).mono ?_
  rintro e w' ⟨rfl, rfl⟩
  refine ⟨rfl, (blk_new_at (blk_new H (Ob l)) (Ob m) (w.heap.size + 1) (size_alloc1 _ _)).up1, ?_⟩
  rw [← size_alloc2]
theorem und_map : Tryz.prog.underlying 182 = some (.map 21 191) := Tryz.underlying182
set_option maxHeartbeats 4000000 in
set_option maxRecDepth 20000 in
theorem kinds_c {w0 w : World} {r : List Thing} (H : Hp w0 w r) :
    Calls Tryz.prog 135 #[] w fun e w' => ∃ m, e = .returned (.map (some m)) ∧ Hp w0 w' (Kmap m :: r) := by
  have hmm := @run_makeMap Tryz.prog
  have H1 := Lib.hid (blk_new H (.map #[] 0))
  have hs1 : (w.alloc (.map #[] 0)).heap.size = w.heap.size + 1 := (size_alloc1 _ _).symm
  clear H
  go_enter Tryz.func135, Tryz.ntmps135
  go_wp2_with fail
  generalize (w.alloc (.map #[] 0)) = w1 at *
  generalize w.heap.size = m at *
  refine (below_h 0 8 (m + 1) H1.out hs1).mono ?_; rintro e w2 ⟨rfl, G1, ks1⟩
  have hb1 := blk_get (G1.pull 2 rfl)
  clear hs1 H1
  have hr1 := run_insert_fresh (P := Tryz.prog) und_map Tryz.underlying21 hb1 (k := .int .i32 114) (v := kR m) rfl rfl
  go_wp2_with fail
  have H2 : Hid (Hp w0 (w2.putObj m (.map #[⟨.int .i32 114, kR m, 0⟩] 1)) (Blk m (.map #[⟨.int .i32 114, kR m, 0⟩] 1) :: _)) := Lib.hid (blk_put (G1.pull 2 rfl) _)
  have hs2 : (w2.putObj m (.map #[⟨.int .i32 114, kR m, 0⟩] 1)).heap.size = m + 3 := (put_size _ _ _).trans ks1
  clear hb1 G1 ks1 hr1
  generalize (w2.putObj m (.map #[⟨.int .i32 114, kR m, 0⟩] 1)) = w3 at *
  refine (below_h 0 65536 (m + 3) H2.out hs2).mono ?_; rintro e w4 ⟨rfl, G2, ks2⟩
  have hb2 := blk_get (G2.pull 2 rfl)
  clear hs2 H2
  have hr2 := run_insert_fresh (P := Tryz.prog) und_map Tryz.underlying21 hb2 (k := .int .i32 110) (v := kN m) rfl rfl
  go_wp2_with fail
  have H3 : Hid (Hp w0 (w4.putObj m (.map #[⟨.int .i32 114, kR m, 0⟩, ⟨.int .i32 110, kN m, 1⟩] 2)) (Blk m (.map #[⟨.int .i32 114, kR m, 0⟩, ⟨.int .i32 110, kN m, 1⟩] 2) :: _)) := Lib.hid (blk_put (G2.pull 2 rfl) _)
  have hs3 : (w4.putObj m (.map #[⟨.int .i32 114, kR m, 0⟩, ⟨.int .i32 110, kN m, 1⟩] 2)).heap.size = m + 5 := (put_size _ _ _).trans ks2
  clear hb2 G2 ks2 hr2
  generalize (w4.putObj m (.map #[⟨.int .i32 114, kR m, 0⟩, ⟨.int .i32 110, kN m, 1⟩] 2)) = w5 at *
  refine (below_h 0 256 (m + 5) H3.out hs3).mono ?_; rintro e w6 ⟨rfl, G3, ks3⟩
  have hb3 := blk_get (G3.pull 2 rfl)
  clear hs3 H3
  have hr3 := run_insert_fresh (P := Tryz.prog) und_map Tryz.underlying21 hb3 (k := .int .i32 98) (v := kB m) rfl rfl
  go_wp2_with fail
  have H4 : Hid (Hp w0 (w6.putObj m (.map #[⟨.int .i32 114, kR m, 0⟩, ⟨.int .i32 110, kN m, 1⟩, ⟨.int .i32 98, kB m, 2⟩] 3)) (Blk m (.map #[⟨.int .i32 114, kR m, 0⟩, ⟨.int .i32 110, kN m, 1⟩, ⟨.int .i32 98, kB m, 2⟩] 3) :: _)) := Lib.hid (blk_put (G3.pull 2 rfl) _)
  have hs4 : (w6.putObj m (.map #[⟨.int .i32 114, kR m, 0⟩, ⟨.int .i32 110, kN m, 1⟩, ⟨.int .i32 98, kB m, 2⟩] 3)).heap.size = m + 7 := (put_size _ _ _).trans ks3
  clear hb3 G3 ks3 hr3
  generalize (w6.putObj m (.map #[⟨.int .i32 114, kR m, 0⟩, ⟨.int .i32 110, kN m, 1⟩, ⟨.int .i32 98, kB m, 2⟩] 3)) = w7 at *
  refine (below_h 1 21 (m + 7) H4.out hs4).mono ?_; rintro e w8 ⟨rfl, G4, ks4⟩
  have hb4 := blk_get (G4.pull 2 rfl)
  clear hs4 H4
  have hr4 := run_insert_fresh (P := Tryz.prog) und_map Tryz.underlying21 hb4 (k := .int .i32 119) (v := kW m) rfl rfl
  go_wp2_with fail
  have H5 : Hid (Hp w0 (w8.putObj m (.map #[⟨.int .i32 114, kR m, 0⟩, ⟨.int .i32 110, kN m, 1⟩, ⟨.int .i32 98, kB m, 2⟩, ⟨.int .i32 119, kW m, 3⟩] 4)) (Blk m (.map #[⟨.int .i32 114, kR m, 0⟩, ⟨.int .i32 110, kN m, 1⟩, ⟨.int .i32 98, kB m, 2⟩, ⟨.int .i32 119, kW m, 3⟩] 4) :: _)) := Lib.hid (blk_put (G4.pull 2 rfl) _)
  have hs5 : (w8.putObj m (.map #[⟨.int .i32 114, kR m, 0⟩, ⟨.int .i32 110, kN m, 1⟩, ⟨.int .i32 98, kB m, 2⟩, ⟨.int .i32 119, kW m, 3⟩] 4)).heap.size = m + 9 := (put_size _ _ _).trans ks4
  clear hb4 G4 ks4 hr4
  generalize (w8.putObj m (.map #[⟨.int .i32 114, kR m, 0⟩, ⟨.int .i32 110, kN m, 1⟩, ⟨.int .i32 98, kB m, 2⟩, ⟨.int .i32 119, kW m, 3⟩] 4)) = w9 at *
  refine (below_h 0 256 (m + 9) H5.out hs5).mono ?_; rintro e w10 ⟨rfl, G5, ks5⟩
  have hb5 := blk_get (G5.pull 2 rfl)
  clear hs5 H5
  have hr5 := run_insert_fresh (P := Tryz.prog) und_map Tryz.underlying21 hb5 (k := .int .i32 115) (v := kS m) rfl rfl
  go_wp2_with fail
  have H6 : Hid (Hp w0 (w10.putObj m (.map #[⟨.int .i32 114, kR m, 0⟩, ⟨.int .i32 110, kN m, 1⟩, ⟨.int .i32 98, kB m, 2⟩, ⟨.int .i32 119, kW m, 3⟩, ⟨.int .i32 115, kS m, 4⟩] 5)) (Blk m (.map #[⟨.int .i32 114, kR m, 0⟩, ⟨.int .i32 110, kN m, 1⟩, ⟨.int .i32 98, kB m, 2⟩, ⟨.int .i32 119, kW m, 3⟩, ⟨.int .i32 115, kS m, 4⟩] 5) :: _)) := Lib.hid (blk_put (G5.pull 2 rfl) _)
  have hs6 : (w10.putObj m (.map #[⟨.int .i32 114, kR m, 0⟩, ⟨.int .i32 110, kN m, 1⟩, ⟨.int .i32 98, kB m, 2⟩, ⟨.int .i32 119, kW m, 3⟩, ⟨.int .i32 115, kS m, 4⟩] 5)).heap.size = m + 11 := (put_size _ _ _).trans ks5
  clear hb5 G5 ks5 hr5
  generalize (w10.putObj m (.map #[⟨.int .i32 114, kR m, 0⟩, ⟨.int .i32 110, kN m, 1⟩, ⟨.int .i32 98, kB m, 2⟩, ⟨.int .i32 119, kW m, 3⟩, ⟨.int .i32 115, kS m, 4⟩] 5)) = w11 at *
  go_wp2
  go_ret
  exact ⟨m, rfl, Hp.alls H6.out⟩
end Go.Proofs.YtijkkompnfpdeaaGreatDoor
set_option linter.unusedVariables false
set_option linter.unusedSimpArgs false
namespace Go.Proofs.YtijkkompnfpdeaaGreatDoor
open Go.RowKit
attribute [local go_sem] Oper.semAt_some

/-- By the Op: its word; a sign for each field. -/
def wl : Nat → List UInt8
  | 0 => [110, 111, 112]
  | 1 => [115, 101, 116]
  | 2 => [109, 111, 118, 101]
  | 3 => [97, 100, 100]
  | 4 => [115, 117, 98]
  | 5 => [109, 117, 108]
  | 6 => [97, 110, 100]
  | 7 => [111, 114]
  | 8 => [120, 111, 114]
  | 9 => [108, 101, 102, 116]
  | 10 => [114, 105, 103, 104, 116]
  | 11 => [108, 111, 97, 100]
  | 12 => [115, 116, 111, 114, 101]
  | 13 => [98, 121, 116, 101]
  | 14 => [112, 117, 116]
  | 15 => [115, 97, 109, 101]
  | 16 => [111, 116, 104, 101, 114]
  | 17 => [108, 101, 115, 115]
  | 18 => [98, 101, 108, 111, 119]
  | 19 => [103, 111]
  | 20 => [116, 101, 108, 108]
  | 21 => [97, 115, 107]
  | 22 => [101, 110, 100]
  | _ => []
def fl : Nat → List UInt8
  | 0 => []
  | 1 => [114, 110]
  | 2 => [114, 114]
  | 3 => [114, 114, 114]
  | 4 => [114, 114, 114]
  | 5 => [114, 114, 114]
  | 6 => [114, 114, 114]
  | 7 => [114, 114, 114]
  | 8 => [114, 114, 114]
  | 9 => [114, 114, 114]
  | 10 => [114, 114, 114]
  | 11 => [114, 114, 98]
  | 12 => [114, 114, 98]
  | 13 => [114, 114, 98]
  | 14 => [114, 114, 98]
  | 15 => [114, 114, 115]
  | 16 => [114, 114, 115]
  | 17 => [114, 114, 115]
  | 18 => [114, 114, 115]
  | 19 => [110]
  | 20 => [114]
  | 21 => [119]
  | 22 => []
  | _ => []
abbrev wd (op : Nat) : ByteArray := ⟨(wl op).toArray⟩
abbrev fd (op : Nat) : ByteArray := ⟨(fl op).toArray⟩
/-- A sign of a field. -/
def isK (c : UInt8) : Bool := c == 114 || c == 110 || c == 98 || c == 119 || c == 115
def kby (c : UInt8) : Nat := if c == 110 then 2 else 1
def klo (c : UInt8) : Int := if c == 119 then 1 else 0
def khi (c : UInt8) : Int := if c == 114 then 8 else if c == 110 then 65536 else if c == 119 then 21 else 256
def mayK (c : UInt8) (n : Int) : Bool := decide (klo c ≤ n) && decide (n < khi c)
def num : List Int → Int
  | [] => 0
  | [x] => x
  | x :: y :: _ => x * 256 + y
/-- The fields of some bytes. -/
def sp : List UInt8 → List Int → Option (List Int)
  | [], rest => if rest.all (· == 0) then some [] else none
  | c :: cs, rest => if mayK c (num (rest.take (kby c))) then (sp cs (rest.drop (kby c))).map (num (rest.take (kby c)) :: ·) else none
/-- How many bytes some fields take. -/
def tby (l : List UInt8) : Nat := (l.map kby).sum
def fits_ok (op : Nat) : Bool := (fl op).all isK && decide (tby (fl op) ≤ 3)
theorem fl_ok (op : Nat) : (∀ c ∈ fl op, isK c = true) ∧ tby (fl op) ≤ 3 := by
  have key : ∀ n : Nat, n ≤ 22 → fits_ok n = true := by decide
  by_cases h : op ≤ 22
  · have := key op h
    unfold fits_ok at this
    simp only [Bool.and_eq_true, List.all_eq_true, decide_eq_true_eq] at this
    exact this
  · have : fl op = [] := by
      match op, h with
      | n + 23, _ => rfl
    rw [this]
    exact ⟨by simp, by simp [tby]⟩
/-- The document's answer. -/
def rck : List UInt8 → List Int → Bool
  | [], rest => rest.all (· == 0)
  | c :: cs, rest => if c == 114 then decide (rest.headD 0 ≤ 7) && rck cs (rest.drop 1) else if c == 110 then rck cs (rest.drop 2) else if c == 119 then (decide (1 ≤ rest.headD 0) && decide (rest.headD 0 ≤ 20)) && rck cs (rest.drop 1) else rck cs (rest.drop 1)
theorem sp_rck : ∀ (cs : List UInt8) (rest : List Int), (∀ c ∈ cs, isK c = true) → tby cs ≤ rest.length → (∀ x ∈ rest, 0 ≤ x ∧ x < 256) → (sp cs rest).isSome = rck cs rest
  | [], rest, _, _, _ => by
    unfold sp rck
    by_cases h : rest.all (· == 0) = true
    · rw [if_pos h, h]; rfl
    · rw [if_neg h]; simp at h ⊢; exact h
  | c :: cs, rest, hk, hl, hb => by
    have hc := hk c (by simp)
    have hl' : kby c + tby cs ≤ rest.length := by simpa [tby] using hl
    have ih := fun n (h : kby c = n) => sp_rck cs (rest.drop n) (fun c hc => hk c (by simp [hc])) (by rw [List.length_drop]; omega) (fun x hx => hb x (List.mem_of_mem_drop hx))
    have im : ∀ n, ((sp cs (rest.drop n)).map (num (rest.take n) :: ·)).isSome = (sp cs (rest.drop n)).isSome := fun n => by cases sp cs (rest.drop n) <;> rfl
    have g1 : ∀ x r, rest = x :: r → num (rest.take 1) = x := fun x r e => by rw [e]; rfl
    unfold isK at hc
    simp only [Bool.or_eq_true, beq_iff_eq] at hc
    have one : 1 ≤ rest.length → ∃ x r, rest = x :: r := fun h => by
      cases rest with
      | nil => simp at h
      | cons x r => exact ⟨x, r, rfl⟩
    have two : 2 ≤ rest.length → ∃ x y r, rest = x :: y :: r := fun h => by
      match rest, h with
      | x :: y :: r, _ => exact ⟨x, y, r, rfl⟩
      | [x], h => simp at h
      | [], h => simp at h
    rcases hc with (((rfl | rfl) | rfl) | rfl) | rfl
    · have k1 : kby 114 = 1 := rfl
      rw [k1] at hl'
      obtain ⟨x, r, rfl⟩ := one (by omega)
      have hx := hb x (by simp)
      simp only [sp, rck, k1]
      have := ih 1 k1
      have e : mayK 114 (num (List.take 1 (x :: r))) = decide (x ≤ 7) := by rw [g1 x r rfl, Bool.eq_iff_iff]; simp [mayK, klo, khi]; omega
      rw [e]
      by_cases h : x ≤ 7
      · simp only [h, decide_true, if_true, List.headD_cons, Bool.true_and]
        rw [im 1, this]; rfl
      · simp [h]
    · have k1 : kby 110 = 2 := rfl
      rw [k1] at hl'
      obtain ⟨x, y, r, rfl⟩ := two (by omega)
      have hx := hb x (by simp)
      have hy := hb y (by simp)
      simp only [sp, rck, k1]
      have := ih 2 k1
      have e : mayK 110 (num (List.take 2 (x :: y :: r))) = true := by simp [mayK, klo, khi, num]; omega
      rw [e]
      simp only [if_true]
      rw [im 2, this]; rfl
    · have k1 : kby 98 = 1 := rfl
      rw [k1] at hl'
      obtain ⟨x, r, rfl⟩ := one (by omega)
      have hx := hb x (by simp)
      simp only [sp, rck, k1]
      have := ih 1 k1
      have e : mayK 98 (num (List.take 1 (x :: r))) = true := by rw [g1 x r rfl, Bool.eq_iff_iff]; simp [mayK, klo, khi]; omega
      rw [e]
      simp only [if_true]
      rw [im 1, this]; rfl
    · have k1 : kby 119 = 1 := rfl
      rw [k1] at hl'
      obtain ⟨x, r, rfl⟩ := one (by omega)
      have hx := hb x (by simp)
      simp only [sp, rck, k1]
      have := ih 1 k1
      have e : mayK 119 (num (List.take 1 (x :: r))) = (decide (1 ≤ x) && decide (x ≤ 20)) := by rw [g1 x r rfl, Bool.eq_iff_iff]; simp [mayK, klo, khi]; omega
      rw [e]
      by_cases h : 1 ≤ x ∧ x ≤ 20
      · simp only [h.1, h.2, decide_true, Bool.and_self, if_true, List.headD_cons, Bool.true_and]
        rw [im 1, this]; rfl
      · have : (decide (1 ≤ x) && decide (x ≤ 20)) = false := by
          rw [Bool.eq_false_iff]; intro hc; simp at hc; exact h hc
        simp [this]
    · have k1 : kby 115 = 1 := rfl
      rw [k1] at hl'
      obtain ⟨x, r, rfl⟩ := one (by omega)
      have hx := hb x (by simp)
      simp only [sp, rck, k1]
      have := ih 1 k1
      have e : mayK 115 (num (List.take 1 (x :: r))) = true := by rw [g1 x r rfl, Bool.eq_iff_iff]; simp [mayK, klo, khi]; omega
      rw [e]
      simp only [if_true]
      rw [im 1, this]; rfl
/-- Whether an instruction may be. -/
def ck (op : Nat) (a b c : Int) : Bool := decide (op ≤ 22) && rck (fl op) [a, b, c]

/-! ### forms. -/
abbrev FORMS : Array Value := #[.string ⟨#[110, 111, 112]⟩, .string ⟨#[]⟩, .string ⟨#[115, 101, 116]⟩, .string ⟨#[114, 110]⟩, .string ⟨#[109, 111, 118, 101]⟩, .string ⟨#[114, 114]⟩, .string ⟨#[97, 100, 100]⟩, .string ⟨#[114, 114, 114]⟩, .string ⟨#[115, 117, 98]⟩, .string ⟨#[114, 114, 114]⟩, .string ⟨#[109, 117, 108]⟩, .string ⟨#[114, 114, 114]⟩, .string ⟨#[97, 110, 100]⟩, .string ⟨#[114, 114, 114]⟩, .string ⟨#[111, 114]⟩, .string ⟨#[114, 114, 114]⟩, .string ⟨#[120, 111, 114]⟩, .string ⟨#[114, 114, 114]⟩, .string ⟨#[108, 101, 102, 116]⟩, .string ⟨#[114, 114, 114]⟩, .string ⟨#[114, 105, 103, 104, 116]⟩, .string ⟨#[114, 114, 114]⟩, .string ⟨#[108, 111, 97, 100]⟩, .string ⟨#[114, 114, 98]⟩, .string ⟨#[115, 116, 111, 114, 101]⟩, .string ⟨#[114, 114, 98]⟩, .string ⟨#[98, 121, 116, 101]⟩, .string ⟨#[114, 114, 98]⟩, .string ⟨#[112, 117, 116]⟩, .string ⟨#[114, 114, 98]⟩, .string ⟨#[115, 97, 109, 101]⟩, .string ⟨#[114, 114, 115]⟩, .string ⟨#[111, 116, 104, 101, 114]⟩, .string ⟨#[114, 114, 115]⟩, .string ⟨#[108, 101, 115, 115]⟩, .string ⟨#[114, 114, 115]⟩, .string ⟨#[98, 101, 108, 111, 119]⟩, .string ⟨#[114, 114, 115]⟩, .string ⟨#[103, 111]⟩, .string ⟨#[110]⟩, .string ⟨#[116, 101, 108, 108]⟩, .string ⟨#[114]⟩, .string ⟨#[97, 115, 107]⟩, .string ⟨#[119]⟩, .string ⟨#[101, 110, 100]⟩, .string ⟨#[]⟩]
theorem index_forms (op : Nat) (h : op ≤ 22) (w : World) : (Instr.index 186 (.agg FORMS) (.int .u8 op)).run Tryz.prog w = .ok (.agg #[.string (wd op), .string (fd op)]) w := by
  exact match op, h with
  | 0, _ => by kernel_rfl
  | 1, _ => by kernel_rfl
  | 2, _ => by kernel_rfl
  | 3, _ => by kernel_rfl
  | 4, _ => by kernel_rfl
  | 5, _ => by kernel_rfl
  | 6, _ => by kernel_rfl
  | 7, _ => by kernel_rfl
  | 8, _ => by kernel_rfl
  | 9, _ => by kernel_rfl
  | 10, _ => by kernel_rfl
  | 11, _ => by kernel_rfl
  | 12, _ => by kernel_rfl
  | 13, _ => by kernel_rfl
  | 14, _ => by kernel_rfl
  | 15, _ => by kernel_rfl
  | 16, _ => by kernel_rfl
  | 17, _ => by kernel_rfl
  | 18, _ => by kernel_rfl
  | 19, _ => by kernel_rfl
  | 20, _ => by kernel_rfl
  | 21, _ => by kernel_rfl
  | 22, _ => by kernel_rfl
  | n + 23, h => absurd h (by omega)
abbrev ZEROS : Array Value := #[.string ⟨#[]⟩, .string ⟨#[]⟩, .string ⟨#[]⟩, .string ⟨#[]⟩, .string ⟨#[]⟩, .string ⟨#[]⟩, .string ⟨#[]⟩, .string ⟨#[]⟩, .string ⟨#[]⟩, .string ⟨#[]⟩, .string ⟨#[]⟩, .string ⟨#[]⟩, .string ⟨#[]⟩, .string ⟨#[]⟩, .string ⟨#[]⟩, .string ⟨#[]⟩, .string ⟨#[]⟩, .string ⟨#[]⟩, .string ⟨#[]⟩, .string ⟨#[]⟩, .string ⟨#[]⟩, .string ⟨#[]⟩, .string ⟨#[]⟩, .string ⟨#[]⟩, .string ⟨#[]⟩, .string ⟨#[]⟩, .string ⟨#[]⟩, .string ⟨#[]⟩, .string ⟨#[]⟩, .string ⟨#[]⟩, .string ⟨#[]⟩, .string ⟨#[]⟩, .string ⟨#[]⟩, .string ⟨#[]⟩, .string ⟨#[]⟩, .string ⟨#[]⟩, .string ⟨#[]⟩, .string ⟨#[]⟩, .string ⟨#[]⟩, .string ⟨#[]⟩, .string ⟨#[]⟩, .string ⟨#[]⟩, .string ⟨#[]⟩, .string ⟨#[]⟩, .string ⟨#[]⟩, .string ⟨#[]⟩]
theorem forms_laid : laid ZEROS 0 FORMS.toList = FORMS := by kernel_rfl
theorem forms_there (w : World) : (w.alloc (.cells ZEROS 186)).there w.heap.size 0 FORMS.size := fun j hj => by
  have hb := blk_alloc_new w (.cells ZEROS 186)
  refine ⟨?_, free_blk hb _⟩
  rw [cell_blk hb, Array.getElem?_eq_getElem (by rw [Nat.zero_add]; exact hj)]
  rfl
theorem forms_one : FORMS.all (·.oneCell') = true := by kernel_rfl
theorem forms_info : (Tryz.prog.info? 186).map (·.size) = some FORMS.size := by kernel_rfl
set_option maxHeartbeats 4000000 in
set_option maxRecDepth 20000 in
theorem forms_c (w : World) :
    Calls Tryz.prog 136 #[] w fun e w' => e = .returned (.agg FORMS) ∧ Below w.heap.size w w' := by
  have H1 := Lib.hid (forms_there w)
  go_enter Tryz.func136, Tryz.ntmps136
  go_upto_region 1 with fail
  have hb := blk_alloc_new w (.cells ZEROS 186)
  have hB := (Below.refl w.heap.size w).alloc (Nat.le_refl _) (.cells ZEROS 186)
  have hB2 : Below w.heap.size w ((w.alloc (.cells ZEROS 186)).setCells w.heap.size 0 FORMS.toList) := ((Tch.of_below hB).setCells (b := w.heap.size) (o := 0) (fun h => by omega) _).below (Nat.le_refl _) (fun k hk h => by omega)
  have hb2 := blk_setCells FORMS.toList hb 0
  rw [forms_laid] at hb2
  have HB := Lib.hid hb2
  have HB2 := Lib.hid hB2
  clear hb hB hB2 hb2
  generalize (w.alloc (.cells ZEROS 186)) = w1 at *
  go_wp2_with (refine wpList_store_mid rfl 186 (.tmp 0) (.tmp 24) rfl w.heap.size 0 FORMS rfl rfl H1.out forms_info forms_one ?_)
  generalize w1.setCells w.heap.size 0 FORMS.toList = w2 at *
  go_wp2
  exact bodyPost_ret (results_cell_row rfl _ _ w.heap.size _ FORMS _ _ rfl HB.out Tryz.underlying186 rfl forms_info) rfl ⟨rfl, HB2.out⟩
end Go.Proofs.YtijkkompnfpdeaaGreatDoor
