/- Images: what a line tells: rows, walked. -/
import Derived.Test.YtcfoljdpffonhaaGreatDoorLg
import Derived.Test.YtcfoljdpffonhaaGreatDoorJe
import Derived.RegionTactic
import Derived.Shelf.Strings.SlTrimAscii
import Derived.Deep.AppendLies
import Derived.BigRegion
set_option linter.unusedVariables false
set_option linter.unusedSimpArgs false
namespace Go.Proofs.YtcfoljdpffonhaaGreatDoor
open Go.RowKit Go.Joins Go.Shelf
attribute [local go_sem] Oper.semAt_some

/-- A reader of lines. -/
abbrev RD (rb : Nat) (n : Int) (dv cv : Value) (z : Bool) : Thing := Blk rb (.cells #[.int .i64 n, dv, cv, .bool z] 77 (0, 0))
abbrev PB (pb rb : Nat) : Thing := Blk pb (.cells #[.pointer (some ⟨rb, 0, none⟩)] 75 (0, 0))
def szok (z : Bool) (s : List UInt8) : Bool := nB s && decide (nV s ≤ 2147483647) && !z
theorem rd_set {w0 w : World} {r : List Thing} {rb : Nat} {n m : Int} {dv cv : Value} {z y : Bool} {t : Thing} (H : Hp w0 w (RD rb n dv cv z :: t :: r)) : Hp w0 ((w.setCell ⟨rb, 0, none⟩ (.int .i64 m)).setCell ⟨rb, 3, none⟩ (.bool y)) (RD rb m dv cv y :: t :: r) ∧ Hp w0 ((w.setCell ⟨rb, 3, none⟩ (.bool y)).setCell ⟨rb, 0, none⟩ (.int .i64 m)) (RD rb m dv cv y :: t :: r) :=
  ⟨blk_set (blk_set H 0 (.int .i64 m)) 3 (.bool y), blk_set (blk_set H 3 (.bool y)) 0 (.int .i64 m)⟩
set_option maxHeartbeats 4000000 in
set_option maxRecDepth 20000 in
theorem row1_c {w0 w : World} {r : List Thing} {pb rb : Nat} {n : Int} {dv cv : Value} {z : Bool} (L : Lf w0) (s : List UInt8) (hs : s.length ≤ 281474976710656) (H : Hp w0 w (RD rb n dv cv z :: PB pb rb :: r)) :
    Calls Tryz.prog 111 #[strv s, .pointer (some ⟨pb, 0, none⟩)] w fun e w' => e = .returned (.bool (szok z s)) ∧ Hp w0 w' (RD rb (nV s) dv cv true :: PB pb rb :: r) := by
  have C := Lib.hid (atoi_c L ⟨s.toArray⟩ hs H)
  have b := nV_lt s
  have hN := fun h h0 => nB_ok (s := s) h h0
  have hN2 := fun h h0 => nB_neg (s := s) h h0
  have hN3 := fun h => nB_no (s := s) h
  have hsz : szok z s = (nB s && decide (nV s ≤ 2147483647) && !z) := rfl
  generalize szok z s = res at *
  generalize nV s = m at *
  generalize nB s = bb at *
  generalize hA : Lib.atoiAll s = A at *
  have HN := Lib.hid hN
  have HN2 := Lib.hid hN2
  have HN3 := Lib.hid hN3
  have HB := Lib.hid b
  have HS := Lib.hid hsz
  clear hN hN2 hN3 hA H b hsz
  go_enter Tryz.func111, Tryz.ntmps111
  go_wp2_with fail
  refine C.out.mono ?_; rintro e w1 ⟨⟨t, p, ⟨hno, rfl⟩ | ⟨hok, rfl⟩⟩, H1⟩
  · have hbb := HN3.out hno
    subst hbb
    obtain rfl : res = false := HS.out
    have br := blk_get H1
    have bp := blk_get H1.tail
    have p0 : w1.cell? ⟨pb, 0, none⟩ = some (.pointer (some ⟨rb, 0, none⟩)) := cell_blk bp 0
    have r0 : w1.cell? ⟨rb, 0, none⟩ = some (.int .i64 n) := cell_blk br 0
    have r3 : w1.cell? ⟨rb, 3, none⟩ = some (.bool z) := cell_blk br 3
    have e0 := free_blk br 0
    have e3 := free_blk br 3
    have G0 := blk_set H1 0 (.int .i64 m)
    have G3 := blk_set H1 3 (.bool true)
    have pa : (w1.setCell ⟨rb, 0, none⟩ (.int .i64 m)).cell? ⟨pb, 0, none⟩ = some (.pointer (some ⟨rb, 0, none⟩)) := cell_blk (blk_get G0.tail) 0
    have pc : (w1.setCell ⟨rb, 3, none⟩ (.bool true)).cell? ⟨pb, 0, none⟩ = some (.pointer (some ⟨rb, 0, none⟩)) := cell_blk (blk_get G3.tail) 0
    have H2 := Lib.hid H1
    clear G0 G3 H1 hno br bp HN HN2 HN3 HB HS C
    go_wp2
    go_region
    all_goals go_wp2
    all_goals go_ret
    all_goals first | exact ⟨rfl, (rd_set H2.out.drew).1⟩ | exact ⟨rfl, (rd_set H2.out.drew).2⟩ | exact ⟨rfl, (rd_set H2.out).1.drew⟩ | exact ⟨rfl, (rd_set H2.out).2.drew⟩
  · by_cases h0 : 0 ≤ m
    · have hbb := HN.out hok h0
      by_cases h1 : m ≤ 2147483647
      · have d1 : decide (m ≤ 2147483647) = true := by simpa using h1
        have H1' := Lib.hid (itoa_c L m (by omega) HB.out.2 H1)
        have hr : res = (decide (Lib.itoa m = s) && !z) := by rw [HS.out, hbb, d1, Bool.and_true]
        have HR := Lib.hid hr
        clear H1 hok hbb hr HN HN2 HN3 HB HS C
        by_cases hi : Lib.itoa m = s
        · rw [hi] at H1' HR
          have hr : res = !z := by rw [HR.out]; simp
          have HR2 := Lib.hid hr
          clear hr hi HR
          go_wp2_with fail
          refine H1'.out.mono ?_; rintro e w2 ⟨rfl, H1⟩
          clear H1'
          have br := blk_get H1
          have bp := blk_get H1.tail
          have p0 : w2.cell? ⟨pb, 0, none⟩ = some (.pointer (some ⟨rb, 0, none⟩)) := cell_blk bp 0
          have r0 : w2.cell? ⟨rb, 0, none⟩ = some (.int .i64 n) := cell_blk br 0
          have r3 : w2.cell? ⟨rb, 3, none⟩ = some (.bool z) := cell_blk br 3
          have e0 := free_blk br 0
          have e3 := free_blk br 3
          have G0 := blk_set H1 0 (.int .i64 m)
          have G3 := blk_set H1 3 (.bool true)
          have pa : (w2.setCell ⟨rb, 0, none⟩ (.int .i64 m)).cell? ⟨pb, 0, none⟩ = some (.pointer (some ⟨rb, 0, none⟩)) := cell_blk (blk_get G0.tail) 0
          have pc : (w2.setCell ⟨rb, 3, none⟩ (.bool true)).cell? ⟨pb, 0, none⟩ = some (.pointer (some ⟨rb, 0, none⟩)) := cell_blk (blk_get G3.tail) 0
          have H2 := Lib.hid H1
          clear G0 G3 H1 br bp
          go_wp2
          go_region
          all_goals go_wp2
          all_goals go_ret
          all_goals first | exact ⟨by rw [HR2.out]; rfl, (rd_set H2.out.drew).1⟩ | exact ⟨by rw [HR2.out]; rfl, (rd_set H2.out.drew).2⟩ | exact ⟨by rw [HR2.out]; rfl, (rd_set H2.out).1.drew⟩ | exact ⟨by rw [HR2.out]; rfl, (rd_set H2.out).2.drew⟩
        · have hq : (Lib.itoa m == s) = false := by simpa using hi
          have hr : res = false := by rw [HR.out]; simp [hi]
          subst hr
          go_wp2_with fail
          refine H1'.out.mono ?_; rintro e w2 ⟨rfl, H1⟩
          clear H1'
          have br := blk_get H1
          have bp := blk_get H1.tail
          have p0 : w2.cell? ⟨pb, 0, none⟩ = some (.pointer (some ⟨rb, 0, none⟩)) := cell_blk bp 0
          have r0 : w2.cell? ⟨rb, 0, none⟩ = some (.int .i64 n) := cell_blk br 0
          have r3 : w2.cell? ⟨rb, 3, none⟩ = some (.bool z) := cell_blk br 3
          have e0 := free_blk br 0
          have e3 := free_blk br 3
          have G0 := blk_set H1 0 (.int .i64 m)
          have G3 := blk_set H1 3 (.bool true)
          have pa : (w2.setCell ⟨rb, 0, none⟩ (.int .i64 m)).cell? ⟨pb, 0, none⟩ = some (.pointer (some ⟨rb, 0, none⟩)) := cell_blk (blk_get G0.tail) 0
          have pc : (w2.setCell ⟨rb, 3, none⟩ (.bool true)).cell? ⟨pb, 0, none⟩ = some (.pointer (some ⟨rb, 0, none⟩)) := cell_blk (blk_get G3.tail) 0
          have H2 := Lib.hid H1
          clear G0 G3 H1 br bp
          go_wp2
          go_region
          all_goals go_wp2
          all_goals go_ret
          all_goals first | exact ⟨rfl, (rd_set H2.out.drew).1⟩ | exact ⟨rfl, (rd_set H2.out.drew).2⟩ | exact ⟨rfl, (rd_set H2.out).1.drew⟩ | exact ⟨rfl, (rd_set H2.out).2.drew⟩
      · have hr : res = false := by rw [HS.out]; simp [h1]
        subst hr
        have br := blk_get H1
        have bp := blk_get H1.tail
        have p0 : w1.cell? ⟨pb, 0, none⟩ = some (.pointer (some ⟨rb, 0, none⟩)) := cell_blk bp 0
        have r0 : w1.cell? ⟨rb, 0, none⟩ = some (.int .i64 n) := cell_blk br 0
        have r3 : w1.cell? ⟨rb, 3, none⟩ = some (.bool z) := cell_blk br 3
        have e0 := free_blk br 0
        have e3 := free_blk br 3
        have G0 := blk_set H1 0 (.int .i64 m)
        have G3 := blk_set H1 3 (.bool true)
        have pa : (w1.setCell ⟨rb, 0, none⟩ (.int .i64 m)).cell? ⟨pb, 0, none⟩ = some (.pointer (some ⟨rb, 0, none⟩)) := cell_blk (blk_get G0.tail) 0
        have pc : (w1.setCell ⟨rb, 3, none⟩ (.bool true)).cell? ⟨pb, 0, none⟩ = some (.pointer (some ⟨rb, 0, none⟩)) := cell_blk (blk_get G3.tail) 0
        have H2 := Lib.hid H1
        clear G0 G3 H1 hok br bp HN HN2 HN3 HB HS C
        go_wp2
        go_region
        all_goals go_wp2
        all_goals go_ret
        all_goals first | exact ⟨rfl, (rd_set H2.out.drew).1⟩ | exact ⟨rfl, (rd_set H2.out.drew).2⟩ | exact ⟨rfl, (rd_set H2.out).1.drew⟩ | exact ⟨rfl, (rd_set H2.out).2.drew⟩
    · have hbb := HN2.out hok (by omega)
      subst hbb
      obtain rfl : res = false := HS.out
      have br := blk_get H1
      have bp := blk_get H1.tail
      have p0 : w1.cell? ⟨pb, 0, none⟩ = some (.pointer (some ⟨rb, 0, none⟩)) := cell_blk bp 0
      have r0 : w1.cell? ⟨rb, 0, none⟩ = some (.int .i64 n) := cell_blk br 0
      have r3 : w1.cell? ⟨rb, 3, none⟩ = some (.bool z) := cell_blk br 3
      have e0 := free_blk br 0
      have e3 := free_blk br 3
      have G0 := blk_set H1 0 (.int .i64 m)
      have G3 := blk_set H1 3 (.bool true)
      have pa : (w1.setCell ⟨rb, 0, none⟩ (.int .i64 m)).cell? ⟨pb, 0, none⟩ = some (.pointer (some ⟨rb, 0, none⟩)) := cell_blk (blk_get G0.tail) 0
      have pc : (w1.setCell ⟨rb, 3, none⟩ (.bool true)).cell? ⟨pb, 0, none⟩ = some (.pointer (some ⟨rb, 0, none⟩)) := cell_blk (blk_get G3.tail) 0
      have H2 := Lib.hid H1
      clear G0 G3 H1 hok br bp HN HN2 HN3 HB HS C
      go_wp2
      go_region
      all_goals go_wp2
      all_goals go_ret
      all_goals first | exact ⟨rfl, (rd_set H2.out.drew).1⟩ | exact ⟨rfl, (rd_set H2.out.drew).2⟩ | exact ⟨rfl, (rd_set H2.out).1.drew⟩ | exact ⟨rfl, (rd_set H2.out).2.drew⟩

/-! ### The rows. -/
abbrev rowF (f : FuncId) (pb : Nat) : Value := .func (.func f) #[] #[.pointer (some ⟨pb, 0, none⟩)]
abbrev resM (pb : Nat) : Array MapEntry := #[⟨.string ⟨#[115, 105, 122, 101]⟩, rowF 111 pb, 0⟩, ⟨.string ⟨#[100, 97, 116, 97]⟩, rowF 114 pb, 1⟩]
theorem und_rows : Tryz.prog.underlying 141 = some (.map 9 52) := by kernel_rfl
theorem und_str : Tryz.prog.underlying 9 = some .string := by kernel_rfl
theorem zero_fn (w : World) : (zeroValue 52).run Tryz.prog w = .ok .nilFunc w := by kernel_rfl
theorem run_lookup_none {P : Program} {w : World} {t kt et : TypeId} {d : TypeDesc} {r : Nat} {es : Array MapEntry} {clock : Nat} {k v : Value} (ht : P.underlying t = some (.map kt et)) (hd : P.underlying kt = some d) (hb : w.heap[r]? = some (.map es clock))
    (hk : MapKept.IsKey d k) (hf : Instr.findNow d k es.toList 0 = some none) (hz : (zeroValue et).run P w = .ok v w) : (Instr.lookup t (.map (some r)) k false).run P w = .ok v w := by
  have hg : (getObj r).run P w = .ok (.map es clock) w := by simp [getObj, Sem.run, hb]
  simp only [Instr.lookup, Sem.run_bind, run_underlying ht, Result.andThen, hg, MapKept.run_checkKey hd hk, MapKept.run_findKey hd hf, Sem.run_pure, hz]
  simp
set_option maxHeartbeats 4000000 in
set_option maxRecDepth 20000 in
theorem rows_c {w0 w : World} {r : List Thing} {rb : Nat} (H : Hp w0 w r) :
    Calls Tryz.prog 98 #[.pointer (some ⟨rb, 0, none⟩)] w fun e w' => ∃ m pb, e = .returned (.map (some m)) ∧ Hp w0 w' (Blk m (.map (resM pb) 2) :: PB pb rb :: r) := by
  have hmm := @run_makeMap Tryz.prog
  have H1 := blk_new_at (blk_new H (.cells #[.pointer (some ⟨rb, 0, none⟩)] 75)) (.map #[] 0) (w.heap.size + 1) (size_alloc1 _ _)
  clear H
  have hr1 := run_insert_fresh (P := Tryz.prog) und_rows und_str (blk_get H1) (k := .string ⟨#[115, 105, 122, 101]⟩) (v := rowF 111 w.heap.size) trivial rfl
  have G2 := blk_put H1 (.map #[⟨.string ⟨#[115, 105, 122, 101]⟩, rowF 111 w.heap.size, 0⟩] 1)
  have hr2 := run_insert_fresh (P := Tryz.prog) und_rows und_str (blk_get G2) (k := .string ⟨#[100, 97, 116, 97]⟩) (v := rowF 114 w.heap.size) trivial (by rfl)
  have G3 := blk_put G2 (.map (resM w.heap.size) 2)
  clear G2 H1
  go_enter Tryz.func98, Tryz.ntmps98
  go_wp2
  go_ret
  refine ⟨w.heap.size + 1, w.heap.size, by first | rfl | (simp; done), ?_⟩
  exact G3
theorem look_size {w0 w : World} {r : List Thing} {m pb : Nat} (H : Hp w0 w (Blk m (.map (resM pb) 2) :: r)) : (Instr.lookup 141 (.map (some m)) (strv [115, 105, 122, 101]) false).run Tryz.prog w = .ok (rowF 111 pb) w :=
  run_lookup_there und_rows und_str (blk_get H) trivial rfl (i := 0)
theorem look_data {w0 w : World} {r : List Thing} {m pb : Nat} (H : Hp w0 w (Blk m (.map (resM pb) 2) :: r)) : (Instr.lookup 141 (.map (some m)) (strv [100, 97, 116, 97]) false).run Tryz.prog w = .ok (rowF 114 pb) w :=
  run_lookup_there und_rows und_str (blk_get H) trivial rfl (i := 1)
theorem look_else {w0 w : World} {r : List Thing} {m pb : Nat} {s : List UInt8} (H : Hp w0 w (Blk m (.map (resM pb) 2) :: r)) (h1 : s ≠ [115, 105, 122, 101]) (h2 : s ≠ [100, 97, 116, 97]) : (Instr.lookup 141 (.map (some m)) (strv s) false).run Tryz.prog w = .ok .nilFunc w := by
  refine run_lookup_none und_rows und_str (blk_get H) trivial ?_ (zero_fn w)
  rcases MapKept.findNow_spec (d := .string) (k := strv s) trivial (resM pb).toList 0 (by intro x hx; simp at hx; rcases hx with rfl | rfl <;> trivial) with ⟨h, _⟩ | ⟨j, e, _, h, h3⟩
  · exact h
  · exfalso
    have hm : e ∈ (resM pb).toList := List.mem_of_getElem? h
    simp at hm
    rcases hm with rfl | rfl
    · injection h3 with h3; exact h1 ((ba_eq s _).1 h3.symm)
    · injection h3 with h3; exact h2 ((ba_eq s _).1 h3.symm)

/-! ### A row of bytes. -/
def hexd : List UInt8 := [48, 49, 50, 51, 52, 53, 54, 55, 56, 57, 97, 98, 99, 100, 101, 102]
def hx (c : UInt8) : Nat := if c < 58 then c.toNat - 48 else c.toNat - 87
def hb (a b : UInt8) : UInt8 := UInt8.ofNat (hx a * 16 + hx b)
def hbs : List UInt8 → List UInt8
  | a :: b :: r => hb a b :: hbs r
  | _ => []
def dok (s : List UInt8) : Bool := !s.isEmpty && s.length % 2 == 0 && s.all (hexd.contains ·)
theorem hx_index : ∀ c ∈ hexd, Lib.indexByte hexd c = (hx c : Int) ∧ hx c < 16 := by decide
theorem drop_all {α : Type} {p : α → Bool} : ∀ (l : List α), (∀ x ∈ l.dropWhile p, p x = true) → ∀ x ∈ l, p x = true
  | [], _, x, h => by simp at h
  | a :: l, h, x, hx => by
    by_cases ha : p a = true
    · rw [List.dropWhile_cons_of_pos ha] at h
      rcases List.mem_cons.1 hx with rfl | h'
      · exact ha
      · exact drop_all l h x h'
    · rw [List.dropWhile_cons_of_neg ha] at h
      exact h x hx
theorem dw_nil {α : Type} {p : α → Bool} : ∀ (l : List α), l.dropWhile p = [] ↔ ∀ x ∈ l, p x = true
  | [] => by simp
  | a :: l => by
    by_cases ha : p a = true
    · rw [List.dropWhile_cons_of_pos ha, dw_nil l]; simp [ha]
    · rw [List.dropWhile_cons_of_neg ha]; simp [ha]
theorem trimS_nil (l cs : List UInt8) : Lib.trimS l cs = [] ↔ l.all (cs.contains ·) = true := by
  rw [List.all_eq_true]
  unfold Lib.trimS Lib.trimLeftS Lib.trimRightS
  rw [dw_nil]
  constructor
  · intro h x hx
    exact drop_all l.reverse (fun y hy => h y (List.mem_reverse.2 hy)) x (List.mem_reverse.2 hx)
  · intro h x hx
    exact h x (List.mem_reverse.1 ((List.dropWhile_sublist (cs.contains ·) (l := l.reverse)).subset (List.mem_reverse.1 hx)))
theorem hbs_two (p : List UInt8) (a b : UInt8) : ∀ (k : Nat), p.length = 2 * k → hbs (p ++ [a, b]) = hbs p ++ [hb a b] := by
  intro k
  induction k generalizing p with
  | zero => intro h; obtain rfl := List.eq_nil_of_length_eq_zero (by omega : p.length = 0); rfl
  | succ k ih =>
    intro h
    match p, h with
    | x :: y :: p, h =>
      have := ih p (by simp at h; omega)
      simp only [List.cons_append, hbs, this]
    | [x], h => simp at h; omega
    | [], h => simp at h
theorem hbs_le : ∀ l : List UInt8, (hbs l).length ≤ l.length
  | a :: b :: r => by have := hbs_le r; simp only [hbs, List.length_cons]; omega
  | [_] => by simp [hbs]
  | [] => by simp [hbs]
end Go.Proofs.YtcfoljdpffonhaaGreatDoor
