/- The iterator over who sleeps (a range over a function), and List.Left, which loops over it. -/
import Derived.Test.YtllfkgdmneabiaaDoorLst
import Derived.RangeFuncNested
import Derived.RangeFuncBound
import Derived.RangeFuncCalls
import Derived.RangeFuncLeaves
import Derived.RangeFuncFrom
import Derived.RangeFuncBox
import Derived.Shelf.Abstract
import Derived.Shelf.RegionOpen
import Derived.OwnWalkIn
import Derived.TacticsInMore
import Derived.LoopNIn
import Derived.LoopIn
set_option linter.unusedVariables false
set_option linter.unusedSimpArgs false
namespace Go.Proofs.YtllfkgdmneabiaaDoor
open Go.RowKit Go.Shelf
attribute [local go_sem] Oper.semAt_some

/-- How many ticks are left of the one at place k. -/
def cum (xs : List (Int × Int)) (k : Nat) : Int := tot (xs.take (k + 1))
/-- What has come when k rounds are over: the places from 0 on. -/
def upto (n k : Nat) : List (Fin n) := (List.finRange n).take k
theorem upto_succ (n k : Nat) (h : k < n) : upto n (k + 1) = upto n k ++ [⟨k, h⟩] := by
  unfold upto
  rw [List.take_succ_eq_append_getElem (by simpa using h)]
  simp
theorem upto_length (n k : Nat) (h : k ≤ n) : (upto n k).length = k := by simp [upto]; omega
theorem upto_mem {n k : Nat} {j : Fin n} : j ∈ upto n k ↔ j.1 < k := by
  unfold upto
  constructor
  · intro h
    obtain ⟨i, hi, rfl⟩ := List.getElem_of_mem h
    simp at hi ⊢; omega
  · intro h
    exact List.mem_of_getElem? (i := j.1) (by rw [List.getElem?_take, if_pos h]; simp)
/-- What the iterator hands on at a place. -/
def handed (xs : List (Int × Int)) (j : Fin xs.length) : Array Value := #[.int .i64 (j.1 : Nat), .int .i64 (cum xs j.1)]
theorem tot_take_succ (xs : List (Int × Int)) (k : Nat) (h : k < xs.length) : tot (xs.take (k + 1)) = tot (xs.take k) + xs[k].2 := by
  rw [List.take_succ_eq_append_getElem h, tot_append]; simp [tot]
theorem tot_take_bd (xs : List (Int × Int)) (hg : Good xs) (k : Nat) : 0 ≤ tot (xs.take k) ∧ tot (xs.take k) ≤ 1073741824 := by
  have h1 : 0 ≤ tot (xs.take k) := tot_nn fun x hx => hg.1 x (List.mem_of_mem_take hx)
  have h2 : 0 ≤ tot (xs.drop k) := tot_nn fun x hx => hg.1 x (List.mem_of_mem_drop hx)
  have h3 := tot_append (xs.take k) (xs.drop k)
  rw [List.take_append_drop] at h3
  have := hg.2
  omega

set_option maxHeartbeats 400000 in
theorem sleepers_c (b : Nat) (w : World) :
    Calls Tryd.prog 54 #[.pointer (some ⟨b, 0, none⟩)] w fun e w' => e = .returned (.func (.func 74) #[] #[.pointer (some ⟨w.heap.size, 0, none⟩)]) ∧ w' = w.alloc (.cells #[.pointer (some ⟨b, 0, none⟩)] 49) := by
  go_enter Tryd.func54, Tryd.ntmps54
  go_wp2
  go_ret
  exact ⟨rfl, rfl⟩

set_option maxRecDepth 100000 in
set_option maxHeartbeats 2000000 in
theorem sleepers1_in (F : Fence) (n : Nat) (hf : F.fn 74) (hro : F.round = none) (hn : 1 ≤ n) (l Bs n₀ bl : Nat) (go : Option Nat) (xs : List (Int × Int)) (hg : Good xs) (hlen : xs.length < 100000) (hgo : ∀ g, go = some g → g < n₀) (hbl : bl < n₀)
    (J Jx : List (Fin xs.length) → World → Prop)
    (hY : ∀ pre x W, J pre W → pre.length < xs.length → YieldAt F (n - 1) Tryd.prog l (handed xs x) W fun e W' =>
      (e = .returned (.bool true) ∧ J (pre ++ [x]) W' ∧ Below n₀ W W') ∨ (e = .returned (.bool false) ∧ Jx (pre ++ [x]) W'))
    (hal : ∀ pre W o, J pre W → J pre (World.alloc W o))
    (W : World) (hBs : W.cell? ⟨Bs, 0, none⟩ = some (.pointer (some ⟨bl, 0, none⟩))) (hL : DL W bl go xs) (hn₀ : n₀ ≤ W.heap.size) (h0 : J [] W) :
    CallsIn F n Tryd.prog 74 #[.func (.yield l) #[] #[], .pointer (some ⟨Bs, 0, none⟩)] W fun e W' => (∃ v, e = .returned v) ∧
      ((∃ ys, ys = upto xs.length xs.length ∧ J ys W') ∨ (∃ pre, (∃ k, k ≤ xs.length ∧ pre = upto xs.length k) ∧ Jx pre W')) := by
  obtain ⟨v, h1, h2⟩ := hL.ex
  have hc : W.cell? ⟨bl, 0, none⟩ = some v := by rw [cell_blk h1]; rfl
  have H2 := Lib.hid h2
  have hsl : ∃ a c, v = .slice a xs.length c := by
    cases go with
    | none => obtain ⟨rfl, rfl⟩ := h2; exact ⟨_, _, rfl⟩
    | some g => obtain ⟨off, cap, _, rfl, _⟩ := h2; exact ⟨_, _, rfl⟩
  obtain ⟨a, c, rfl⟩ := hsl
  clear h1 h2 hL
  refine callsIn_of_wp Tryd.func74 rfl hf ?_ hro
  simp only [Tryd.ntmps74, List.size_toArray, List.length_cons, List.length_nil, Nat.reduceAdd, Nat.reduceSub, Array.replicate_succ, Array.replicate_zero, List.push_toArray, List.append_toArray, List.nil_append, List.cons_append]
  gi_wp2
  gi_loopw [3, 11] (fun v3 v11 wr => ∃ k : Nat, k ≤ xs.length ∧ v11 = .int .i64 k ∧ v3 = .int .i64 (tot (xs.take k)) ∧ J (upto xs.length k) wr ∧ Below n₀ W wr)
    (fun _ v11 _ => xs.length - (intOf v11).toNat)
  case atStart => exact ⟨0, Nat.zero_le _, rfl, rfl, h0, Below.refl _ _⟩
  case round =>
    obtain ⟨k, hk, rfl, rfl, hJs, hnx⟩ := hrel
    by_cases hlt : k < xs.length
    · obtain ⟨g, off, cap, e1, e2, c0, c1⟩ := H2.out.cells k hlt
      obtain ⟨rfl, rfl⟩ : a = some ⟨g, off, none⟩ ∧ c = cap := by simpa using e2
      clear e2
      have hgl := hgo g e1
      have d0 : wr.cell? ⟨g, off + k * 2, none⟩ = some (.int .i64 xs[k].1) := (hnx.cell (p := ⟨g, off + k * 2, none⟩) hgl).trans c0
      have d1 : wr.cell? ⟨g, off + k * 2 + 1, none⟩ = some (.int .i64 xs[k].2) := (hnx.cell (p := ⟨g, off + k * 2 + 1, none⟩) hgl).trans c1
      clear c0 c1
      have b1 := tot_take_bd xs hg k
      have b2 := tot_take_bd xs hg (k + 1)
      rw [tot_take_succ xs k hlt] at b2
      obtain ⟨b10, b11⟩ := b1
      obtain ⟨b20, b21⟩ := b2
      obtain ⟨fn, tmps, assign, body, hy, hR⟩ := hY _ ⟨k, hlt⟩ _ (hal _ _ (.cells #[.int .i64 xs[k].1, .int .i64 xs[k].2] 70) hJs) (by rw [upto_length _ _ hk]; exact hlt)
      unfold handed cum at hy
      dsimp only at hy
      rw [tot_take_succ xs k hlt] at hy
      have HN := Lib.hid hnx
      clear hnx
      gi_wp2
      refine hR.mono ?_
      rintro e W3 (⟨rfl, hJ3, hk3⟩ | ⟨rfl, hJx3⟩)
      · gi_wp2
        go_roundw
        case rel => exact ⟨k + 1, by omega, by go_num, by rw [tot_take_succ xs k hlt], by rw [upto_succ _ _ hlt]; exact hJ3, (HN.out.trans ((Below.refl _ _).alloc (by have := HN.out.size; omega) _)).trans hk3⟩
        case measure => simp [intOf]; omega
      · gi_wp2
        refine bodyPost_ret (results_none rfl _ _ _) rfl ?_
        exact ⟨⟨_, rfl⟩, .inr ⟨_, ⟨k + 1, by omega, by rw [upto_succ _ _ hlt]⟩, hJx3⟩⟩
    · obtain rfl : k = xs.length := by omega
      gi_wp2
      go_end0
      exact ⟨⟨_, rfl⟩, .inl ⟨_, rfl, hJs⟩⟩

/-- The iterator hands on each place, and how many ticks are left; or a part of them. -/
theorem sleepers_stops (F : Fence) (n : Nat) (hf : F.fn 74) (hro : F.round = none) (hn : 1 ≤ n) (Bs n₀ bl : Nat) (go : Option Nat) (xs : List (Int × Int)) (hg : Good xs) (hlen : xs.length < 100000)
    (w : World) (hB : Bs < w.heap.size) (hn₀ : n₀ ≤ w.heap.size) (hgo : ∀ g, go = some g → g < n₀) (hbl : bl < n₀) (hc : w.cell? ⟨Bs, 0, none⟩ = some (.pointer (some ⟨bl, 0, none⟩))) (hL : DL w bl go xs) :
    SeqStopsK F n Tryd.prog 74 #[.pointer (some ⟨Bs, 0, none⟩)] (handed xs) (Below n₀) (fun ys => ys = upto xs.length xs.length) (fun pre => ∃ k, k ≤ xs.length ∧ pre = upto xs.length k) xs.length w := fun l J Jx W hW hJ _ hY h0 =>
  sleepers1_in F n hf hro hn l Bs n₀ bl go xs hg hlen hgo hbl J Jx hY (fun pre W1 o h => hJ pre W1 _ none h (World.grownBy_alloc W1 o none) (fun r e => by cases e)) W ((hW.cell (p := ⟨Bs, 0, none⟩) hB).trans hc)
    (hL.keeps (Tch.of_below hW) (by have := hL.lt; omega) (fun g e => by have := hgo g e; omega)) (by have := hW.size; omega) h0

theorem cell_new_l (W : World) (v : Value) (t : TypeId) : (W.alloc (.cells #[v] t)).cell? ⟨W.heap.size, 0, none⟩ = some v ∧ (W.alloc (.cells #[v] t)).frozen? ⟨W.heap.size, 0, none⟩ = false :=
  ⟨by rw [cell_blk (blk_alloc_new W _)]; rfl, free_blk (blk_alloc_new W _) 0⟩
theorem cell_alloc_l {W : World} {a : Addr} {v : Value} (o : Obj) (h : W.cell? a = some v) : (W.alloc o).cell? a = some v := cell_kept h (World.grownBy_alloc W o none) (fun r e => by cases e)
theorem frozen_alloc_l {W : World} {a : Addr} {v : Value} (o : Obj) (h : W.cell? a = some v) (hf : W.frozen? a = false) : (W.alloc o).frozen? a = false := (frozen_kept h (World.grownBy_alloc W o none) (fun r e => by cases e)).trans hf

/-- To walk a function whose loop over a function leaves a mark: its body, walked as ever. -/
theorem calls_of_wp_marks {P : Program} {f : FuncId} {fn : Func} {c : Code} {args : Array Value} {w : World} {R : Ending → World → Prop} (hf : P.funcs[f]? = some fn) (hb : fn.body = some c)
    (h : c.wp P (bodyPostM Fence.wide 3 P fn R) { tmps := args ++ Array.replicate (fn.ntmps - args.size) undef, defers := [] } w) : Calls P f args w R :=
  (callsIn_wide (n := 3)).1 (callsIn_of_wp_marks (F := Fence.wide) hf hb trivial (wpIn_wide.2 h) rfl)

/-- Between two rounds of Left's loop; and where it has returned. N: the heap's size when Left began. -/
structure LI (xs : List (Int × Int)) (who : Int) (b N : Nat) (pre : List (Fin xs.length)) (W : World) : Prop where
  ne : ∀ j ∈ pre, xs[j.1].1 ≠ who
  c0 : W.cell? ⟨N, 0, none⟩ = some (.pointer (some ⟨b, 0, none⟩))
  c1 : W.cell? ⟨N + 1, 0, none⟩ = some (.int .i64 who)
  c2 : W.cell? ⟨N + 1 + 1, 0, none⟩ = some (.int .i64 0)
  f2 : W.frozen? ⟨N + 1 + 1, 0, none⟩ = false
  c3 : W.cell? ⟨N + 1 + 1 + 1, 0, none⟩ = some (.int .i64 0)
  f3 : W.frozen? ⟨N + 1 + 1 + 1, 0, none⟩ = false
theorem LI.own (xs : List (Int × Int)) (who : Int) (b N : Nat) : Own (LI xs who b N) := fun s A B row hs hg hr =>
  ⟨hs.ne, cell_kept hs.c0 hg hr, cell_kept hs.c1 hg hr, cell_kept hs.c2 hg hr, (frozen_kept hs.c2 hg hr).trans hs.f2, cell_kept hs.c3 hg hr, (frozen_kept hs.c3 hg hr).trans hs.f3⟩
structure LX (xs : List (Int × Int)) (who : Int) (N : Nat) (c : Code) (pre : List (Fin xs.length)) (W : World) : Prop where
  ret : c = .ret
  at_ : ∃ pre' j, pre = pre' ++ [j] ∧ xs[j.1].1 = who ∧ (∀ j ∈ pre', xs[j.1].1 ≠ who) ∧ W.cell? ⟨N + 1 + 1, 0, none⟩ = some (.int .i64 (cum xs j.1))
  c3 : W.cell? ⟨N + 1 + 1 + 1, 0, none⟩ = some (.int .i64 0)
theorem LX.own (xs : List (Int × Int)) (who : Int) (N : Nat) (c : Code) : Own (LX xs who N c) := fun s A B row hs hg hr => by
  obtain ⟨h1, ⟨pre', j, e1, e2, e3, e4⟩, h3⟩ := hs
  exact ⟨h1, ⟨pre', j, e1, e2, e3, cell_kept e4 hg hr⟩, cell_kept h3 hg hr⟩

/-- What Left answers. -/
def lft (xs : List (Int × Int)) (who : Int) : Int × Int := match xs.findIdx? (fun x => x.1 == who) with
  | some i => (cum xs i, 0)
  | none => (0, 1)

theorem left_end (w W : World) (D : Nat) (x y : Int) (T : Array Value) (h4 : T[4]?.getD undef = .pointer (some ⟨w.heap.size + 1 + 1, 0, none⟩)) (h5 : T[5]?.getD undef = .pointer (some ⟨w.heap.size + 1 + 1 + 1, 0, none⟩)) (hD : w.heap.size ≤ D)
    (hK : W.heap[D]? = some (.deferred (some []))) (c2 : W.cell? ⟨w.heap.size + 1 + 1, 0, none⟩ = some (.int .i64 x)) (c3 : W.cell? ⟨w.heap.size + 1 + 1 + 1, 0, none⟩ = some (.int .i64 y)) (hB : Below w.heap.size w W) :
    bodyPostM Fence.wide 3 Tryd.prog Tryd.f26 (fun e w' => e = .returned (.tuple #[.int .i64 x, .int .i64 y]) ∧ Below w.heap.size w w') Exit.ret { tmps := T, defers := [{ target := Target.collected D, args := #[] }] } W := by
  refine ⟨by simp, .inl ⟨_, _, rfl, run_takeDeferred hK, ?_⟩⟩
  have k2 := cell_kept c2 (grownBy_putObj' _ D (.deferred none)) (fun r e => by cases e; exact ⟨_, hK, rfl⟩)
  have k3 := cell_kept c3 (grownBy_putObj' _ D (.deferred none)) (fun r e => by cases e; exact ⟨_, hK, rfl⟩)
  refine ⟨.tuple #[.int .i64 x, .int .i64 y], ?_, rfl, hB.trans (belowK_b (w := w) (Nat.le_refl _) W D _ _ hD hK rfl rfl)⟩
  simp [results, Tryd.f26, go_sem, h4, h5, k2, k3]

set_option maxRecDepth 100000 in
set_option maxHeartbeats 2000000 in
theorem left_c (w : World) (b : Nat) (go : Option Nat) (xs : List (Int × Int)) (who : Int) (hL : DL w b go xs) (hg : Good xs) (hlen : xs.length < 100000) :
    Calls Tryd.prog 26 #[.pointer (some ⟨b, 0, none⟩), .int .i64 who] w fun e w' => e = .returned (.tuple #[.int .i64 (lft xs who).1, .int .i64 (lft xs who).2]) ∧ Below w.heap.size w w' := by
  have H := Lib.hid hL
  have hbl := hL.lt
  obtain ⟨w4, hw4⟩ : ∃ w4, w4 = ((((w.alloc (.cells #[.pointer (some ⟨b, 0, none⟩)] 49)).alloc (.cells #[.int .i64 who] 3)).alloc (.cells #[.int .i64 0] 2)).alloc (.cells #[.int .i64 0] 40)) := ⟨_, rfl⟩
  have t4 : Tch Nil w w4 := by rw [hw4]; exact ((((Tch.refl _ _).alloc _).alloc _).alloc _).alloc _
  have H4 := Lib.hid (hL.keeps t4 id (fun _ _ => id))
  refine calls_of_wp_marks Tryd.func26 rfl ?_
  simp only [Tryd.ntmps26, List.size_toArray, List.length_cons, List.length_nil, Nat.reduceAdd, Nat.reduceSub, Array.replicate_succ, Array.replicate_zero, List.push_toArray, List.append_toArray, List.nil_append, List.cons_append]
  clear hL
  go_wp2_with fail
  rw [← hw4]
  refine (there_c _ _ _ _ H4.out).mono ?_; rintro e w' ⟨rfl, rfl⟩
  rw [hw4]
  go_wp2_with fail
  refine (sleepers_c _ _).mono ?_; rintro e w' ⟨rfl, rfl⟩
  go_wp2
  refine (wpIn_wide (n := 3)).1 ?_
  have c0 := cell_new_l w (.pointer (some ⟨b, 0, none⟩)) 49
  have c1 := cell_new_l (w.alloc (.cells #[.pointer (some ⟨b, 0, none⟩)] 49)) (.int .i64 who) 3
  have c2 := cell_new_l ((w.alloc (.cells #[.pointer (some ⟨b, 0, none⟩)] 49)).alloc (.cells #[.int .i64 who] 3)) (.int .i64 0) 2
  have c3 := cell_new_l (((w.alloc (.cells #[.pointer (some ⟨b, 0, none⟩)] 49)).alloc (.cells #[.int .i64 who] 3)).alloc (.cells #[.int .i64 0] 2)) (.int .i64 0) 40
  have c4 := cell_new_l ((((w.alloc (.cells #[.pointer (some ⟨b, 0, none⟩)] 49)).alloc (.cells #[.int .i64 who] 3)).alloc (.cells #[.int .i64 0] 2)).alloc (.cells #[.int .i64 0] 40)) (.pointer (some ⟨b, 0, none⟩)) 49
  simp only [World.size_alloc] at c1 c2 c3 c4
  have hB0 : Below w.heap.size w (((((w.alloc (.cells #[.pointer (some ⟨b, 0, none⟩)] 49)).alloc (.cells #[.int .i64 who] 3)).alloc (.cells #[.int .i64 0] 2)).alloc (.cells #[.int .i64 0] 40)).alloc (.cells #[.pointer (some ⟨b, 0, none⟩)] 49)) :=
    ((((((Below.refl _ w).alloc (Nat.le_refl _) _).alloc (by simp) _).alloc (by simp; omega) _).alloc (by simp; omega) _).alloc (by simp; omega) _)
  have H5 := Lib.hid (H4.out.keeps ((Tch.refl Nil w4).alloc (.cells #[.pointer (some ⟨b, 0, none⟩)] 49)) id (fun _ _ => id))
  rw [hw4] at H5
  have hgl : ∀ g, go = some g → g < w.heap.size := fun g e => by subst e; exact H.out.glt
  have HGL := Lib.hid hgl
  clear hgl hw4 t4 H4
  refine wpIn_rangeFunc_ownF rfl (by omega) (gf := 74) (lb := #[.pointer (some ⟨w.heap.size + 1 + 1 + 1 + 1, 0, none⟩)]) rfl trivial (enters_of Tryd.func74 (by kernel_rfl) rfl)
    (sleepers_stops Fence.wide 2 trivial rfl (by omega) (w.heap.size + 1 + 1 + 1 + 1) w.heap.size b go xs hg hlen _ (by simp) (by simp; omega) HGL.out hbl c4.1 H5.out) belowK_t (belowK_b (by simp; omega)) (Below.refl _ _) (fun _ => rfl)
    (fun pre W => LI xs who b w.heap.size pre W ∧ Below w.heap.size w W)
    (fun c pre W => LX xs who w.heap.size c pre W ∧ Below w.heap.size w W)
    (OwnFrom.and (Own.from (LI.own xs who b w.heap.size) _) (ownFrom_below (Nat.le_refl _) (by simp; omega)))
    (fun c => OwnFrom.and (Own.from (LX.own xs who w.heap.size c) _) (ownFrom_below (Nat.le_refl _) (by simp; omega)))
    ⟨⟨fun j h => by simp at h, cell_alloc_l _ (cell_alloc_l _ (cell_alloc_l _ (cell_alloc_l _ c0.1))), cell_alloc_l _ (cell_alloc_l _ (cell_alloc_l _ c1.1)), cell_alloc_l _ (cell_alloc_l _ c2.1), frozen_alloc_l _ (cell_alloc_l _ c2.1) (frozen_alloc_l _ c2.1 c2.2), cell_alloc_l _ c3.1, frozen_alloc_l _ c3.1 c3.2⟩, hB0⟩
    (fun x => { tmps := #[.pointer (some ⟨b, 0, none⟩), .int .i64 who, .pointer (some ⟨w.heap.size, 0, none⟩), .pointer (some ⟨w.heap.size + 1, 0, none⟩), .pointer (some ⟨w.heap.size + 1 + 1, 0, none⟩), .pointer (some ⟨w.heap.size + 1 + 1 + 1, 0, none⟩), .int .i64 (x.1 : Nat), .int .i64 (cum xs x.1), .pointer (some ⟨b, 0, none⟩), .bool true, .bool false, .pointer (some ⟨b, 0, none⟩), .func (.func 74) #[] #[.pointer (some ⟨w.heap.size + 1 + 1 + 1 + 1, 0, none⟩)], .int .i64 (x.1 : Nat), .int .i64 (cum xs x.1), undef, undef, undef, undef, undef, undef, undef, undef, undef, undef, undef], defers := [] }) ?assign ?body ?done ?stop
  case assign =>
    intro l x W K hK
    simp only [handed]
    gi_wp2
    exact hK
  case body =>
    rintro l pre ⟨k, hk⟩ W ⟨⟨hne, d0, d1, d2, f2, d3, f3⟩, hB⟩ hlt
    have HB := Lib.hid hB
    have HD := Lib.hid (H.out.keeps (Tch.of_below hB) (by omega) (fun g e => by have := HGL.out g e; omega))
    have HN := Lib.hid hne
    have hbW : b < W.heap.size := by have := hB.size; omega
    obtain ⟨v, q1, q2⟩ := HD.out.ex
    have e0 : W.cell? ⟨b, 0, none⟩ = some v := by rw [cell_blk q1]; rfl
    obtain ⟨g, off, cap, rfl, rfl, e1, e2⟩ := q2.cells k hk
    clear hB hne hlt q1 q2 c0 c1 c2 c3 c4 hB0 e2
    have mixed : Tryd.prog.follows .mixedOrders = true := by kernel_rfl
    dsimp only
    cases hx : xs[k].1 == who
    · gi_wp2
      gi_region_with_o (fail)
      all_goals gi_wp2
      all_goals exact ⟨(KeepsOthers.refl _).trans (KeepsOthers.drew _), (Below.refl _ _).drew, ⟨fun j hj => (List.mem_append.1 hj).elim (HN.out j) (fun h => by simp at h; subst h; simpa using hx), d0, d1, d2, f2, d3, f3⟩, HB.out.drew⟩
    · have k2 : ((W.setCell ⟨w.heap.size + 1 + 1, 0, none⟩ (.int .i64 (cum xs k))).setCell ⟨w.heap.size + 1 + 1 + 1, 0, none⟩ (.int .i64 0)).cell? ⟨w.heap.size + 1 + 1, 0, none⟩ = some (.int .i64 (cum xs k)) := by
        rw [World.cell?_setCell_other _ _ _ _ (by simp)]
        exact World.cell?_setCell_same' _ _ _ (by rw [d2]; rfl)
      have k3 : ((W.setCell ⟨w.heap.size + 1 + 1, 0, none⟩ (.int .i64 (cum xs k))).setCell ⟨w.heap.size + 1 + 1 + 1, 0, none⟩ (.int .i64 0)).cell? ⟨w.heap.size + 1 + 1 + 1, 0, none⟩ = some (.int .i64 0) :=
        World.cell?_setCell_same' _ _ _ (by rw [World.cell?_setCell_other _ _ _ _ (by simp), d3]; rfl)
      have K2 := Lib.hid k2
      have K3 := Lib.hid k3
      clear k2 k3
      gi_wp2
      gi_region_with_o (fail)
      all_goals gi_wp2
      all_goals exact ⟨((KeepsOthers.setCell _ _ _).trans (KeepsOthers.setCell _ _ _)).trans (KeepsOthers.drew _), ⟨rfl, ⟨pre, ⟨k, hk⟩, rfl, by simpa using hx, HN.out, K2.out⟩, K3.out⟩, ((HB.out.setCell (p := ⟨w.heap.size + 1 + 1, 0, none⟩) (by simp; omega) _).setCell (p := ⟨w.heap.size + 1 + 1 + 1, 0, none⟩) (by simp; omega) _).drew⟩
  case done =>
    rintro D ys W hD rfl ⟨⟨hne, d0, d1, d2, f2, d3, f3⟩, hB⟩ hK
    have hl : lft xs who = (0, 1) := by
      unfold lft
      rw [List.findIdx?_eq_none_iff.2 (fun x hx => by
        obtain ⟨k, hk, rfl⟩ := List.getElem_of_mem hx
        simpa using hne ⟨k, hk⟩ (upto_mem.2 hk))]
    have HL := Lib.hid hl
    clear hl hne c0 c1 c2 c3 c4 hB0
    have k2 : ((W.setCell ⟨w.heap.size + 1 + 1, 0, none⟩ (.int .i64 0)).setCell ⟨w.heap.size + 1 + 1 + 1, 0, none⟩ (.int .i64 1)).cell? ⟨w.heap.size + 1 + 1, 0, none⟩ = some (.int .i64 0) := by
      rw [World.cell?_setCell_other _ _ _ _ (by simp)]
      exact World.cell?_setCell_same' _ _ _ (by rw [d2]; rfl)
    have k3 : ((W.setCell ⟨w.heap.size + 1 + 1, 0, none⟩ (.int .i64 0)).setCell ⟨w.heap.size + 1 + 1 + 1, 0, none⟩ (.int .i64 1)).cell? ⟨w.heap.size + 1 + 1 + 1, 0, none⟩ = some (.int .i64 1) :=
      World.cell?_setCell_same' _ _ _ (by rw [World.cell?_setCell_other _ _ _ _ (by simp), d3]; rfl)
    have hK' := ((KeepsOthers.setCell W ⟨w.heap.size + 1 + 1, 0, none⟩ (.int .i64 0)).trans (KeepsOthers.setCell _ ⟨w.heap.size + 1 + 1 + 1, 0, none⟩ (.int .i64 1))).same D _ hK rfl
    have hB2 := (hB.setCell (p := ⟨w.heap.size + 1 + 1, 0, none⟩) (by simp; omega) (.int .i64 0)).setCell (p := ⟨w.heap.size + 1 + 1 + 1, 0, none⟩) (by simp; omega) (.int .i64 1)
    have K2 := Lib.hid k2
    have K3 := Lib.hid k3
    have HK := Lib.hid hK'
    have HB2 := Lib.hid hB2
    clear k2 k3 hK hK' hB hB2
    go_wp2
    exact left_end w _ D (lft xs who).1 (lft xs who).2 _ rfl rfl (by simp at hD; omega) HK.out (by rw [HL.out]; exact K2.out) (by rw [HL.out]; exact K3.out) HB2.out
  case stop =>
    rintro D c pre W hD ⟨k, hk, rfl⟩ ⟨⟨rfl, ⟨pre', j, e1, e2, e3, e4⟩, h3⟩, hB⟩ hK
    have hl : lft xs who = (cum xs j.1, 0) := by
      have hj : j.1 + 1 = k ∧ pre' = upto xs.length j.1 := by
        cases k with
        | zero => simp [upto] at e1
        | succ k =>
          rw [upto_succ _ _ (by omega)] at e1
          obtain ⟨h1, h2⟩ := List.append_inj' e1 rfl
          have h3 : k = j.1 := by simpa using congrArg (fun l => (l.head?.map Fin.val)) h2
          rw [← h3]
          exact ⟨rfl, h1.symm⟩
      obtain ⟨rfl, rfl⟩ := hj
      unfold lft
      rw [List.findIdx?_eq_some_iff_getElem.2 ⟨j.2, by simpa using e2, fun i hi => by simpa using e3 ⟨i, by omega⟩ (upto_mem.2 hi)⟩]
    have HL := Lib.hid hl
    clear hl e1 e3 c0 c1 c2 c3 c4 hB0
    refine wpIn_wide.2 ?_
    have K2 := Lib.hid e4
    have K3 := Lib.hid h3
    have HK := Lib.hid hK
    have HB2 := Lib.hid hB
    clear e4 h3 hK hB
    go_wp2
    exact left_end w _ D (lft xs who).1 (lft xs who).2 _ rfl rfl (by simp at hD; omega) HK.out (by rw [HL.out]; exact K2.out) (by rw [HL.out]; exact K3.out) HB2.out
end Go.Proofs.YtllfkgdmneabiaaDoor
