/- Contracts of the package deltas, of a list that some call made: New, there, find, All, Remove, Tick. -/
import Derived.Test.YtllfkgdmneabiaaDoorDel
set_option linter.unusedVariables false
set_option linter.unusedSimpArgs false
namespace Go.Proofs.YtllfkgdmneabiaaDoor
open Go.RowKit

/-- The sum of the ticks. -/
def tot : List (Int × Int) → Int
  | [] => 0
  | x :: r => x.2 + tot r
/-- Ticks are from 0 on, and together as many as one may sleep at most. -/
def Good (xs : List (Int × Int)) : Prop := (∀ x ∈ xs, 0 ≤ x.2) ∧ tot xs ≤ 1073741824
theorem tot_nn : ∀ {xs : List (Int × Int)}, (∀ x ∈ xs, 0 ≤ x.2) → 0 ≤ tot xs
  | [], _ => Int.le_refl _
  | x :: r, h => by
    have h1 := h x (by simp)
    have h2 := tot_nn (xs := r) fun y hy => h y (by simp [hy])
    unfold tot; omega
theorem tot_append : ∀ a b : List (Int × Int), tot (a ++ b) = tot a + tot b
  | [], b => by simp [tot]
  | x :: r, b => by simp only [List.cons_append, tot, tot_append r b]; omega

/-- A list of deltas in memory: at block b, its pairs in block go. -/
structure DL (w : World) (b : Nat) (go : Option Nat) (xs : List (Int × Int)) : Prop where
  ex : ∃ v, w.heap[b]? = some (.cells #[v, .bool true] 67 (0, 0)) ∧ PS w v go xs
  apart : ∀ g, go = some g → g ≠ b

theorem DL.lt {w : World} {b : Nat} {go : Option Nat} {xs : List (Int × Int)} (h : DL w b go xs) : b < w.heap.size := by obtain ⟨v, h1, _⟩ := h.ex; exact blk_lt h1
theorem DL.glt {w : World} {b g : Nat} {xs : List (Int × Int)} (h : DL w b (some g) xs) : g < w.heap.size := by obtain ⟨v, _, h2⟩ := h.ex; exact h2.lt
theorem DL.keeps {S : Nat → Prop} {w w' : World} {b : Nat} {go : Option Nat} {xs : List (Int × Int)} (h : DL w b go xs) (ht : Tch S w w') (hb : ¬ S b) (hg : ∀ g, go = some g → ¬ S g) : DL w' b go xs := by
  obtain ⟨v, h1, h2⟩ := h.ex
  exact ⟨⟨v, ht.keeps h1 hb, h2.keeps ht hg⟩, h.apart⟩

set_option maxHeartbeats 400000 in
theorem new_c (w : World) :
    Calls Tryd.prog 18 #[] w fun e w' => e = .returned (.pointer (some ⟨w.heap.size, 0, none⟩)) ∧ DL w' w.heap.size none [] ∧ Tch Nil w w' := by
  go_enter Tryd.func18, Tryd.ntmps18
  go_wp2
  go_ret
  exact ⟨rfl, ⟨⟨_, blk_alloc_new w _, rfl, rfl⟩, fun _ h => by cases h⟩, (Tch.refl _ _).alloc _⟩

set_option maxHeartbeats 400000 in
theorem there_c (w : World) (b : Nat) (go : Option Nat) (xs : List (Int × Int)) (h : DL w b go xs) :
    Calls Tryd.prog 51 #[.pointer (some ⟨b, 0, none⟩)] w fun e w' => e = .returned (.bool true) ∧ w = w' := by
  obtain ⟨v, h1, _⟩ := h.ex
  have hc : w.cell? ⟨b, 1, none⟩ = some (.bool true) := by rw [cell_blk h1]; rfl
  clear h1 h
  go_enter Tryd.func51, Tryd.ntmps51
  go_wp2
  go_ret
  exact ⟨rfl, rfl⟩

/-- The place of somebody. -/
def fi (xs : List (Int × Int)) (who : Int) : Int := match xs.findIdx? (fun x => x.1 == who) with
  | some i => (i : Int)
  | none => -1

theorem PS.cells {w : World} {v : Value} {go : Option Nat} {xs : List (Int × Int)} (h : PS w v go xs) (k : Nat) (hk : k < xs.length) :
    ∃ g off cap, go = some g ∧ v = .slice (some ⟨g, off, none⟩) xs.length cap ∧ w.cell? ⟨g, off + k * 2, none⟩ = some (.int .i64 xs[k].1) ∧ w.cell? ⟨g, off + k * 2 + 1, none⟩ = some (.int .i64 xs[k].2) := by
  cases go with
  | none => obtain ⟨_, rfl⟩ := h; simp at hk
  | some g =>
    obtain ⟨off, cap, cur, rfl, _, _, hh, _, _, hcs⟩ := h
    exact ⟨g, off, cap, rfl, rfl, by rw [cell_blk hh]; exact hcs _ _ (pc_get0 xs k hk), by rw [cell_blk hh, Nat.add_assoc]; exact hcs _ _ (pc_get1 xs k hk)⟩

set_option maxHeartbeats 400000 in
theorem is_c (x : Int × Int) (who : Int) (Bw : Nat) (w : World) (hw : w.cell? ⟨Bw, 0, none⟩ = some (.int .i64 who)) (hl : Bw < w.heap.size) :
    Calls Tryd.prog 73 #[.agg #[.int .i64 x.1, .int .i64 x.2], .pointer (some ⟨Bw, 0, none⟩)] w fun e w' => e = .returned (.bool (x.1 == who)) ∧ Tch Nil w w' := by
  go_enter Tryd.func73, Tryd.ntmps73
  go_wp2
  go_ret
  exact ⟨rfl, (Tch.refl _ _).alloc _⟩


theorem fi_none {xs : List (Int × Int)} {who : Int} (h : ∀ k (hk : k < xs.length), xs[k].1 ≠ who) : fi xs who = -1 := by
  unfold fi
  rw [List.findIdx?_eq_none_iff.2 (fun x hx => by
    obtain ⟨k, hk, rfl⟩ := List.getElem_of_mem hx
    simpa using h k hk)]
theorem fi_some {xs : List (Int × Int)} {who : Int} {i : Nat} (hi : i < xs.length) (h1 : xs[i].1 = who) (h : ∀ k (hk : k < i), (xs[k]'(by omega)).1 ≠ who) : fi xs who = i := by
  unfold fi
  rw [List.findIdx?_eq_some_iff_getElem.2 ⟨hi, by simpa using h1, fun j hj => by simpa using h j hj⟩]

set_option maxHeartbeats 400000 in
theorem index_c (w : World) (v : Value) (go : Option Nat) (xs : List (Int × Int)) (who : Int) (Bw : Nat) (hP : PS w v go xs) (hw : w.cell? ⟨Bw, 0, none⟩ = some (.int .i64 who)) (hl : Bw < w.heap.size) (hlen : xs.length < 100000) :
    Calls Tryd.prog 72 #[v, .func (.func 73) #[] #[.pointer (some ⟨Bw, 0, none⟩)]] w fun e w' => e = .returned (.int .i64 (fi xs who)) ∧ Tch Nil w w' := by
  cases go with
  | none =>
    obtain ⟨rfl, rfl⟩ := hP
    clear hw
    go_enter Tryd.func72, Tryd.ntmps72
    go_wp2
    go_loopw [8] (fun v8 wr => v8 = .int .i64 0 ∧ Tch Nil w wr) (fun _ _ => 0)
    case atStart => exact ⟨rfl, Tch.refl _ _⟩
    case round =>
      obtain ⟨rfl, ht⟩ := hrel
      go_wp2
      go_ret
      exact ⟨rfl, ht⟩
  | some g =>
    have HP := Lib.hid hP
    have HW := Lib.hid hw
    obtain ⟨off, cap, cur, rfl, _, _, hh, _⟩ := hP
    have hgl := blk_lt hh
    clear hh hw
    go_enter Tryd.func72, Tryd.ntmps72
    go_wp2
    go_loopw [8] (fun v8 wr => ∃ k : Nat, k ≤ xs.length ∧ v8 = .int .i64 k ∧ Tch Nil w wr ∧ Hid (∀ j (hj : j < xs.length), j < k → xs[j].1 ≠ who)) (fun v8 _ => xs.length - (intOf v8).toNat)
    case atStart => exact ⟨0, by omega, rfl, Tch.refl _ _, fun j hj h => by omega⟩
    case round =>
      obtain ⟨k, hk, rfl, ht, HN⟩ := hrel
      have HT := Lib.hid ht
      have hsz := ht.size
      clear ht
      by_cases h : k < xs.length
      · obtain ⟨g', off', cap', e1, e2, c0, c1⟩ := (HP.out.keeps HT.out (fun _ _ => id)).cells k h
        cases e1
        obtain ⟨rfl, rfl⟩ : off = off' ∧ cap = cap' := by simpa using e2
        clear e2
        have hwr : wr.cell? ⟨Bw, 0, none⟩ = some (.int .i64 who) := by rw [HT.out.cell (p := ⟨Bw, 0, none⟩) hl id]; exact HW.out
        have HWR := Lib.hid hwr
        clear hwr
        cases hb : xs[k].1 == who
        · go_wp2_with (refine (is_c _ who _ _ HWR.out (by omega)).mono ?_; rintro e w2 ⟨rfl, ht2⟩)
          go_roundw
          case rel =>
            refine ⟨k + 1, by omega, by go_num, HT.out.trans ht2 (fun _ _ => id), fun j hj hjk => ?_⟩
            by_cases e : j = k
            · subst e; simpa using hb
            · exact HN.out j hj (by omega)
          case measure => simp [intOf]; omega
        · have hf := fi_some h (by simpa using hb) (fun j hj => HN.out j (by omega) hj)
          have HF := Lib.hid hf
          clear hf
          go_wp2_with (refine (is_c _ who _ _ HWR.out (by omega)).mono ?_; rintro e w2 ⟨rfl, ht2⟩)
          go_ret
          exact ⟨by rw [HF.out]; rfl, HT.out.trans ht2 (fun _ _ => id)⟩
      · obtain rfl : k = xs.length := by omega
        have hf := fi_none (who := who) (xs := xs) (fun j hj => HN.out j hj hj)
        have HF := Lib.hid hf
        clear hf
        go_wp2
        go_ret
        exact ⟨by rw [HF.out]; rfl, HT.out⟩

set_option maxHeartbeats 400000 in
theorem find_c (w : World) (b : Nat) (go : Option Nat) (xs : List (Int × Int)) (who : Int) (h : DL w b go xs) (hlen : xs.length < 100000) :
    Calls Tryd.prog 52 #[.pointer (some ⟨b, 0, none⟩), .int .i64 who] w fun e w' => e = .returned (.int .i64 (fi xs who)) ∧ Tch Nil w w' := by
  obtain ⟨v, h1, h2⟩ := h.ex
  have hc : w.cell? ⟨b, 0, none⟩ = some v := by rw [cell_blk h1]; rfl
  have hbl := blk_lt h1
  have H2 := Lib.hid h2
  have hsl : ∃ a l c, v = .slice a l c := by
    cases go with
    | none => exact ⟨_, _, _, h2.1⟩
    | some g => obtain ⟨off, cap, _, rfl, _⟩ := h2; exact ⟨_, _, _, rfl⟩
  obtain ⟨a, l, c, rfl⟩ := hsl
  clear h1 h h2
  go_enter Tryd.func52, Tryd.ntmps52
  go_wp2_with fail
  refine (index_c _ _ go xs who _ (H2.out.keeps ((Tch.refl Nil _).alloc _) (fun _ _ => id)) ?_ (by simp) hlen).mono ?_
  · exact cell_blk (blk_alloc_new w _) 0
  rintro e w2 ⟨rfl, ht⟩
  go_wp2
  go_ret
  exact ⟨rfl, ((Tch.refl _ _).alloc _).trans ht (fun _ _ => id)⟩

end Go.Proofs.YtllfkgdmneabiaaDoor
