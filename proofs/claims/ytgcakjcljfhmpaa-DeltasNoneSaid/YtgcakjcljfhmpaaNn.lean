/- Contracts of the package deltas at a list that is not there, or that no call made. -/
import Derived.Test.YtgcakjcljfhmpaaRows
import Derived.WalkKit
import Derived.WalkSpells
import Derived.WalkLawsBesides
import Derived.Laws.EntriesVeiled
import Derived.BigQuiet
import Derived.Lib.Hide
import Derived.Deep.QuietTactic
namespace Go.Proofs.Ytgcakjcljfhmpaa
open Go.RowKit

/-- A pointer to a list that is not there: nil, or of a zero struct. -/
def Lacks (w : World) (v : Option Addr) : Prop := v = none ∨ ∃ b, v = some ⟨b, 0, none⟩ ∧ b < w.heap.size ∧ w.cell? ⟨b, 1, none⟩ = some (.bool false)

theorem Lacks.alloc {w : World} {v : Option Addr} (h : Lacks w v) (o : Obj) : Lacks (w.alloc o) v := by
  rcases h with h | ⟨b, h1, h2, h3⟩
  · exact Or.inl h
  · refine Or.inr ⟨b, h1, by simp; omega, ?_⟩
    rw [← h3]
    exact World.cell?_of_block (Below.heap_alloc w o b h2)

set_option maxHeartbeats 400000 in
theorem there_no (v : Option Addr) (w : World) (h : Lacks w v) :
    Calls Try.prog 18 #[.pointer v] w fun e w' => e = .returned (.bool false) ∧ w = w' := by
  rcases h with rfl | ⟨b, rfl, h2, h3⟩
  · go_enter Try.func18, Try.ntmps18
    go_wp2
    go_ret
    exact ⟨rfl, rfl⟩
  · go_enter Try.func18, Try.ntmps18
    go_wp2
    go_ret
    exact ⟨rfl, rfl⟩

set_option maxHeartbeats 400000 in
theorem left_no (v : Option Addr) (n : Int) (w : World) (h : Lacks w v) :
    Calls Try.prog 9 #[.pointer v, .int .i64 n] w fun e w' => e = .returned (.tuple #[.int .i64 0, .int .i64 2]) ∧ Below w.heap.size w w' := by
  have H := Lib.hid h
  clear h
  go_enter Try.func9, Try.ntmps9
  go_wp2_with fail
  refine (there_no _ _ ((((H.out.alloc _).alloc _).alloc _).alloc _)).mono ?_; rintro e w' ⟨rfl, rfl⟩
  go_wp2
  refine bodyPost_ret (v := .tuple #[.int .i64 0, .int .i64 2]) (by simp [results, Try.results9, go_sem]) rfl ⟨rfl, ?_⟩
  repeat (first | exact Below.refl _ _ | refine Below.setCell ?_ (by simp; try omega) _ | refine Below.alloc ?_ (by simp; try omega) _)
set_option maxHeartbeats 400000 in
theorem put_no (v : Option Addr) (n t : Int) (w : World) (h : Lacks w v) :
    Calls Try.prog 10 #[.pointer v, .int .i64 n, .int .i64 t] w fun e w' => e = .returned (.int .i64 2) ∧ Below w.heap.size w w' := by
  have H := Lib.hid h
  clear h
  go_enter Try.func10, Try.ntmps10
  go_wp2_with fail
  refine (there_no _ _ (H.out.alloc _)).mono ?_; rintro e w' ⟨rfl, rfl⟩
  go_wp2
  go_ret
  exact ⟨rfl, (Below.refl _ _).alloc (Nat.le_refl _) _⟩
set_option maxHeartbeats 400000 in
theorem remove_no (v : Option Addr) (n : Int) (w : World) (h : Lacks w v) :
    Calls Try.prog 11 #[.pointer v, .int .i64 n] w fun e w' => e = .returned (.int .i64 2) ∧ w = w' := by
  have H := Lib.hid h
  clear h
  go_enter Try.func11, Try.ntmps11
  go_wp2_with fail
  refine (there_no _ _ H.out).mono ?_; rintro e w' ⟨rfl, rfl⟩
  go_wp2
  go_ret
  exact ⟨rfl, rfl⟩
set_option maxHeartbeats 400000 in
theorem tick_no (v : Option Addr) (w : World) (h : Lacks w v) :
    Calls Try.prog 12 #[.pointer v] w fun e w' => e = .returned (.slice none 0 0) ∧ w = w' := by
  have H := Lib.hid h
  clear h
  go_enter Try.func12, Try.ntmps12
  go_wp2_with fail
  refine (there_no _ _ H.out).mono ?_; rintro e w' ⟨rfl, rfl⟩
  go_wp2
  go_ret
  exact ⟨rfl, rfl⟩
set_option maxHeartbeats 400000 in
theorem all_no (v : Option Addr) (w : World) (h : Lacks w v) :
    Calls Try.prog 13 #[.pointer v] w fun e w' => e = .returned (.slice none 0 0) ∧ w = w' := by
  have H := Lib.hid h
  clear h
  go_enter Try.func13, Try.ntmps13
  go_wp2_with fail
  refine (there_no _ _ H.out).mono ?_; rintro e w' ⟨rfl, rfl⟩
  go_wp2
  go_ret
  exact ⟨rfl, rfl⟩

theorem Lacks.below {w w1 : World} {v : Option Addr} (h : Lacks w v) (hb : Below w.heap.size w w1) : Lacks w1 v := by
  rcases h with h | ⟨b, h1, h2, h3⟩
  · exact Or.inl h
  · exact Or.inr ⟨b, h1, by have := hb.size; omega, by rw [← h3]; exact hb.cell h2⟩
theorem two {B : Nat} {a b c : World} (h : Below B a b) (k : Below b.heap.size b c) (hB : B ≤ b.heap.size) : Below B a c := h.trans (k.mono hB)

/-- The two lists that are asked. -/
def ask2 (B k : Nat) : Option Addr := if k = 0 then none else some ⟨B, 0, none⟩

theorem ask2_lacks (w W : World) (k : Nat) (hk : k < 2) (hb : Below (w.heap.size + 2) ((w.alloc (.cells #[.slice none 0 0, .bool false] 25)).alloc (.cells #[.pointer none, .pointer (some ⟨w.heap.size, 0, none⟩)] 22)) W) :
    Lacks W (ask2 w.heap.size k) ∧ W.cell? ⟨w.heap.size + 1, k, none⟩ = some (.pointer (ask2 w.heap.size k)) := by
  have e1 := hb.cell (p := ⟨w.heap.size, 1, none⟩) (by simp)
  have e2 := hb.cell (p := ⟨w.heap.size + 1, k, none⟩) (by simp)
  have hs := hb.size
  simp at hs
  constructor
  · by_cases h : k = 0
    · exact Or.inl (by simp [ask2, h])
    · refine Or.inr ⟨w.heap.size, by simp [ask2, h], by omega, ?_⟩
      rw [e1]; go_simp
  · rw [e2]
    obtain rfl | rfl : k = 0 ∨ k = 1 := by omega
    · go_simp; rfl
    · go_simp; rfl

set_option maxRecDepth 100000 in
set_option maxHeartbeats 1000000 in
theorem deltasNone_c (n t : Int) (w : World) :
    Calls Try.prog 3 #[.int .i64 n, .int .i64 t] w fun e w' => e = .returned (.bool true) ∧ Below w.heap.size w w' := by
  go_enter Try.func3, Try.ntmps3
  go_wp2
  go_loopw [6] (fun v6 wr => ∃ k : Nat, k ≤ 2 ∧ v6 = .int .i64 k ∧ Below (w.heap.size + 2) ((w.alloc (.cells #[.slice none 0 0, .bool false] 25)).alloc (.cells #[.pointer none, .pointer (some ⟨w.heap.size, 0, none⟩)] 22)) wr) (fun v6 _ => 2 - (intOf v6).toNat)
  case atStart => exact ⟨0, by omega, rfl, Below.refl _ _⟩
  case round =>
    obtain ⟨k, hk, rfl, hb⟩ := hrel
    by_cases h : k < 2
    · obtain ⟨hl, hc⟩ := ask2_lacks w wr k h hb
      have HL := Lib.hid hl
      have HB := Lib.hid hb
      clear hl hb
      go_wp2_with fail
      refine (left_no _ _ _ HL.out).mono ?_; rintro e w1 ⟨rfl, hb1⟩
      obtain ⟨hl1, hc1⟩ := ask2_lacks w w1 k h (two HB.out hb1 (by have := HB.out.size; simp at this; omega))
      have HL1 := Lib.hid hl1
      have HB1 := Lib.hid (two HB.out hb1 (by have := HB.out.size; simp at this; omega))
      clear hl1 hc HL HB hb1
      go_wp2_with fail
      refine (put_no _ _ _ _ HL1.out).mono ?_; rintro e w2 ⟨rfl, hb2⟩
      obtain ⟨hl2, hc2⟩ := ask2_lacks w w2 k h (two HB1.out hb2 (by have := HB1.out.size; simp at this; omega))
      have HL2 := Lib.hid hl2
      have HB2 := Lib.hid (two HB1.out hb2 (by have := HB1.out.size; simp at this; omega))
      clear hl2 hc1 HL1 HB1 hb2
      go_wp2_with fail
      refine (remove_no _ _ _ HL2.out).mono ?_; rintro e w' ⟨rfl, rfl⟩
      go_wp2_with fail
      refine (tick_no _ _ HL2.out).mono ?_; rintro e w' ⟨rfl, rfl⟩
      go_wp2_with fail
      refine (all_no _ _ HL2.out).mono ?_; rintro e w' ⟨rfl, rfl⟩
      go_wp2
      go_roundw
      case rel => exact ⟨k + 1, by omega, by go_num, HB2.out⟩
      case measure => simp [intOf]; omega
    · have HB := Lib.hid hb
      clear hb
      go_wp2
      go_ret
      exact ⟨rfl, (((Below.refl _ _).alloc (Nat.le_refl _) _).alloc (by simp) _).trans (HB.out.mono (by omega))⟩
end Go.Proofs.Ytgcakjcljfhmpaa
