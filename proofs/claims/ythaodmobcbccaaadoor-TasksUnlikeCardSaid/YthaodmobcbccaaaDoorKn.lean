/- Contracts of the package tasks: what may be asked of each kind, what may wait. -/
import Derived.Test.YthaodmobcbccaaaDoorRows
import Derived.WalkKit
import Derived.WalkSpells
import Derived.ProofKit
import Derived.Lib.Hide
import Derived.BigRegion
set_option linter.unusedVariables false
set_option linter.unusedSimpArgs false
namespace Go.Proofs.YthaodmobcbccaaaDoor
open Go.RowKit
attribute [local go_sem] Oper.semAt_some

theorem cell_blk {w : World} {b : Nat} {cs : Array Value} {e : TypeId} {f : Nat × Nat} (h : w.heap[b]? = some (.cells cs e f)) (o : Nat) : w.cell? ⟨b, o, none⟩ = cs[o]? := by
  simp [World.cell?, h]
/-- Bytes lie so. -/
def Lies (w : World) (a : Option Addr) (xs : List Int) : Prop := ∀ j (h : j < xs.length), ∃ b o, a = some ⟨b, o, none⟩ ∧ w.cell? ⟨b, o + j, none⟩ = some (.int .u8 xs[j])
/-- The place of a number; below 0: it is not there. -/
def ix (xs : List Int) (v : Int) : Int := match xs.findIdx? (fun x => x == v) with
  | some i => (i : Int)
  | none => -1
theorem ix_in {xs : List Int} {v : Int} : 0 ≤ ix xs v ↔ v ∈ xs := by
  unfold ix
  cases e : xs.findIdx? (fun x => x == v) with
  | none =>
    have h := List.findIdx?_eq_none_iff.1 e
    constructor
    · intro h; simp at h
    · intro hm; have := h v hm; simp at this
  | some i =>
    obtain ⟨hi, h1, _⟩ := List.findIdx?_eq_some_iff_getElem.1 e
    constructor
    · intro _; have : xs[i] = v := by simpa using h1
      rw [← this]; exact List.getElem_mem hi
    · intro _; simp

theorem ix_step {xs : List Int} {v : Int} {k : Nat} (hk : k < xs.length) (h : ∀ j (hj : j < k), xs[j] ≠ v) (e : xs[k] = v) : ix xs v = k := by
  unfold ix
  rw [List.findIdx?_eq_some_iff_getElem.2 ⟨hk, by simpa using e, fun j hj => by simpa using h j hj⟩]
theorem ix_none {xs : List Int} {v : Int} (h : ∀ j (hj : j < xs.length), xs[j] ≠ v) : ix xs v = -1 := by
  unfold ix
  rw [List.findIdx?_eq_none_iff.2 (fun x hx => by obtain ⟨k, hk, rfl⟩ := List.getElem_of_mem hx; simpa using h k hk)]

set_option maxHeartbeats 1000000 in
theorem index_c (w : World) (a : Option Addr) (c : Nat) (xs : List Int) (v : Int) (h : Lies w a xs) (hl : xs.length < 1000) :
    Calls Tryd.prog 27 #[.slice a xs.length c, .int .u8 v] w fun e w' => e = .returned (.int .i64 (ix xs v)) ∧ w = w' := by
  have H := Lib.hid h
  clear h
  go_enter Tryd.func27, Tryd.ntmps27
  go_wp2
  go_loopw [8] (fun i wr => ∃ k : Nat, k ≤ xs.length ∧ i = .int .i64 k ∧ w = wr ∧ ∀ j (hj : j < k) (hk : j < xs.length), xs[j] ≠ v) (fun i _ => xs.length - (intOf i).toNat)
  case atStart => exact ⟨0, Nat.zero_le _, rfl, rfl, fun j hj => by omega⟩
  case round =>
    obtain ⟨k, hk, rfl, rfl, hn⟩ := hrel
    have HN := Lib.hid hn
    clear hn
    by_cases hlt : k < xs.length
    · obtain ⟨b, o, rfl, hc⟩ := H.out k hlt
      have c1 : (k : Int) < (xs.length : Int) := by omega
      have hx : ∀ x, xs[k] = x → x = xs[k] := fun x h => h.symm
      by_cases he : xs[k] = v
      · have hr := ix_step hlt (fun j hj => HN.out j hj (by omega)) he
        rw [he] at hc
        have HR := Lib.hid hr
        have c2 : (v == v) = true := by simp
        clear hr he hx
        go_wp2
        go_ret
        exact ⟨by rw [HR.out]; rfl, rfl⟩
      · have hne : (v == xs[k]) = false := by simpa using fun h => he h.symm
        have hne' : ¬ v = xs[k] := fun h => he h.symm
        go_wp2
        go_roundw
        case rel =>
          refine ⟨k + 1, by omega, by go_num, by first | rfl | trivial, fun j hj hk => ?_⟩
          by_cases hjk : j = k
          · subst hjk; exact he
          · exact HN.out j (by omega) hk
        case measure => simp [intOf]; omega
    · have c1 : ¬ (k : Int) < (xs.length : Int) := by omega
      have hr := ix_none (xs := xs) (v := v) (fun j hj => HN.out j (by omega) hj)
      have HR := Lib.hid hr
      clear hr
      go_wp2
      go_ret
      exact ⟨by rw [HR.out]; rfl, rfl⟩
set_option maxHeartbeats 400000 in
theorem contains_c (w : World) (a : Option Addr) (c : Nat) (xs : List Int) (v : Int) (h : Lies w a xs) (hl : xs.length < 1000) :
    Calls Tryd.prog 22 #[.slice a xs.length c, .int .u8 v] w fun e w' => e = .returned (.bool (decide (v ∈ xs))) ∧ w = w' := by
  go_enter Tryd.func22, Tryd.ntmps22
  go_wp2_with fail
  refine (index_c w a c xs v h hl).mono ?_; rintro e w' ⟨rfl, rfl⟩
  go_wp2
  go_ret
  refine ⟨?_, rfl⟩
  rw [show decide (v ∈ xs) = decide (0 ≤ ix xs v) by rw [decide_eq_decide]; exact ix_in.symm]
  rfl

/-- What may be asked of each kind of thing, and how many of these may wait: cells at block B. -/
def kcells (B : Nat) : Array Value := #[.slice none 0 0, .int .i64 0, .slice (some ⟨B, 0, none⟩) 2 2, .int .i64 1, .slice (some ⟨B, 2, none⟩) 2 2, .int .i64 1, .slice (some ⟨B, 4, none⟩) 4 4, .int .i64 3, .slice (some ⟨B, 8, none⟩) 3 3, .int .i64 1, .slice (some ⟨B, 11, none⟩) 2 2, .int .i64 1, .slice (some ⟨B, 13, none⟩) 2 2, .int .i64 0]
def asked : List Int := [3, 4, 5, 6, 7, 8, 9, 10, 11, 12, 13, 14, 15, 16, 17]
/-- The same as slices. -/
def ksl (B : Nat) : Nat → Value × List Int
  | 1 => (.slice (some ⟨B, 0, none⟩) 2 2, [3, 4])
  | 2 => (.slice (some ⟨B, 2, none⟩) 2 2, [5, 6])
  | 3 => (.slice (some ⟨B, 4, none⟩) 4 4, [7, 8, 9, 10])
  | 4 => (.slice (some ⟨B, 8, none⟩) 3 3, [11, 12, 13])
  | 5 => (.slice (some ⟨B, 11, none⟩) 2 2, [14, 15])
  | 6 => (.slice (some ⟨B, 13, none⟩) 2 2, [16, 17])
  | _ => (.slice none 0 0, [])
/-- The fifteen lie there. -/
def KAt (w : World) (B : Nat) : Prop := ∀ j (h : j < 15), w.cell? ⟨B, j, none⟩ = some (.int .u8 (3 + j))

theorem fifteen : ∀ j, j < 15 → (#[.int .u8 3, .int .u8 4, .int .u8 5, .int .u8 6, .int .u8 7, .int .u8 8, .int .u8 9, .int .u8 10, .int .u8 11, .int .u8 12, .int .u8 13, .int .u8 14, .int .u8 15, .int .u8 16, .int .u8 17] : Array Value)[j]? = some (.int .u8 (3 + (j : Int)))
  | 0, _ => rfl
  | 1, _ => rfl
  | 2, _ => rfl
  | 3, _ => rfl
  | 4, _ => rfl
  | 5, _ => rfl
  | 6, _ => rfl
  | 7, _ => rfl
  | 8, _ => rfl
  | 9, _ => rfl
  | 10, _ => rfl
  | 11, _ => rfl
  | 12, _ => rfl
  | 13, _ => rfl
  | 14, _ => rfl
theorem kat_new (w : World) (o : Obj) : KAt ((w.alloc o).alloc (.cells #[.int .u8 3, .int .u8 4, .int .u8 5, .int .u8 6, .int .u8 7, .int .u8 8, .int .u8 9, .int .u8 10, .int .u8 11, .int .u8 12, .int .u8 13, .int .u8 14, .int .u8 15, .int .u8 16, .int .u8 17] 24)).drew (w.heap.size + 1) := by
  intro j hj
  have hb := (MapKept.heap_alloc (w.alloc o) (.cells #[.int .u8 3, .int .u8 4, .int .u8 5, .int .u8 6, .int .u8 7, .int .u8 8, .int .u8 9, .int .u8 10, .int .u8 11, .int .u8 12, .int .u8 13, .int .u8 14, .int .u8 15, .int .u8 16, .int .u8 17] 24)).1
  rw [show (w.alloc o).heap.size = w.heap.size + 1 from Array.size_push _] at hb
  show World.cell? ((w.alloc o).alloc (.cells #[.int .u8 3, .int .u8 4, .int .u8 5, .int .u8 6, .int .u8 7, .int .u8 8, .int .u8 9, .int .u8 10, .int .u8 11, .int .u8 12, .int .u8 13, .int .u8 14, .int .u8 15, .int .u8 16, .int .u8 17] 24)) _ = _
  rw [cell_blk hb]
  exact fifteen j hj
theorem below_two (w : World) (o o' : Obj) : Below w.heap.size w ((w.alloc o).alloc o').drew ∧ w.heap.size + 1 < ((w.alloc o).alloc o').drew.heap.size := by
  refine ⟨(((Below.refl _ _).alloc (Nat.le_refl _) _).alloc (Nat.le_trans (Nat.le_succ _) (Nat.le_of_eq (Array.size_push _).symm)) _).drew, ?_⟩
  show w.heap.size + 1 < ((w.heap.push _).push _).size
  rw [Array.size_push, Array.size_push]; omega

set_option maxHeartbeats 2000000 in
theorem kinds_c (w : World) :
    Calls Tryd.prog 21 #[] w fun e w' => ∃ B, e = .returned (.agg (kcells B)) ∧ KAt w' B ∧ B < w'.heap.size ∧ Below w.heap.size w w' := by
  go_enter Tryd.func21, Tryd.ntmps21
  go_wp2
  go_region
  go_wp2
  exact bodyPost_ret (v := .agg (kcells (w.heap.size + 1))) (by simp [results, Tryd.f21, go_sem, kcells]) rfl ⟨_, rfl, kat_new _ _, (below_two _ _ _).2, (below_two _ _ _).1⟩
end Go.Proofs.YthaodmobcbccaaaDoor
