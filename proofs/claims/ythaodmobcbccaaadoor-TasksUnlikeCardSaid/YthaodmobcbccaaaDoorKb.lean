/- What may wait, and of what it may be asked. -/
import Derived.Test.YthaodmobcbccaaaDoorKn
import Derived.Deep.QuietTactic
import Derived.BigQuiet
import Derived.Deep.RegionWith
set_option linter.unusedVariables false
set_option linter.unusedSimpArgs false
namespace Go.Proofs.YthaodmobcbccaaaDoor
open Go.RowKit
attribute [local go_sem] Oper.semAt_some

theorem _root_.Go.RowKit.Below.drewN {n : Nat} {w w' : World} (h : Below n w w') (k : Nat) : Below n w (w'.drewN k) := ⟨h.os, h.tape, h.output, h.size, h.block⟩
theorem sz (w : World) (o : Obj) : (w.alloc o).heap.size = w.heap.size + 1 := Array.size_push _
theorem KAt.below {w w' : World} {B : Nat} (h : KAt w B) (hl : B < w.heap.size) (hb : Below w.heap.size w w') : KAt w' B := fun j hj => (hb.cell (p := ⟨B, j, none⟩) hl).trans (h j hj)
theorem lies_of {w : World} {B o : Nat} {xs : List Int} (h : KAt w B) (hx : ∀ j (hj : j < xs.length), o + j < 15 ∧ xs[j] = 3 + ((o + j : Nat) : Int)) : Lies w (some ⟨B, o, none⟩) xs := fun j hj => by
  obtain ⟨h1, h2⟩ := hx j hj
  exact ⟨B, o, rfl, by rw [h _ h1, h2]⟩
theorem Lies.alloc {w : World} {a : Option Addr} {xs : List Int} (h : Lies w a xs) (o : Obj) : Lies (w.alloc o) a xs := fun j hj => by
  obtain ⟨b, p, rfl, hc⟩ := h j hj
  refine ⟨b, p, rfl, ?_⟩
  rw [((Below.refl _ w).alloc (Nat.le_refl _) o).cell (p := ⟨b, p + j, none⟩) (World.block_lt_of_cell? _ _ hc), hc]
theorem Lies.drewN {w : World} {a : Option Addr} {xs : List Int} (h : Lies w a xs) (n : Nat) : Lies (w.drewN n) a xs := h
theorem lies_nil (w : World) (a : Option Addr) : Lies w a [] := fun j hj => by simp at hj

/-- May it wait? -/
def blk (what wait : Int) : Bool := decide (wait ≠ 0 ∧ (what ∈ [2, 3, 5, 7, 8, 9, 11, 14] : Prop))
/-- Of what kind those are that may wait. -/
def wl : Nat → List Int
  | 1 => [3]
  | 2 => [5]
  | 3 => [7, 8, 9]
  | 4 => [11]
  | 5 => [14]
  | _ => []
theorem blk_no (what wait : Int) (h : wait = 0) : blk what wait = false := by simp [blk, h]
theorem blk_yes {what wait : Int} (h : wait ≠ 0) {k : Nat} (hk : k < 7) (hm : what ∈ wl k) : blk what wait = true := by
  unfold blk
  refine decide_eq_true ⟨h, ?_⟩
  match k, hk with
  | 0, _ => simp [wl] at hm
  | 1, _ => simp [wl] at hm; subst hm; decide
  | 2, _ => simp [wl] at hm; subst hm; decide
  | 3, _ => simp [wl] at hm; rcases hm with rfl | rfl | rfl <;> decide
  | 4, _ => simp [wl] at hm; subst hm; decide
  | 5, _ => simp [wl] at hm; subst hm; decide
  | 6, _ => simp [wl] at hm
theorem blk_end {what wait : Int} (h : wait ≠ 0) (hn : ∀ k, k < 7 → what ∉ wl k) : blk what wait = decide (what = 2) := by
  unfold blk
  rw [decide_eq_decide]
  have h1 := hn 1 (by omega)
  have h2 := hn 2 (by omega)
  have h3 := hn 3 (by omega)
  have h4 := hn 4 (by omega)
  have h5 := hn 5 (by omega)
  simp [wl] at h1 h2 h3 h4 h5
  simp
  omega

/-- Where the slices lie, and how long they are. -/
def ka (B : Nat) : Nat → Option Addr
  | 1 => some ⟨B, 0, none⟩
  | 2 => some ⟨B, 2, none⟩
  | 3 => some ⟨B, 4, none⟩
  | 4 => some ⟨B, 8, none⟩
  | 5 => some ⟨B, 11, none⟩
  | 6 => some ⟨B, 13, none⟩
  | _ => none
/-- What may be asked of a thing of each kind. -/
def kl : Nat → List Int
  | 1 => [3, 4]
  | 2 => [5, 6]
  | 3 => [7, 8, 9, 10]
  | 4 => [11, 12, 13]
  | 5 => [14, 15]
  | 6 => [16, 17]
  | _ => []
theorem kidx (w : World) (B k : Nat) (hk : k < 7) : (Instr.index 47 (.agg (kcells B)) (.int .i64 k)).run Tryd.prog w = .ok (.agg #[.slice (ka B k) (kl k).length (kl k).length, .int .i64 (wl k).length]) w :=
  match k, hk with
  | 0, _ => by rfl
  | 1, _ => by rfl
  | 2, _ => by rfl
  | 3, _ => by rfl
  | 4, _ => by rfl
  | 5, _ => by rfl
  | 6, _ => by rfl
theorem wl_le (k : Nat) : (wl k).length ≤ (kl k).length ∧ (kl k).length < 5 := by
  match k with
  | 0 => decide
  | 1 => decide
  | 2 => decide
  | 3 => decide
  | 4 => decide
  | 5 => decide
  | 6 => decide
  | k + 7 => exact ⟨Nat.le_refl _, by simp [kl]⟩
theorem kl_lies {w : World} {B k : Nat} (h : KAt w B) (hk : k < 7) : Lies w (ka B k) (kl k) :=
  match k, hk with
  | 0, _ => lies_nil _ _
  | 1, _ => lies_of h (by decide)
  | 2, _ => lies_of h (by decide)
  | 3, _ => lies_of h (by decide)
  | 4, _ => lies_of h (by decide)
  | 5, _ => lies_of h (by decide)
  | 6, _ => lies_of h (by decide)
theorem wl_lies {w : World} {B k : Nat} (h : KAt w B) (hk : k < 7) : Lies w (ka B k) (wl k) :=
  match k, hk with
  | 0, _ => lies_nil _ _
  | 1, _ => lies_of h (by decide)
  | 2, _ => lies_of h (by decide)
  | 3, _ => lies_of h (by decide)
  | 4, _ => lies_of h (by decide)
  | 5, _ => lies_of h (by decide)
  | 6, _ => lies_nil _ _

set_option maxHeartbeats 4000000 in
set_option maxRecDepth 20000 in
theorem blocks_c (w : World) (what h v m wait : Int) :
    Calls Tryd.prog 13 #[.agg #[.int .u8 what, .int .u32 h, .int .u32 v, .int .u32 m, .int .i64 wait]] w fun e w' => e = .returned (.bool (blk what wait)) ∧ Below w.heap.size w w' := by
  go_enter Tryd.func13, Tryd.ntmps13
  by_cases h0 : wait = 0
  · have hb := blk_no what wait h0
    have HB := Lib.hid hb
    clear hb
    subst h0
    go_wp2
    go_ret
    exact ⟨by rw [HB.out]; rfl, (Below.refl _ _).alloc (Nat.le_refl _) _⟩
  · have h0' : (wait == 0) = false := by simpa using h0
    go_wp2_with fail
    refine (kinds_c _).mono ?_; rintro e w1 ⟨B, rfl, hK, hBl, hb1⟩
    have hb0 : Below w.heap.size w w1 := ((Below.refl _ w).alloc (Nat.le_refl _) _).trans (hb1.mono (by rw [sz]; omega))
    have hx : w1.cell? ⟨w.heap.size, 0, none⟩ = some (.int .u8 what) := by
      rw [hb1.cell (p := ⟨w.heap.size, 0, none⟩) (by rw [sz]; exact Nat.lt_succ_self _)]
      rw [cell_blk (MapKept.heap_alloc w _).1]; rfl
    have hxl : w.heap.size < w1.heap.size := Nat.lt_of_lt_of_le (by rw [sz]; exact Nat.lt_succ_self _) hb1.size
    clear hb1
    go_wp2_with fail
    go_loopw [9] (fun i wr => ∃ k : Nat, k ≤ 7 ∧ i = .int .i64 k ∧ Below w1.heap.size w1 wr ∧ ∀ j, j < k → what ∉ wl j) (fun i _ => 7 - (intOf i).toNat)
    case atStart => exact ⟨0, by omega, rfl, Below.refl _ _, fun j hj => by omega⟩
    case round =>
      obtain ⟨k, hk, rfl, hB, hn⟩ := hrel
      by_cases h7 : k = 7
      · subst h7
        have hr := blk_end h0 hn
        have HR := Lib.hid hr
        clear hr hn
        have hx2 := (hB.cell (p := ⟨w.heap.size, 0, none⟩) hxl).trans hx
        clear hx
        have hbw : Below w.heap.size w wr := hb0.trans (hB.mono (by omega))
        go_wp2
        go_ret
        exact ⟨by rw [HR.out]; rfl, hbw⟩
      · have hk7 : k < 7 := by omega
        have hx2 := (hB.cell (p := ⟨w.heap.size, 0, none⟩) hxl).trans hx
        have hK2 := hK.below hBl hB
        have hL := wl_lies hK2 hk7
        have hi := kidx wr B k hk7
        have hbw : Below w.heap.size w wr := hb0.trans (hB.mono (by omega))
        obtain ⟨hl1, hl2⟩ := wl_le k
        have HL := Lib.hid hL
        have HN := Lib.hid hn
        have c1 : (k : Int) < 7 := by omega
        have c2 : ((wl k).length : Int) ≤ ((kl k).length : Int) := by omega
        have c3 : ¬ ((wl k).length : Int) < 0 := by omega
        have hwz : IntKind.i64.wrap ((k : Int) + 1) = (k : Int) + 1 := by rw [IntKind.wrap_i64]; omega
        clear hx hK hK2 hL hn
        have hB2 : Below w1.heap.size w1 (wr.alloc (.cells #[.slice (ka B k) (kl k).length (kl k).length, .int .i64 (wl k).length] 46)) := hB.alloc hB.size _
        have hbw2 : Below w.heap.size w (wr.alloc (.cells #[.slice (ka B k) (kl k).length (kl k).length, .int .i64 (wl k).length] 46)) := hbw.alloc hbw.size _
        have HL2 : Hid (Lies (wr.alloc (.cells #[.slice (ka B k) (kl k).length (kl k).length, .int .i64 (wl k).length] 46)) (ka B k) (wl k)) := Lib.hid (HL.out.alloc _)
        generalize ka B k = ak at *
        go_wp2
        have k0 : (wr.alloc (.cells #[.slice ak (kl k).length (kl k).length, .int .i64 (wl k).length] 46)).cell? ⟨wr.heap.size, 0, none⟩ = some (.slice ak (kl k).length (kl k).length) := by rw [cell_blk (MapKept.heap_alloc wr _).1]; rfl
        have k1 : (wr.alloc (.cells #[.slice ak (kl k).length (kl k).length, .int .i64 (wl k).length] 46)).cell? ⟨wr.heap.size, 1, none⟩ = some (.int .i64 (wl k).length) := by rw [cell_blk (MapKept.heap_alloc wr _).1]; rfl
        have k2 : (wr.alloc (.cells #[.slice ak (kl k).length (kl k).length, .int .i64 (wl k).length] 46)).cell? ⟨w.heap.size, 0, none⟩ = some (.int .u8 what) := (((Below.refl _ wr).alloc (Nat.le_refl _) _).cell (p := ⟨w.heap.size, 0, none⟩) (Nat.lt_of_lt_of_le hxl hB.size)).trans hx2
        clear hx2
        generalize (wr.alloc (.cells #[.slice ak (kl k).length (kl k).length, .int .i64 (wl k).length] 46)) = w2 at *
        generalize wr.heap.size = bk at *
        go_quiet (first | (go_at_call 22; exact Calls.quiet_of_same ((contains_c _ ak _ (wl k) what (HL2.out.drewN _) (by omega)).mono fun _ _ h => ⟨h.1, h.2.symm⟩)))
        by_cases hm : what ∈ wl k
        · have HR := Lib.hid (blk_yes h0 hk7 hm)
          go_wp2
          go_ret
          exact ⟨by rw [HR.out]; rfl, hbw2.drewN _⟩
        · have HM := Lib.hid hm
          go_wp2
          go_roundw
          case rel => exact ⟨k + 1, by omega, by go_num, hB2.drewN _, fun j hj => by rcases Nat.lt_succ_iff_lt_or_eq.1 hj with h | rfl; exact HN.out j h; exact HM.out⟩
          case measure => simp [intOf]; omega

/-- May it be asked of a thing of that kind? -/
def fits (what kind : Int) : Bool := decide (0 ≤ kind ∧ kind ≤ 6 ∧ what ∈ kl kind.toNat)
theorem kfield (w : World) (B k : Nat) (hk : k < 7) : (Instr.index 47 (.agg (kcells B)) (.int .u8 k)).run Tryd.prog w = .ok (.agg #[.slice (ka B k) (kl k).length (kl k).length, .int .i64 (wl k).length]) w :=
  match k, hk with
  | 0, _ => by rfl
  | 1, _ => by rfl
  | 2, _ => by rfl
  | 3, _ => by rfl
  | 4, _ => by rfl
  | 5, _ => by rfl
  | 6, _ => by rfl
set_option maxHeartbeats 4000000 in
set_option maxRecDepth 20000 in
theorem fits_c (w : World) (what h v m wait : Int) (k : Nat) :
    Calls Tryd.prog 15 #[.agg #[.int .u8 what, .int .u32 h, .int .u32 v, .int .u32 m, .int .i64 wait], .int .u8 k] w fun e w' => e = .returned (.bool (fits what k)) ∧ Below w.heap.size w w' := by
  go_enter Tryd.func15, Tryd.ntmps15
  by_cases h6 : (k : Int) ≤ 6
  · have hi := fun (w : World) (B : Nat) => kfield w B k (by omega)
    have hfd : ∀ (w : World) (a : Option Addr) (n c : Nat) (x : Int), (Instr.field 46 (.agg #[.slice a n c, .int .i64 x]) 0).run Tryd.prog w = .ok (.slice a n c) w := fun _ _ _ _ _ => by rfl
    have hlz := (wl_le k).2
    have hfe : fits what k = decide (what ∈ kl k) := by unfold fits; rw [decide_eq_decide]; simp; omega
    have HF := Lib.hid hfe
    clear hfe
    have c1 : decide ((k : Int) ≤ 6) = true := decide_eq_true h6
    go_wp2
    have hx : (w.alloc (.cells #[.int .u8 what, .int .u32 h, .int .u32 v, .int .u32 m, .int .i64 wait] 26)).cell? ⟨w.heap.size, 0, none⟩ = some (.int .u8 what) := by rw [cell_blk (MapKept.heap_alloc w _).1]; rfl
    have hxl : w.heap.size < (w.alloc (.cells #[.int .u8 what, .int .u32 h, .int .u32 v, .int .u32 m, .int .i64 wait] 26)).heap.size := by rw [sz]; exact Nat.lt_succ_self _
    have hb0 : Below w.heap.size w (w.alloc (.cells #[.int .u8 what, .int .u32 h, .int .u32 v, .int .u32 m, .int .i64 wait] 26)) := (Below.refl _ w).alloc (Nat.le_refl _) _
    generalize (w.alloc (.cells #[.int .u8 what, .int .u32 h, .int .u32 v, .int .u32 m, .int .i64 wait] 26)) = w1 at *
    go_region_with (first
      | (go_at_call 21; refine (kinds_c _).mono ?_; rintro e w2 ⟨B, rfl, hK, hBl, hb⟩; have hx2 := (hb.cell (p := ⟨w.heap.size, 0, none⟩) hxl).trans hx)
      | (go_at_call 22; refine (contains_c _ (ka B k) _ (kl k) what (kl_lies hK (by omega)) (by omega)).mono ?_; rintro e w3 ⟨rfl, rfl⟩))
    all_goals go_wp2
    all_goals go_ret
    all_goals exact ⟨by rw [HF.out]; rfl, hb0.drew.trans (hb.mono (Nat.le_of_lt hxl))⟩
  · have hf : fits what k = false := by unfold fits; exact decide_eq_false (fun h => h6 h.2.1)
    have HF := Lib.hid hf
    clear hf
    have c1 : decide ((k : Int) ≤ 6) = false := decide_eq_false h6
    go_wp2
    have hb0 : Below w.heap.size w (w.alloc (.cells #[.int .u8 what, .int .u32 h, .int .u32 v, .int .u32 m, .int .i64 wait] 26)) := (Below.refl _ w).alloc (Nat.le_refl _) _
    generalize (w.alloc (.cells #[.int .u8 what, .int .u32 h, .int .u32 v, .int .u32 m, .int .i64 wait] 26)) = w1 at *
    go_quiet (fail)
    go_wp2
    go_ret
    exact ⟨by rw [HF.out]; rfl, hb0.drewN _⟩
end Go.Proofs.YthaodmobcbccaaaDoor
