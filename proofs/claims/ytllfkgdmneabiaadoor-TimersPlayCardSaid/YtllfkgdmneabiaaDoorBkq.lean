/- The book: lists of ints alone are kept; all are apart. -/
import Derived.Test.YtllfkgdmneabiaaDoorBkl
set_option linter.unusedVariables false
set_option linter.unusedSimpArgs false
namespace Go.Proofs.YtllfkgdmneabiaaDoor
open Go.RowKit Go.Shelf
attribute [local go_sem] Oper.semAt_some

set_option maxHeartbeats 1000000 in
set_option maxRecDepth 20000 in
theorem fillByte_none (w : World) (kb : Nat) (h : w.cell? ⟨kb, 1, none⟩ = some (.slice none 0 0)) :
    Calls Tryd.prog 27 #[.pointer (some ⟨kb, 0, none⟩)] w fun e w' => e = .returned (.tuple #[]) ∧ w = w' := by
  go_enter Tryd.func27, Tryd.ntmps27
  go_wp2
  go_loopw [2] (fun i wr => i = .int .i64 0 ∧ w = wr) (fun _ _ => 0)
  case atStart => exact ⟨rfl, rfl⟩
  case round =>
    obtain ⟨rfl, rfl⟩ := hrel
    go_wp2
    exact bodyPost_end (results_none rfl _ _ _) rfl ⟨rfl, rfl⟩
set_option maxHeartbeats 1000000 in
set_option maxRecDepth 20000 in
theorem growByte_none (w : World) (kb : Nat) (h : w.cell? ⟨kb, 1, none⟩ = some (.slice none 0 0)) :
    Calls Tryd.prog 35 #[.pointer (some ⟨kb, 0, none⟩)] w fun e w' => e = .returned (.tuple #[]) ∧ w = w' := by
  go_enter Tryd.func35, Tryd.ntmps35
  go_wp2
  go_loopw [2] (fun i wr => i = .int .i64 0 ∧ w = wr) (fun _ _ => 0)
  case atStart => exact ⟨rfl, rfl⟩
  case round =>
    obtain ⟨rfl, rfl⟩ := hrel
    go_wp2
    exact bodyPost_end (results_none rfl _ _ _) rfl ⟨rfl, rfl⟩
set_option maxHeartbeats 1000000 in
set_option maxRecDepth 20000 in
theorem lookByte_none (w : World) (kb : Nat) (h : w.cell? ⟨kb, 1, none⟩ = some (.slice none 0 0)) :
    Calls Tryd.prog 43 #[.pointer (some ⟨kb, 0, none⟩)] w fun e w' => e = .returned (.bool true) ∧ w = w' := by
  go_enter Tryd.func43, Tryd.ntmps43
  go_wp2
  go_loopw [3] (fun i wr => i = .int .i64 0 ∧ w = wr) (fun _ _ => 0)
  case atStart => exact ⟨rfl, rfl⟩
  case round =>
    obtain ⟨rfl, rfl⟩ := hrel
    go_wp2
    go_ret
    exact ⟨rfl, rfl⟩
set_option maxHeartbeats 1000000 in
set_option maxRecDepth 20000 in
theorem fillWord_none (w : World) (kb : Nat) (h : w.cell? ⟨kb, 2, none⟩ = some (.slice none 0 0)) :
    Calls Tryd.prog 28 #[.pointer (some ⟨kb, 0, none⟩)] w fun e w' => e = .returned (.tuple #[]) ∧ w = w' := by
  go_enter Tryd.func28, Tryd.ntmps28
  go_wp2
  go_loopw [2] (fun i wr => i = .int .i64 0 ∧ w = wr) (fun _ _ => 0)
  case atStart => exact ⟨rfl, rfl⟩
  case round =>
    obtain ⟨rfl, rfl⟩ := hrel
    go_wp2
    exact bodyPost_end (results_none rfl _ _ _) rfl ⟨rfl, rfl⟩
set_option maxHeartbeats 1000000 in
set_option maxRecDepth 20000 in
theorem growWord_none (w : World) (kb : Nat) (h : w.cell? ⟨kb, 2, none⟩ = some (.slice none 0 0)) :
    Calls Tryd.prog 36 #[.pointer (some ⟨kb, 0, none⟩)] w fun e w' => e = .returned (.tuple #[]) ∧ w = w' := by
  go_enter Tryd.func36, Tryd.ntmps36
  go_wp2
  go_loopw [2] (fun i wr => i = .int .i64 0 ∧ w = wr) (fun _ _ => 0)
  case atStart => exact ⟨rfl, rfl⟩
  case round =>
    obtain ⟨rfl, rfl⟩ := hrel
    go_wp2
    exact bodyPost_end (results_none rfl _ _ _) rfl ⟨rfl, rfl⟩
set_option maxHeartbeats 1000000 in
set_option maxRecDepth 20000 in
theorem lookWord_none (w : World) (kb : Nat) (h : w.cell? ⟨kb, 2, none⟩ = some (.slice none 0 0)) :
    Calls Tryd.prog 44 #[.pointer (some ⟨kb, 0, none⟩)] w fun e w' => e = .returned (.bool true) ∧ w = w' := by
  go_enter Tryd.func44, Tryd.ntmps44
  go_wp2
  go_loopw [3] (fun i wr => i = .int .i64 0 ∧ w = wr) (fun _ _ => 0)
  case atStart => exact ⟨rfl, rfl⟩
  case round =>
    obtain ⟨rfl, rfl⟩ := hrel
    go_wp2
    go_ret
    exact ⟨rfl, rfl⟩
set_option maxHeartbeats 1000000 in
set_option maxRecDepth 20000 in
theorem fillText_none (w : World) (kb : Nat) (h : w.cell? ⟨kb, 4, none⟩ = some (.slice none 0 0)) :
    Calls Tryd.prog 30 #[.pointer (some ⟨kb, 0, none⟩)] w fun e w' => e = .returned (.tuple #[]) ∧ w = w' := by
  go_enter Tryd.func30, Tryd.ntmps30
  go_wp2
  go_loopw [2] (fun i wr => i = .int .i64 0 ∧ w = wr) (fun _ _ => 0)
  case atStart => exact ⟨rfl, rfl⟩
  case round =>
    obtain ⟨rfl, rfl⟩ := hrel
    go_wp2
    exact bodyPost_end (results_none rfl _ _ _) rfl ⟨rfl, rfl⟩
set_option maxHeartbeats 1000000 in
set_option maxRecDepth 20000 in
theorem growText_none (w : World) (kb : Nat) (h : w.cell? ⟨kb, 4, none⟩ = some (.slice none 0 0)) :
    Calls Tryd.prog 38 #[.pointer (some ⟨kb, 0, none⟩)] w fun e w' => e = .returned (.tuple #[]) ∧ w = w' := by
  go_enter Tryd.func38, Tryd.ntmps38
  go_wp2
  go_loopw [2] (fun i wr => i = .int .i64 0 ∧ w = wr) (fun _ _ => 0)
  case atStart => exact ⟨rfl, rfl⟩
  case round =>
    obtain ⟨rfl, rfl⟩ := hrel
    go_wp2
    exact bodyPost_end (results_none rfl _ _ _) rfl ⟨rfl, rfl⟩
set_option maxHeartbeats 1000000 in
set_option maxRecDepth 20000 in
theorem lookText_none (w : World) (kb : Nat) (h : w.cell? ⟨kb, 4, none⟩ = some (.slice none 0 0)) :
    Calls Tryd.prog 46 #[.pointer (some ⟨kb, 0, none⟩)] w fun e w' => e = .returned (.bool true) ∧ w = w' := by
  go_enter Tryd.func46, Tryd.ntmps46
  go_wp2
  go_loopw [3] (fun i wr => i = .int .i64 0 ∧ w = wr) (fun _ _ => 0)
  case atStart => exact ⟨rfl, rfl⟩
  case round =>
    obtain ⟨rfl, rfl⟩ := hrel
    go_wp2
    go_ret
    exact ⟨rfl, rfl⟩
set_option maxHeartbeats 1000000 in
set_option maxRecDepth 20000 in
theorem fillInstr_none (w : World) (kb : Nat) (h : w.cell? ⟨kb, 5, none⟩ = some (.slice none 0 0)) :
    Calls Tryd.prog 31 #[.pointer (some ⟨kb, 0, none⟩)] w fun e w' => e = .returned (.tuple #[]) ∧ w = w' := by
  go_enter Tryd.func31, Tryd.ntmps31
  go_wp2
  go_loopw [2] (fun i wr => i = .int .i64 0 ∧ w = wr) (fun _ _ => 0)
  case atStart => exact ⟨rfl, rfl⟩
  case round =>
    obtain ⟨rfl, rfl⟩ := hrel
    go_wp2
    exact bodyPost_end (results_none rfl _ _ _) rfl ⟨rfl, rfl⟩
set_option maxHeartbeats 1000000 in
set_option maxRecDepth 20000 in
theorem growInstr_none (w : World) (kb : Nat) (h : w.cell? ⟨kb, 5, none⟩ = some (.slice none 0 0)) :
    Calls Tryd.prog 39 #[.pointer (some ⟨kb, 0, none⟩)] w fun e w' => e = .returned (.tuple #[]) ∧ w = w' := by
  go_enter Tryd.func39, Tryd.ntmps39
  go_wp2
  go_loopw [2] (fun i wr => i = .int .i64 0 ∧ w = wr) (fun _ _ => 0)
  case atStart => exact ⟨rfl, rfl⟩
  case round =>
    obtain ⟨rfl, rfl⟩ := hrel
    go_wp2
    exact bodyPost_end (results_none rfl _ _ _) rfl ⟨rfl, rfl⟩
set_option maxHeartbeats 1000000 in
set_option maxRecDepth 20000 in
theorem lookInstr_none (w : World) (kb : Nat) (h : w.cell? ⟨kb, 5, none⟩ = some (.slice none 0 0)) :
    Calls Tryd.prog 47 #[.pointer (some ⟨kb, 0, none⟩)] w fun e w' => e = .returned (.bool true) ∧ w = w' := by
  go_enter Tryd.func47, Tryd.ntmps47
  go_wp2
  go_loopw [3] (fun i wr => i = .int .i64 0 ∧ w = wr) (fun _ _ => 0)
  case atStart => exact ⟨rfl, rfl⟩
  case round =>
    obtain ⟨rfl, rfl⟩ := hrel
    go_wp2
    go_ret
    exact ⟨rfl, rfl⟩
set_option maxHeartbeats 1000000 in
set_option maxRecDepth 20000 in
theorem fillAsk_none (w : World) (kb : Nat) (h : w.cell? ⟨kb, 6, none⟩ = some (.slice none 0 0)) :
    Calls Tryd.prog 32 #[.pointer (some ⟨kb, 0, none⟩)] w fun e w' => e = .returned (.tuple #[]) ∧ w = w' := by
  go_enter Tryd.func32, Tryd.ntmps32
  go_wp2
  go_loopw [2] (fun i wr => i = .int .i64 0 ∧ w = wr) (fun _ _ => 0)
  case atStart => exact ⟨rfl, rfl⟩
  case round =>
    obtain ⟨rfl, rfl⟩ := hrel
    go_wp2
    exact bodyPost_end (results_none rfl _ _ _) rfl ⟨rfl, rfl⟩
set_option maxHeartbeats 1000000 in
set_option maxRecDepth 20000 in
theorem growAsk_none (w : World) (kb : Nat) (h : w.cell? ⟨kb, 6, none⟩ = some (.slice none 0 0)) :
    Calls Tryd.prog 40 #[.pointer (some ⟨kb, 0, none⟩)] w fun e w' => e = .returned (.tuple #[]) ∧ w = w' := by
  go_enter Tryd.func40, Tryd.ntmps40
  go_wp2
  go_loopw [2] (fun i wr => i = .int .i64 0 ∧ w = wr) (fun _ _ => 0)
  case atStart => exact ⟨rfl, rfl⟩
  case round =>
    obtain ⟨rfl, rfl⟩ := hrel
    go_wp2
    exact bodyPost_end (results_none rfl _ _ _) rfl ⟨rfl, rfl⟩
set_option maxHeartbeats 1000000 in
set_option maxRecDepth 20000 in
theorem lookAsk_none (w : World) (kb : Nat) (h : w.cell? ⟨kb, 6, none⟩ = some (.slice none 0 0)) :
    Calls Tryd.prog 48 #[.pointer (some ⟨kb, 0, none⟩)] w fun e w' => e = .returned (.bool true) ∧ w = w' := by
  go_enter Tryd.func48, Tryd.ntmps48
  go_wp2
  go_loopw [3] (fun i wr => i = .int .i64 0 ∧ w = wr) (fun _ _ => 0)
  case atStart => exact ⟨rfl, rfl⟩
  case round =>
    obtain ⟨rfl, rfl⟩ := hrel
    go_wp2
    go_ret
    exact ⟨rfl, rfl⟩
set_option maxHeartbeats 1000000 in
set_option maxRecDepth 20000 in
theorem fillTask_none (w : World) (kb : Nat) (h : w.cell? ⟨kb, 7, none⟩ = some (.slice none 0 0)) :
    Calls Tryd.prog 33 #[.pointer (some ⟨kb, 0, none⟩)] w fun e w' => e = .returned (.tuple #[]) ∧ w = w' := by
  go_enter Tryd.func33, Tryd.ntmps33
  go_wp2
  go_loopw [2] (fun i wr => i = .int .i64 0 ∧ w = wr) (fun _ _ => 0)
  case atStart => exact ⟨rfl, rfl⟩
  case round =>
    obtain ⟨rfl, rfl⟩ := hrel
    go_wp2
    exact bodyPost_end (results_none rfl _ _ _) rfl ⟨rfl, rfl⟩
set_option maxHeartbeats 1000000 in
set_option maxRecDepth 20000 in
theorem growTask_none (w : World) (kb : Nat) (h : w.cell? ⟨kb, 7, none⟩ = some (.slice none 0 0)) :
    Calls Tryd.prog 41 #[.pointer (some ⟨kb, 0, none⟩)] w fun e w' => e = .returned (.tuple #[]) ∧ w = w' := by
  go_enter Tryd.func41, Tryd.ntmps41
  go_wp2
  go_loopw [2] (fun i wr => i = .int .i64 0 ∧ w = wr) (fun _ _ => 0)
  case atStart => exact ⟨rfl, rfl⟩
  case round =>
    obtain ⟨rfl, rfl⟩ := hrel
    go_wp2
    exact bodyPost_end (results_none rfl _ _ _) rfl ⟨rfl, rfl⟩
set_option maxHeartbeats 1000000 in
set_option maxRecDepth 20000 in
theorem lookTask_none (w : World) (kb : Nat) (h : w.cell? ⟨kb, 7, none⟩ = some (.slice none 0 0)) :
    Calls Tryd.prog 49 #[.pointer (some ⟨kb, 0, none⟩)] w fun e w' => e = .returned (.bool true) ∧ w = w' := by
  go_enter Tryd.func49, Tryd.ntmps49
  go_wp2
  go_loopw [3] (fun i wr => i = .int .i64 0 ∧ w = wr) (fun _ _ => 0)
  case atStart => exact ⟨rfl, rfl⟩
  case round =>
    obtain ⟨rfl, rfl⟩ := hrel
    go_wp2
    go_ret
    exact ⟨rfl, rfl⟩
set_option maxHeartbeats 1000000 in
set_option maxRecDepth 20000 in
theorem fillThing_none (w : World) (kb : Nat) (h : w.cell? ⟨kb, 8, none⟩ = some (.slice none 0 0)) :
    Calls Tryd.prog 34 #[.pointer (some ⟨kb, 0, none⟩)] w fun e w' => e = .returned (.tuple #[]) ∧ w = w' := by
  go_enter Tryd.func34, Tryd.ntmps34
  go_wp2
  go_loopw [2] (fun i wr => i = .int .i64 0 ∧ w = wr) (fun _ _ => 0)
  case atStart => exact ⟨rfl, rfl⟩
  case round =>
    obtain ⟨rfl, rfl⟩ := hrel
    go_wp2
    exact bodyPost_end (results_none rfl _ _ _) rfl ⟨rfl, rfl⟩
set_option maxHeartbeats 1000000 in
set_option maxRecDepth 20000 in
theorem growThing_none (w : World) (kb : Nat) (h : w.cell? ⟨kb, 8, none⟩ = some (.slice none 0 0)) :
    Calls Tryd.prog 42 #[.pointer (some ⟨kb, 0, none⟩)] w fun e w' => e = .returned (.tuple #[]) ∧ w = w' := by
  go_enter Tryd.func42, Tryd.ntmps42
  go_wp2
  go_loopw [2] (fun i wr => i = .int .i64 0 ∧ w = wr) (fun _ _ => 0)
  case atStart => exact ⟨rfl, rfl⟩
  case round =>
    obtain ⟨rfl, rfl⟩ := hrel
    go_wp2
    exact bodyPost_end (results_none rfl _ _ _) rfl ⟨rfl, rfl⟩
set_option maxHeartbeats 1000000 in
set_option maxRecDepth 20000 in
theorem lookThing_none (w : World) (kb : Nat) (h : w.cell? ⟨kb, 8, none⟩ = some (.slice none 0 0)) :
    Calls Tryd.prog 50 #[.pointer (some ⟨kb, 0, none⟩)] w fun e w' => e = .returned (.bool true) ∧ w = w' := by
  go_enter Tryd.func50, Tryd.ntmps50
  go_wp2
  go_loopw [3] (fun i wr => i = .int .i64 0 ∧ w = wr) (fun _ _ => 0)
  case atStart => exact ⟨rfl, rfl⟩
  case round =>
    obtain ⟨rfl, rfl⟩ := hrel
    go_wp2
    go_ret
    exact ⟨rfl, rfl⟩

set_option maxHeartbeats 4000000 in
set_option maxRecDepth 20000 in
theorem apart_c {w0 w : World} {r : List Thing} {kb : Nat} {n : Int} {vb : Value} {xs : List Hl} (H : Hp w0 w (Bkt kb n vb :: Rows_ vb (xs.map nil_) :: (xs.map Kp ++ r))) (hq : ∀ h ∈ xs, (0 ≤ h.q ∧ h.q ≤ 100000) ∧ h.n < 100000) (hl : xs.length < 100000) :
    Calls Tryd.prog 17 #[.pointer (some ⟨kb, 0, none⟩)] w fun e w' => e = .returned (.bool true) ∧ Below w0.heap.size w0 w' := by
  have HF := Lib.hid (fill_c H hq hl)
  have HG := Lib.hid (fun (w : World) H => grow_c (w0 := w0) (w := w) (r := r) (kb := kb) (n := n) (vb := vb) (xs := xs) H hq hl)
  have HL := Lib.hid (fun (w : World) (ys : List Hr) (e : ys.map (·.l) = xs) H => look_c (w0 := w0) (w := w) (r := r) (kb := kb) (n := n) (vb := vb) (ys := ys) H (fun x hx => hq x.l (by rw [← e]; exact List.mem_map.2 ⟨x, hx, rfl⟩)) (by rw [← e, List.length_map] at hl; exact hl))
  have hc := (bk_cells H).1
  have h1 : w.cell? ⟨kb, 1, none⟩ = some (.slice none 0 0) := hc 1
  have h2 : w.cell? ⟨kb, 2, none⟩ = some (.slice none 0 0) := hc 2
  have h4 : w.cell? ⟨kb, 4, none⟩ = some (.slice none 0 0) := hc 4
  have h5 : w.cell? ⟨kb, 5, none⟩ = some (.slice none 0 0) := hc 5
  have h6 : w.cell? ⟨kb, 6, none⟩ = some (.slice none 0 0) := hc 6
  have h7 : w.cell? ⟨kb, 7, none⟩ = some (.slice none 0 0) := hc 7
  have h8 : w.cell? ⟨kb, 8, none⟩ = some (.slice none 0 0) := hc 8
  clear hc hq hl H
  go_enter Tryd.func17, Tryd.ntmps17
  go_wp2_with fail
  refine (fillByte_none _ kb h1).mono ?_; rintro e wz ⟨rfl, rfl⟩
  go_wp2_with fail
  refine (fillWord_none _ kb h2).mono ?_; rintro e wz ⟨rfl, rfl⟩
  go_wp2_with fail
  clear h1 h2 h4 h5 h6 h7 h8
  refine HF.out.mono ?_; rintro e w1 ⟨rfl, H1⟩
  have hc := (bk_cells H1).1
  have h1 : w1.cell? ⟨kb, 1, none⟩ = some (.slice none 0 0) := hc 1
  have h2 : w1.cell? ⟨kb, 2, none⟩ = some (.slice none 0 0) := hc 2
  have h4 : w1.cell? ⟨kb, 4, none⟩ = some (.slice none 0 0) := hc 4
  have h5 : w1.cell? ⟨kb, 5, none⟩ = some (.slice none 0 0) := hc 5
  have h6 : w1.cell? ⟨kb, 6, none⟩ = some (.slice none 0 0) := hc 6
  have h7 : w1.cell? ⟨kb, 7, none⟩ = some (.slice none 0 0) := hc 7
  have h8 : w1.cell? ⟨kb, 8, none⟩ = some (.slice none 0 0) := hc 8
  clear hc
  replace H1 := Lib.hid H1
  go_wp2_with fail
  refine (fillText_none _ kb h4).mono ?_; rintro e wz ⟨rfl, rfl⟩
  go_wp2_with fail
  refine (fillInstr_none _ kb h5).mono ?_; rintro e wz ⟨rfl, rfl⟩
  go_wp2_with fail
  refine (fillAsk_none _ kb h6).mono ?_; rintro e wz ⟨rfl, rfl⟩
  go_wp2_with fail
  refine (fillTask_none _ kb h7).mono ?_; rintro e wz ⟨rfl, rfl⟩
  go_wp2_with fail
  refine (fillThing_none _ kb h8).mono ?_; rintro e wz ⟨rfl, rfl⟩
  go_wp2_with fail
  refine (growByte_none _ kb h1).mono ?_; rintro e wz ⟨rfl, rfl⟩
  go_wp2_with fail
  refine (growWord_none _ kb h2).mono ?_; rintro e wz ⟨rfl, rfl⟩
  go_wp2_with fail
  clear h1 h2 h4 h5 h6 h7 h8
  refine (HG.out _ H1.out).mono ?_; rintro e w2 ⟨rfl, ys, hy, H2⟩
  have hc := (bk_cells H2).1
  have h1 : w2.cell? ⟨kb, 1, none⟩ = some (.slice none 0 0) := hc 1
  have h2 : w2.cell? ⟨kb, 2, none⟩ = some (.slice none 0 0) := hc 2
  have h4 : w2.cell? ⟨kb, 4, none⟩ = some (.slice none 0 0) := hc 4
  have h5 : w2.cell? ⟨kb, 5, none⟩ = some (.slice none 0 0) := hc 5
  have h6 : w2.cell? ⟨kb, 6, none⟩ = some (.slice none 0 0) := hc 6
  have h7 : w2.cell? ⟨kb, 7, none⟩ = some (.slice none 0 0) := hc 7
  have h8 : w2.cell? ⟨kb, 8, none⟩ = some (.slice none 0 0) := hc 8
  clear hc
  replace H2 := Lib.hid H2
  have HY := Lib.hid hy
  clear hy
  go_wp2_with fail
  refine (growText_none _ kb h4).mono ?_; rintro e wz ⟨rfl, rfl⟩
  go_wp2_with fail
  refine (growInstr_none _ kb h5).mono ?_; rintro e wz ⟨rfl, rfl⟩
  go_wp2_with fail
  refine (growAsk_none _ kb h6).mono ?_; rintro e wz ⟨rfl, rfl⟩
  go_wp2_with fail
  refine (growTask_none _ kb h7).mono ?_; rintro e wz ⟨rfl, rfl⟩
  go_wp2_with fail
  refine (growThing_none _ kb h8).mono ?_; rintro e wz ⟨rfl, rfl⟩
  go_wp2_with fail
  refine (lookByte_none _ kb h1).mono ?_; rintro e wz ⟨rfl, rfl⟩
  go_wp2_with fail
  refine (lookWord_none _ kb h2).mono ?_; rintro e wz ⟨rfl, rfl⟩
  go_wp2_with fail
  clear h1 h2 h4 h5 h6 h7 h8
  refine (HL.out _ ys HY.out H2.out).mono ?_; rintro e w3 ⟨rfl, H3⟩
  have hc := (bk_cells H3).1
  have h1 : w3.cell? ⟨kb, 1, none⟩ = some (.slice none 0 0) := hc 1
  have h2 : w3.cell? ⟨kb, 2, none⟩ = some (.slice none 0 0) := hc 2
  have h4 : w3.cell? ⟨kb, 4, none⟩ = some (.slice none 0 0) := hc 4
  have h5 : w3.cell? ⟨kb, 5, none⟩ = some (.slice none 0 0) := hc 5
  have h6 : w3.cell? ⟨kb, 6, none⟩ = some (.slice none 0 0) := hc 6
  have h7 : w3.cell? ⟨kb, 7, none⟩ = some (.slice none 0 0) := hc 7
  have h8 : w3.cell? ⟨kb, 8, none⟩ = some (.slice none 0 0) := hc 8
  clear hc
  replace H3 := Lib.hid H3
  go_wp2_with fail
  refine (lookText_none _ kb h4).mono ?_; rintro e wz ⟨rfl, rfl⟩
  go_wp2_with fail
  refine (lookInstr_none _ kb h5).mono ?_; rintro e wz ⟨rfl, rfl⟩
  go_wp2_with fail
  refine (lookAsk_none _ kb h6).mono ?_; rintro e wz ⟨rfl, rfl⟩
  go_wp2_with fail
  refine (lookTask_none _ kb h7).mono ?_; rintro e wz ⟨rfl, rfl⟩
  go_wp2_with fail
  refine (lookThing_none _ kb h8).mono ?_; rintro e wz ⟨rfl, rfl⟩
  go_wp2
  go_ret
  exact ⟨rfl, H3.out.below⟩
end Go.Proofs.YtllfkgdmneabiaaDoor
