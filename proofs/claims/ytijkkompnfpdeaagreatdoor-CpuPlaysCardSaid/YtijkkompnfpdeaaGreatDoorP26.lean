/- The book: lists of bytes and of instructions are kept; all are apart. Copies of images in memory of their own, with marks behind, and whether they are still: walked. -/
import Derived.Test.YtijkkompnfpdeaaGreatDoorP24
import Derived.Test.YtijkkompnfpdeaaGreatDoorP25
import Derived.Test.YtijkkompnfpdeaaGreatDoorP22
import Derived.Deep.RegionHeld3
set_option linter.unusedVariables false
set_option linter.unusedSimpArgs false
namespace Go.Proofs.YtijkkompnfpdeaaGreatDoor
open Go.RowKit Go.Shelf
attribute [local go_sem] Oper.semAt_some

theorem perm_kinds {b p q : Thing} {X Y r : List Thing} : (b :: p :: (X ++ (q :: (Y ++ r)))).Perm (b :: q :: (Y ++ (p :: (X ++ r)))) := by
  refine List.Perm.cons b ?_
  have := List.perm_append_comm_assoc (p :: X) (q :: Y) r
  simp only [List.cons_append] at this
  refine List.Perm.trans this ?_
  refine List.Perm.cons q (List.Perm.append_left Y ?_)
  exact List.Perm.refl _

set_option maxHeartbeats 1000000 in
set_option maxRecDepth 20000 in
theorem fillWord_none (w : World) (kb : Nat) (h : w.cell? ⟨kb, 2, none⟩ = some (.slice none 0 0)) :
    Calls Tryz.prog 51 #[.pointer (some ⟨kb, 0, none⟩)] w fun e w' => e = .returned (.tuple #[]) ∧ w = w' := by
  go_enter Tryz.func51, Tryz.ntmps51
  go_wp2
  go_loopw [2] (fun i wr => i = .int .i64 0 ∧ w = wr) (fun _ _ => 0)
  case atStart => exact ⟨rfl, rfl⟩
  case round =>
    obtain ⟨rfl, rfl⟩ := hrel
    go_wp2
    exact bodyPost_end (results_none rfl _ _ _) rfl ⟨rfl, rfl⟩
set_option maxHeartbeats 1000000 in
set_option maxRecDepth 20000 in
theorem growWord_none (w : World) (kb : Nat) (h : w.cell? ⟨kb, 2, none⟩ = some (.slice none 0 0)) :
    Calls Tryz.prog 59 #[.pointer (some ⟨kb, 0, none⟩)] w fun e w' => e = .returned (.tuple #[]) ∧ w = w' := by
  go_enter Tryz.func59, Tryz.ntmps59
  go_wp2
  go_loopw [2] (fun i wr => i = .int .i64 0 ∧ w = wr) (fun _ _ => 0)
  case atStart => exact ⟨rfl, rfl⟩
  case round =>
    obtain ⟨rfl, rfl⟩ := hrel
    go_wp2
    exact bodyPost_end (results_none rfl _ _ _) rfl ⟨rfl, rfl⟩
set_option maxHeartbeats 1000000 in
set_option maxRecDepth 20000 in
theorem lookWord_none (w : World) (kb : Nat) (h : w.cell? ⟨kb, 2, none⟩ = some (.slice none 0 0)) :
    Calls Tryz.prog 67 #[.pointer (some ⟨kb, 0, none⟩)] w fun e w' => e = .returned (.bool true) ∧ w = w' := by
  go_enter Tryz.func67, Tryz.ntmps67
  go_wp2
  go_loopw [3] (fun i wr => i = .int .i64 0 ∧ w = wr) (fun _ _ => 0)
  case atStart => exact ⟨rfl, rfl⟩
  case round =>
    obtain ⟨rfl, rfl⟩ := hrel
    go_wp2
    go_ret
    exact ⟨rfl, rfl⟩
set_option maxHeartbeats 1000000 in
set_option maxRecDepth 20000 in
theorem fillInt_none (w : World) (kb : Nat) (h : w.cell? ⟨kb, 3, none⟩ = some (.slice none 0 0)) :
    Calls Tryz.prog 52 #[.pointer (some ⟨kb, 0, none⟩)] w fun e w' => e = .returned (.tuple #[]) ∧ w = w' := by
  go_enter Tryz.func52, Tryz.ntmps52
  go_wp2
  go_loopw [2] (fun i wr => i = .int .i64 0 ∧ w = wr) (fun _ _ => 0)
  case atStart => exact ⟨rfl, rfl⟩
  case round =>
    obtain ⟨rfl, rfl⟩ := hrel
    go_wp2
    exact bodyPost_end (results_none rfl _ _ _) rfl ⟨rfl, rfl⟩
set_option maxHeartbeats 1000000 in
set_option maxRecDepth 20000 in
theorem growInt_none (w : World) (kb : Nat) (h : w.cell? ⟨kb, 3, none⟩ = some (.slice none 0 0)) :
    Calls Tryz.prog 60 #[.pointer (some ⟨kb, 0, none⟩)] w fun e w' => e = .returned (.tuple #[]) ∧ w = w' := by
  go_enter Tryz.func60, Tryz.ntmps60
  go_wp2
  go_loopw [2] (fun i wr => i = .int .i64 0 ∧ w = wr) (fun _ _ => 0)
  case atStart => exact ⟨rfl, rfl⟩
  case round =>
    obtain ⟨rfl, rfl⟩ := hrel
    go_wp2
    exact bodyPost_end (results_none rfl _ _ _) rfl ⟨rfl, rfl⟩
set_option maxHeartbeats 1000000 in
set_option maxRecDepth 20000 in
theorem lookInt_none (w : World) (kb : Nat) (h : w.cell? ⟨kb, 3, none⟩ = some (.slice none 0 0)) :
    Calls Tryz.prog 68 #[.pointer (some ⟨kb, 0, none⟩)] w fun e w' => e = .returned (.bool true) ∧ w = w' := by
  go_enter Tryz.func68, Tryz.ntmps68
  go_wp2
  go_loopw [3] (fun i wr => i = .int .i64 0 ∧ w = wr) (fun _ _ => 0)
  case atStart => exact ⟨rfl, rfl⟩
  case round =>
    obtain ⟨rfl, rfl⟩ := hrel
    go_wp2
    go_ret
    exact ⟨rfl, rfl⟩
set_option maxHeartbeats 1000000 in
set_option maxRecDepth 20000 in
theorem fillText_none (w : World) (kb : Nat) (h : w.cell? ⟨kb, 4, none⟩ = some (.slice none 0 0)) :
    Calls Tryz.prog 53 #[.pointer (some ⟨kb, 0, none⟩)] w fun e w' => e = .returned (.tuple #[]) ∧ w = w' := by
  go_enter Tryz.func53, Tryz.ntmps53
  go_wp2
  go_loopw [2] (fun i wr => i = .int .i64 0 ∧ w = wr) (fun _ _ => 0)
  case atStart => exact ⟨rfl, rfl⟩
  case round =>
    obtain ⟨rfl, rfl⟩ := hrel
    go_wp2
    exact bodyPost_end (results_none rfl _ _ _) rfl ⟨rfl, rfl⟩
set_option maxHeartbeats 1000000 in
set_option maxRecDepth 20000 in
theorem growText_none (w : World) (kb : Nat) (h : w.cell? ⟨kb, 4, none⟩ = some (.slice none 0 0)) :
    Calls Tryz.prog 61 #[.pointer (some ⟨kb, 0, none⟩)] w fun e w' => e = .returned (.tuple #[]) ∧ w = w' := by
  go_enter Tryz.func61, Tryz.ntmps61
  go_wp2
  go_loopw [2] (fun i wr => i = .int .i64 0 ∧ w = wr) (fun _ _ => 0)
  case atStart => exact ⟨rfl, rfl⟩
  case round =>
    obtain ⟨rfl, rfl⟩ := hrel
    go_wp2
    exact bodyPost_end (results_none rfl _ _ _) rfl ⟨rfl, rfl⟩
set_option maxHeartbeats 1000000 in
set_option maxRecDepth 20000 in
theorem lookText_none (w : World) (kb : Nat) (h : w.cell? ⟨kb, 4, none⟩ = some (.slice none 0 0)) :
    Calls Tryz.prog 69 #[.pointer (some ⟨kb, 0, none⟩)] w fun e w' => e = .returned (.bool true) ∧ w = w' := by
  go_enter Tryz.func69, Tryz.ntmps69
  go_wp2
  go_loopw [3] (fun i wr => i = .int .i64 0 ∧ w = wr) (fun _ _ => 0)
  case atStart => exact ⟨rfl, rfl⟩
  case round =>
    obtain ⟨rfl, rfl⟩ := hrel
    go_wp2
    go_ret
    exact ⟨rfl, rfl⟩
set_option maxHeartbeats 1000000 in
set_option maxRecDepth 20000 in
theorem fillAsk_none (w : World) (kb : Nat) (h : w.cell? ⟨kb, 6, none⟩ = some (.slice none 0 0)) :
    Calls Tryz.prog 55 #[.pointer (some ⟨kb, 0, none⟩)] w fun e w' => e = .returned (.tuple #[]) ∧ w = w' := by
  go_enter Tryz.func55, Tryz.ntmps55
  go_wp2
  go_loopw [2] (fun i wr => i = .int .i64 0 ∧ w = wr) (fun _ _ => 0)
  case atStart => exact ⟨rfl, rfl⟩
  case round =>
    obtain ⟨rfl, rfl⟩ := hrel
    go_wp2
    exact bodyPost_end (results_none rfl _ _ _) rfl ⟨rfl, rfl⟩
set_option maxHeartbeats 1000000 in
set_option maxRecDepth 20000 in
theorem growAsk_none (w : World) (kb : Nat) (h : w.cell? ⟨kb, 6, none⟩ = some (.slice none 0 0)) :
    Calls Tryz.prog 63 #[.pointer (some ⟨kb, 0, none⟩)] w fun e w' => e = .returned (.tuple #[]) ∧ w = w' := by
  go_enter Tryz.func63, Tryz.ntmps63
  go_wp2
  go_loopw [2] (fun i wr => i = .int .i64 0 ∧ w = wr) (fun _ _ => 0)
  case atStart => exact ⟨rfl, rfl⟩
  case round =>
    obtain ⟨rfl, rfl⟩ := hrel
    go_wp2
    exact bodyPost_end (results_none rfl _ _ _) rfl ⟨rfl, rfl⟩
set_option maxHeartbeats 1000000 in
set_option maxRecDepth 20000 in
theorem lookAsk_none (w : World) (kb : Nat) (h : w.cell? ⟨kb, 6, none⟩ = some (.slice none 0 0)) :
    Calls Tryz.prog 71 #[.pointer (some ⟨kb, 0, none⟩)] w fun e w' => e = .returned (.bool true) ∧ w = w' := by
  go_enter Tryz.func71, Tryz.ntmps71
  go_wp2
  go_loopw [3] (fun i wr => i = .int .i64 0 ∧ w = wr) (fun _ _ => 0)
  case atStart => exact ⟨rfl, rfl⟩
  case round =>
    obtain ⟨rfl, rfl⟩ := hrel
    go_wp2
    go_ret
    exact ⟨rfl, rfl⟩
set_option maxHeartbeats 1000000 in
set_option maxRecDepth 20000 in
theorem fillTask_none (w : World) (kb : Nat) (h : w.cell? ⟨kb, 7, none⟩ = some (.slice none 0 0)) :
    Calls Tryz.prog 56 #[.pointer (some ⟨kb, 0, none⟩)] w fun e w' => e = .returned (.tuple #[]) ∧ w = w' := by
  go_enter Tryz.func56, Tryz.ntmps56
  go_wp2
  go_loopw [2] (fun i wr => i = .int .i64 0 ∧ w = wr) (fun _ _ => 0)
  case atStart => exact ⟨rfl, rfl⟩
  case round =>
    obtain ⟨rfl, rfl⟩ := hrel
    go_wp2
    exact bodyPost_end (results_none rfl _ _ _) rfl ⟨rfl, rfl⟩
set_option maxHeartbeats 1000000 in
set_option maxRecDepth 20000 in
theorem growTask_none (w : World) (kb : Nat) (h : w.cell? ⟨kb, 7, none⟩ = some (.slice none 0 0)) :
    Calls Tryz.prog 64 #[.pointer (some ⟨kb, 0, none⟩)] w fun e w' => e = .returned (.tuple #[]) ∧ w = w' := by
  go_enter Tryz.func64, Tryz.ntmps64
  go_wp2
  go_loopw [2] (fun i wr => i = .int .i64 0 ∧ w = wr) (fun _ _ => 0)
  case atStart => exact ⟨rfl, rfl⟩
  case round =>
    obtain ⟨rfl, rfl⟩ := hrel
    go_wp2
    exact bodyPost_end (results_none rfl _ _ _) rfl ⟨rfl, rfl⟩
set_option maxHeartbeats 1000000 in
set_option maxRecDepth 20000 in
theorem lookTask_none (w : World) (kb : Nat) (h : w.cell? ⟨kb, 7, none⟩ = some (.slice none 0 0)) :
    Calls Tryz.prog 72 #[.pointer (some ⟨kb, 0, none⟩)] w fun e w' => e = .returned (.bool true) ∧ w = w' := by
  go_enter Tryz.func72, Tryz.ntmps72
  go_wp2
  go_loopw [3] (fun i wr => i = .int .i64 0 ∧ w = wr) (fun _ _ => 0)
  case atStart => exact ⟨rfl, rfl⟩
  case round =>
    obtain ⟨rfl, rfl⟩ := hrel
    go_wp2
    go_ret
    exact ⟨rfl, rfl⟩
set_option maxHeartbeats 1000000 in
set_option maxRecDepth 20000 in
theorem fillThing_none (w : World) (kb : Nat) (h : w.cell? ⟨kb, 8, none⟩ = some (.slice none 0 0)) :
    Calls Tryz.prog 57 #[.pointer (some ⟨kb, 0, none⟩)] w fun e w' => e = .returned (.tuple #[]) ∧ w = w' := by
  go_enter Tryz.func57, Tryz.ntmps57
  go_wp2
  go_loopw [2] (fun i wr => i = .int .i64 0 ∧ w = wr) (fun _ _ => 0)
  case atStart => exact ⟨rfl, rfl⟩
  case round =>
    obtain ⟨rfl, rfl⟩ := hrel
    go_wp2
    exact bodyPost_end (results_none rfl _ _ _) rfl ⟨rfl, rfl⟩
set_option maxHeartbeats 1000000 in
set_option maxRecDepth 20000 in
theorem growThing_none (w : World) (kb : Nat) (h : w.cell? ⟨kb, 8, none⟩ = some (.slice none 0 0)) :
    Calls Tryz.prog 65 #[.pointer (some ⟨kb, 0, none⟩)] w fun e w' => e = .returned (.tuple #[]) ∧ w = w' := by
  go_enter Tryz.func65, Tryz.ntmps65
  go_wp2
  go_loopw [2] (fun i wr => i = .int .i64 0 ∧ w = wr) (fun _ _ => 0)
  case atStart => exact ⟨rfl, rfl⟩
  case round =>
    obtain ⟨rfl, rfl⟩ := hrel
    go_wp2
    exact bodyPost_end (results_none rfl _ _ _) rfl ⟨rfl, rfl⟩
set_option maxHeartbeats 1000000 in
set_option maxRecDepth 20000 in
theorem lookThing_none (w : World) (kb : Nat) (h : w.cell? ⟨kb, 8, none⟩ = some (.slice none 0 0)) :
    Calls Tryz.prog 73 #[.pointer (some ⟨kb, 0, none⟩)] w fun e w' => e = .returned (.bool true) ∧ w = w' := by
  go_enter Tryz.func73, Tryz.ntmps73
  go_wp2
  go_loopw [3] (fun i wr => i = .int .i64 0 ∧ w = wr) (fun _ _ => 0)
  case atStart => exact ⟨rfl, rfl⟩
  case round =>
    obtain ⟨rfl, rfl⟩ := hrel
    go_wp2
    go_ret
    exact ⟨rfl, rfl⟩

set_option maxHeartbeats 4000000 in
set_option maxRecDepth 20000 in
theorem apart_c {w0 w : World} {r : List Thing} {kb : Nat} {n : Int} {vb vi : Value} {xs ys : List Hl} (H : Hp w0 w (BkB.Bkt vi kb n vb :: BkB.Rows_ vb (xs.map nil_) :: (xs.map BkB.Kp ++ (BkI.Rows_ vi (ys.map nil_) :: (ys.map BkI.Kp ++ r)))))
    (hx : ∀ h ∈ xs, (0 ≤ h.q ∧ h.q ≤ 100000) ∧ h.n < 100000) (hxl : xs.length < 100000) (hy : ∀ h ∈ ys, (0 ≤ h.q ∧ h.q ≤ 200) ∧ h.n < 100000) (hyl : ys.length < 100000) :
    Calls Tryz.prog 28 #[.pointer (some ⟨kb, 0, none⟩)] w fun e w' => e = .returned (.bool true) ∧ Below w0.heap.size w0 w' := by
  have FB := Lib.hid (BkB.fill_c H hx hxl)
  have FI := Lib.hid (fun (w : World) (r : List Thing) H => BkI.fill_c (w0 := w0) (w := w) (r := r) (vo := vb) (kb := kb) (n := n) (vb := vi) (xs := ys) H hy hyl)
  have GB := Lib.hid (fun (w : World) (r : List Thing) H => BkB.grow_c (w0 := w0) (w := w) (r := r) (vo := vi) (kb := kb) (n := n) (vb := vb) (xs := xs) H hx hxl)
  have GI := Lib.hid (fun (w : World) (r : List Thing) H => BkI.grow_c (w0 := w0) (w := w) (r := r) (vo := vb) (kb := kb) (n := n) (vb := vi) (xs := ys) H hy hyl)
  have LB := Lib.hid (fun (w : World) (r : List Thing) (zs : List Hr) (e : zs.map (·.l) = xs) H => BkB.look_c (w0 := w0) (w := w) (r := r) (vo := vi) (kb := kb) (n := n) (vb := vb) (ys := zs) H (fun x h => hx x.l (by rw [← e]; exact List.mem_map.2 ⟨x, h, rfl⟩)) (by rw [← e, List.length_map] at hxl; exact hxl))
  have LI := Lib.hid (fun (w : World) (r : List Thing) (zs : List Hr) (e : zs.map (·.l) = ys) H => BkI.look_c (w0 := w0) (w := w) (r := r) (vo := vb) (kb := kb) (n := n) (vb := vi) (ys := zs) H (fun x h => hy x.l (by rw [← e]; exact List.mem_map.2 ⟨x, h, rfl⟩)) (by rw [← e, List.length_map] at hyl; exact hyl))
  have hc := (BkB.bk_cells H).1
  have h2 : w.cell? ⟨kb, 2, none⟩ = some (.slice none 0 0) := hc 2
  have h3 : w.cell? ⟨kb, 3, none⟩ = some (.slice none 0 0) := hc 3
  have h4 : w.cell? ⟨kb, 4, none⟩ = some (.slice none 0 0) := hc 4
  have h6 : w.cell? ⟨kb, 6, none⟩ = some (.slice none 0 0) := hc 6
  have h7 : w.cell? ⟨kb, 7, none⟩ = some (.slice none 0 0) := hc 7
  have h8 : w.cell? ⟨kb, 8, none⟩ = some (.slice none 0 0) := hc 8
  clear hc hx hxl hy hyl H
  go_enter Tryz.func28, Tryz.ntmps28
  go_wp2_with fail
  clear h2 h3 h4 h6 h7 h8
  refine FB.out.mono ?_; rintro e w1 ⟨rfl, K⟩
  have H1 := Lib.hid K
  clear K
  have hc := (BkB.bk_cells H1.out).1
  have h2 : w1.cell? ⟨kb, 2, none⟩ = some (.slice none 0 0) := hc 2
  have h3 : w1.cell? ⟨kb, 3, none⟩ = some (.slice none 0 0) := hc 3
  have h4 : w1.cell? ⟨kb, 4, none⟩ = some (.slice none 0 0) := hc 4
  have h6 : w1.cell? ⟨kb, 6, none⟩ = some (.slice none 0 0) := hc 6
  have h7 : w1.cell? ⟨kb, 7, none⟩ = some (.slice none 0 0) := hc 7
  have h8 : w1.cell? ⟨kb, 8, none⟩ = some (.slice none 0 0) := hc 8
  clear hc
  go_wp2_with fail
  refine (fillWord_none _ kb h2).mono ?_; rintro e wz ⟨rfl, rfl⟩
  go_wp2_with fail
  refine (fillInt_none _ kb h3).mono ?_; rintro e wz ⟨rfl, rfl⟩
  go_wp2_with fail
  refine (fillText_none _ kb h4).mono ?_; rintro e wz ⟨rfl, rfl⟩
  go_wp2_with fail
  clear h2 h3 h4 h6 h7 h8
  refine (FI.out _ _ (Hp.perm H1.out perm_kinds)).mono ?_; rintro e w2 ⟨rfl, K⟩
  have H2 := Lib.hid K
  clear K
  have hc := (BkI.bk_cells H2.out).1
  have h2 : w2.cell? ⟨kb, 2, none⟩ = some (.slice none 0 0) := hc 2
  have h3 : w2.cell? ⟨kb, 3, none⟩ = some (.slice none 0 0) := hc 3
  have h4 : w2.cell? ⟨kb, 4, none⟩ = some (.slice none 0 0) := hc 4
  have h6 : w2.cell? ⟨kb, 6, none⟩ = some (.slice none 0 0) := hc 6
  have h7 : w2.cell? ⟨kb, 7, none⟩ = some (.slice none 0 0) := hc 7
  have h8 : w2.cell? ⟨kb, 8, none⟩ = some (.slice none 0 0) := hc 8
  clear hc
  go_wp2_with fail
  refine (fillAsk_none _ kb h6).mono ?_; rintro e wz ⟨rfl, rfl⟩
  go_wp2_with fail
  refine (fillTask_none _ kb h7).mono ?_; rintro e wz ⟨rfl, rfl⟩
  go_wp2_with fail
  refine (fillThing_none _ kb h8).mono ?_; rintro e wz ⟨rfl, rfl⟩
  go_wp2_with fail
  clear h2 h3 h4 h6 h7 h8
  refine (GB.out _ _ (Hp.perm H2.out perm_kinds)).mono ?_; rintro e w3 ⟨rfl, zs, hzs, K⟩
  have HZ := Lib.hid hzs
  clear hzs
  have H3 := Lib.hid K
  clear K
  have hc := (BkB.bk_cells H3.out).1
  have h2 : w3.cell? ⟨kb, 2, none⟩ = some (.slice none 0 0) := hc 2
  have h3 : w3.cell? ⟨kb, 3, none⟩ = some (.slice none 0 0) := hc 3
  have h4 : w3.cell? ⟨kb, 4, none⟩ = some (.slice none 0 0) := hc 4
  have h6 : w3.cell? ⟨kb, 6, none⟩ = some (.slice none 0 0) := hc 6
  have h7 : w3.cell? ⟨kb, 7, none⟩ = some (.slice none 0 0) := hc 7
  have h8 : w3.cell? ⟨kb, 8, none⟩ = some (.slice none 0 0) := hc 8
  clear hc
  go_wp2_with fail
  refine (growWord_none _ kb h2).mono ?_; rintro e wz ⟨rfl, rfl⟩
  go_wp2_with fail
  refine (growInt_none _ kb h3).mono ?_; rintro e wz ⟨rfl, rfl⟩
  go_wp2_with fail
  refine (growText_none _ kb h4).mono ?_; rintro e wz ⟨rfl, rfl⟩
  go_wp2_with fail
  clear h2 h3 h4 h6 h7 h8
  refine (GI.out _ _ (Hp.perm H3.out perm_kinds)).mono ?_; rintro e w4 ⟨rfl, us, hus, K⟩
  have HU := Lib.hid hus
  clear hus
  have H4 := Lib.hid K
  clear K
  have hc := (BkI.bk_cells H4.out).1
  have h2 : w4.cell? ⟨kb, 2, none⟩ = some (.slice none 0 0) := hc 2
  have h3 : w4.cell? ⟨kb, 3, none⟩ = some (.slice none 0 0) := hc 3
  have h4 : w4.cell? ⟨kb, 4, none⟩ = some (.slice none 0 0) := hc 4
  have h6 : w4.cell? ⟨kb, 6, none⟩ = some (.slice none 0 0) := hc 6
  have h7 : w4.cell? ⟨kb, 7, none⟩ = some (.slice none 0 0) := hc 7
  have h8 : w4.cell? ⟨kb, 8, none⟩ = some (.slice none 0 0) := hc 8
  clear hc
  go_wp2_with fail
  refine (growAsk_none _ kb h6).mono ?_; rintro e wz ⟨rfl, rfl⟩
  go_wp2_with fail
  refine (growTask_none _ kb h7).mono ?_; rintro e wz ⟨rfl, rfl⟩
  go_wp2_with fail
  refine (growThing_none _ kb h8).mono ?_; rintro e wz ⟨rfl, rfl⟩
  go_wp2_with fail
  clear h2 h3 h4 h6 h7 h8
  refine (LB.out _ _ zs HZ.out (Hp.perm H4.out perm_kinds)).mono ?_; rintro e w5 ⟨rfl, K⟩
  have H5 := Lib.hid K
  clear K
  have hc := (BkB.bk_cells H5.out).1
  have h2 : w5.cell? ⟨kb, 2, none⟩ = some (.slice none 0 0) := hc 2
  have h3 : w5.cell? ⟨kb, 3, none⟩ = some (.slice none 0 0) := hc 3
  have h4 : w5.cell? ⟨kb, 4, none⟩ = some (.slice none 0 0) := hc 4
  have h6 : w5.cell? ⟨kb, 6, none⟩ = some (.slice none 0 0) := hc 6
  have h7 : w5.cell? ⟨kb, 7, none⟩ = some (.slice none 0 0) := hc 7
  have h8 : w5.cell? ⟨kb, 8, none⟩ = some (.slice none 0 0) := hc 8
  clear hc
  go_wp2_with fail
  refine (lookWord_none _ kb h2).mono ?_; rintro e wz ⟨rfl, rfl⟩
  go_wp2_with fail
  refine (lookInt_none _ kb h3).mono ?_; rintro e wz ⟨rfl, rfl⟩
  go_wp2_with fail
  refine (lookText_none _ kb h4).mono ?_; rintro e wz ⟨rfl, rfl⟩
  go_wp2_with fail
  clear h2 h3 h4 h6 h7 h8
  refine (LI.out _ _ us HU.out (Hp.perm H5.out perm_kinds)).mono ?_; rintro e w6 ⟨rfl, K⟩
  have H6 := Lib.hid K
  clear K
  have hc := (BkI.bk_cells H6.out).1
  have h2 : w6.cell? ⟨kb, 2, none⟩ = some (.slice none 0 0) := hc 2
  have h3 : w6.cell? ⟨kb, 3, none⟩ = some (.slice none 0 0) := hc 3
  have h4 : w6.cell? ⟨kb, 4, none⟩ = some (.slice none 0 0) := hc 4
  have h6 : w6.cell? ⟨kb, 6, none⟩ = some (.slice none 0 0) := hc 6
  have h7 : w6.cell? ⟨kb, 7, none⟩ = some (.slice none 0 0) := hc 7
  have h8 : w6.cell? ⟨kb, 8, none⟩ = some (.slice none 0 0) := hc 8
  clear hc
  go_wp2_with fail
  refine (lookAsk_none _ kb h6).mono ?_; rintro e wz ⟨rfl, rfl⟩
  go_wp2_with fail
  refine (lookTask_none _ kb h7).mono ?_; rintro e wz ⟨rfl, rfl⟩
  go_wp2_with fail
  refine (lookThing_none _ kb h8).mono ?_; rintro e wz ⟨rfl, rfl⟩
  go_wp2
  go_ret
  exact ⟨rfl, H6.out.below⟩
end Go.Proofs.YtijkkompnfpdeaaGreatDoor
set_option linter.unusedVariables false
set_option linter.unusedSimpArgs false
namespace Go.Proofs.YtijkkompnfpdeaaGreatDoor
open Go.RowKit Go.Joins Go.Shelf
attribute [local go_sem] Oper.semAt_some

abbrev m254 : List Value := [.int .u8 254, .int .u8 0, .int .u8 0, .int .u8 0]
abbrev OwnTN (g cap : Nat) (xs : List I4) : Thing := Own 26 4 (.slice (some ⟨g, 0, none⟩) (xs.length + 1) cap) (xs.length + 1) (ics xs ++ m254)
theorem ownTN_cut {w0 w : World} {r : List Thing} {g cap : Nat} {xs : List I4} (H : Hp w0 w (OwnTN g cap xs :: r)) : Hp w0 w (OwnN (.slice (some ⟨g, 0, none⟩) xs.length cap) xs :: r) := by
  have := own_cut xs.length (Nat.le_succ _) H
  rw [List.take_append_of_le_length (by rw [ics_len]; exact Nat.le_refl _), List.take_of_length_le (by rw [ics_len]; exact Nat.le_refl _)] at this
  exact this
set_option maxHeartbeats 4000000 in
set_option maxRecDepth 20000 in
theorem twin_instrs (a : Option Addr) (c : Nat) (xs : List I4) (w : World) (hx : CellsIn w a (ics xs)) (hl : xs.length < 900000) :
    Calls Tryz.prog 39 #[.slice a xs.length c] w fun e w' => ∃ g cap, e = .returned (.slice (some ⟨g, 0, none⟩) xs.length cap) ∧ Hp w w' [OwnTN g cap xs] := by
  have H0 := Lib.hid (Hp.start w)
  have HX := Lib.hid hx
  have HL := Lib.hid hl
  obtain ⟨i0, hi, hz0, hz1, hz2⟩ := info_parts info_ins
  have hw1 : IntKind.i64.wrap ((xs.length : Int) + 1) = (xs.length : Int) + 1 := by rw [IntKind.wrap_i64]; omega
  clear hx
  go_enter Tryz.func39, Tryz.ntmps39
  go_wp2_with (refine wpList_make_hp rfl _ (.tmp 7) 27 rfl 26 i0 _ 4 4 Tryz.underlying27 hi hz0 hz1 hz2 H0.out .i64 .i64 _ (xs.length + 1) rfl rfl (by omega) (by omega) (by omega) ?_; intro w1 H1'; have H1 := Lib.hid H1'; clear H1' H0)
  clear hw1 hl
  go_loopw [3, 4] (fun s3 s4 wr => ∃ k : Nat, k ≤ xs.length ∧ s4 = .int .i64 k ∧ Hid (Hp w wr [Own 26 4 s3 k (ics (xs.take k))])) (fun _ s4 _ => xs.length - (intOf s4).toNat)
  case atStart => exact ⟨0, Nat.zero_le _, rfl, H1⟩
  case round =>
    obtain ⟨k, hk, rfl, hH⟩ := hrel
    clear H1
    obtain ⟨a3, c3, rfl⟩ := own_slice hH.out
    by_cases hlt : k < xs.length
    · obtain ⟨g, o, rfl, c0, c1, c2, c3⟩ := ins_cells (HX.out.hp hH.out) hlt
      have hkw : IntKind.i64.wrap ((k : Int) + 1) = (k : Int) + 1 := by rw [IntKind.wrap_i64]; have := HL.out; omega
      have hst := Lib.hid (show (ics (xs.take k) ++ i4c xs[k] : List Value) = ics (xs.take (k + 1)) by rw [List.take_succ_eq_append_getElem hlt, BkI.ics_app]; congr 1)
      have HLT := Lib.hid hlt
      generalize xs[k] = x at *
      obtain ⟨yo, ya, yb, yc⟩ := x
      simp only at c0 c1 c2 c3
      go_wp2_with (at_builtin; refine wpList_append_hp rfl (.tmp 15) (.tmp 20) 27 rfl 26 i0 _ 4 4 Tryz.underlying27 hi hz0 hz1 hz2 rfl (by decide) (hH.out.alloc _) rfl ⟨wr.heap.size, 0, none⟩ 1 1 (i4c (yo, ya, yb, yc)) rfl rfl (blk_newsU (l := i4c (yo, ya, yb, yc)) (blk_alloc_new wr _)) (by simp [Value.oneCell', bv, i4c]) (by have := HLT.out; have := HL.out; omega) (by omega) ?_; intro v' w2 HA0)
      have HA : Hid (Hp w w2 [Own 26 4 v' (k + 1) (ics (xs.take (k + 1)))]) := Lib.hid (by rw [← hst.out]; exact HA0)
      obtain ⟨a4, c4, rfl⟩ := own_slice HA0
      clear HA0 hH c0 c1 c2 c3
      go_wp2
      go_roundw
      case rel => exact ⟨k + 1, by have := HLT.out; omega, by go_num, HA⟩
      case measure => have := HLT.out; simp [intOf]; omega
    · obtain rfl : k = xs.length := by omega
      have hH2 : Hid (Hp w wr [Own 26 4 (.slice a3 xs.length c3) xs.length (ics xs)]) := Lib.hid (by have := hH.out; rwa [List.take_length] at this)
      clear hH
      go_wp2_with (at_builtin; refine wpList_append_hp rfl (.tmp 22) (.tmp 24) 27 rfl 26 i0 _ 4 4 Tryz.underlying27 hi hz0 hz1 hz2 rfl (by decide) (hH2.out.alloc _) rfl ⟨wr.heap.size, 0, none⟩ 1 1 m254 rfl rfl (blk_newsU (l := m254) (blk_alloc_new wr _)) (by simp [Value.oneCell', m254]) (by have := HL.out; omega) (by omega) ?_; intro v' w2 HA0; obtain ⟨g, cap, rfl⟩ := Go.Joins.ownsRow_form (own_get HA0) (by omega); have hcap := own_capn HA0; have hc2 : (xs.length : Int) ≤ (cap : Int) := by omega)
      have HA := Lib.hid HA0
      clear HA0 hH2
      go_wp2
      go_ret
      exact ⟨g, cap, rfl, HA.out⟩
set_option maxHeartbeats 4000000 in
set_option maxRecDepth 20000 in
theorem left_bytes (w : World) (g cap : Nat) (a : Option Addr) (c : Nat) (xs : List UInt8) (ht : CellsIn w (some ⟨g, 0, none⟩) (xs.map bv ++ [.int .u8 77])) (hcap : xs.length < cap) (ha : CellsIn w a (xs.map bv)) (hl : xs.length < 900000) :
    Calls Tryz.prog 41 #[.slice (some ⟨g, 0, none⟩) xs.length cap, .slice a xs.length c] w fun e w' => e = .returned (.bool true) ∧ Below w.heap.size w w' := by
  have H0 := Lib.hid (Hp.start w)
  have HT := Lib.hid ht
  have HA := Lib.hid ha
  have HL := Lib.hid hl
  have d1 : decide ((cap : Int) ≤ (xs.length : Int)) = false := by simp; omega
  have hc2 : (xs.length : Int) + 1 ≤ (cap : Int) := by omega
  have hw1 : IntKind.i64.wrap ((xs.length : Int) + 1) = (xs.length : Int) + 1 := by rw [IntKind.wrap_i64]; omega
  clear ht ha hcap hl
  go_enter Tryz.func41, Tryz.ntmps41
  go_wp2
  go_loopw [5] (fun s5 wr => ∃ k : Nat, k ≤ xs.length ∧ s5 = .int .i64 k ∧ Hid (Hp w wr [])) (fun s5 _ => xs.length - (intOf s5).toNat)
  case atStart => exact ⟨0, Nat.zero_le _, rfl, H0⟩
  case round =>
    obtain ⟨k, hk, rfl, hH⟩ := hrel
    clear H0
    by_cases hlt : k < xs.length
    · obtain ⟨g1, o1, rfl, c0⟩ := byte_cell (HA.out.hp hH.out) hlt
      obtain ⟨g2, o2, e2, c1⟩ := (HT.out.hp hH.out) k (by simp; omega)
      cases e2
      rw [List.getElem_append_left (by simpa using hlt), List.getElem_map, Nat.zero_add] at c1
      have hkw : IntKind.i64.wrap ((k : Int) + 1) = (k : Int) + 1 := by rw [IntKind.wrap_i64]; have := HL.out; omega
      have j1 : (k : Int) < (xs.length : Int) := by omega
      have HLT := Lib.hid hlt
      generalize xs[k] = x at *
      go_upto_region 6 with fail
      go_quiet (fail)
      go_wp2
      go_roundw
      case rel => exact ⟨k + 1, by have := HLT.out; omega, by go_num, Lib.hid (hH.out.drewN _)⟩
      case measure => have := HLT.out; simp [intOf]; omega
    · obtain rfl : k = xs.length := by omega
      obtain ⟨g2, o2, e2, c1⟩ := (HT.out.hp hH.out) xs.length (by simp)
      cases e2
      rw [List.getElem_append_right (by simp), Nat.zero_add] at c1
      simp only [List.length_map, Nat.sub_self, List.getElem_cons_zero] at c1
      have j1 : ¬ (xs.length : Int) < (xs.length : Int) := by omega
      clear hk hlt
      go_wp2
      go_ret
      exact ⟨rfl, hH.out.below⟩
set_option maxHeartbeats 4000000 in
set_option maxRecDepth 20000 in
theorem left_instrs (w : World) (g cap : Nat) (a : Option Addr) (c : Nat) (xs : List I4) (ht : CellsIn w (some ⟨g, 0, none⟩) (ics xs ++ m254)) (hcap : xs.length < cap) (ha : CellsIn w a (ics xs)) (hl : xs.length < 900000) :
    Calls Tryz.prog 42 #[.slice (some ⟨g, 0, none⟩) xs.length cap, .slice a xs.length c] w fun e w' => e = .returned (.bool true) ∧ Below w.heap.size w w' := by
  have H0 := Lib.hid (Hp.start w)
  have HT := Lib.hid ht
  have HA := Lib.hid ha
  have HL := Lib.hid hl
  have d1 : decide ((cap : Int) ≤ (xs.length : Int)) = false := by simp; omega
  have hc2 : (xs.length : Int) + 1 ≤ (cap : Int) := by omega
  have hw1 : IntKind.i64.wrap ((xs.length : Int) + 1) = (xs.length : Int) + 1 := by rw [IntKind.wrap_i64]; omega
  clear ht ha hcap hl
  go_enter Tryz.func42, Tryz.ntmps42
  go_wp2
  go_loopw [5] (fun s5 wr => ∃ k : Nat, k ≤ xs.length ∧ s5 = .int .i64 k ∧ Hid (Hp w wr [])) (fun s5 _ => xs.length - (intOf s5).toNat)
  case atStart => exact ⟨0, Nat.zero_le _, rfl, H0⟩
  case round =>
    obtain ⟨k, hk, rfl, hH⟩ := hrel
    clear H0
    have hil := ics_len xs
    by_cases hlt : k < xs.length
    · obtain ⟨g1, o1, rfl, c0, c1, c2, c3⟩ := ins_cells (HA.out.hp hH.out) hlt
      have hTX : CellsIn w (some ⟨g, 0, none⟩) (ics xs) := fun j hj => by
        obtain ⟨g2, o2, e2, h2⟩ := HT.out j (by rw [List.length_append]; omega)
        rw [List.getElem_append_left hj] at h2
        exact ⟨g2, o2, e2, h2⟩
      obtain ⟨g2, o2, e2, y0, y1, y2, y3⟩ := ins_cells (hTX.hp hH.out) hlt
      cases e2
      simp only [Nat.zero_add] at y0 y1 y2 y3
      have hkw : IntKind.i64.wrap ((k : Int) + 1) = (k : Int) + 1 := by rw [IntKind.wrap_i64]; have := HL.out; omega
      have j1 : (k : Int) < (xs.length : Int) := by omega
      have HLT := Lib.hid hlt
      clear hil hTX
      generalize xs[k] = x at *
      go_upto_region 6 with fail
      go_quiet (fail)
      go_wp2
      go_roundw
      case rel => exact ⟨k + 1, by have := HLT.out; omega, by go_num, Lib.hid (hH.out.drewN _)⟩
      case measure => have := HLT.out; simp [intOf]; omega
    · obtain rfl : k = xs.length := by omega
      have key : ∀ o (ho : o < 4), wr.cell? ⟨g, xs.length * 4 + o, none⟩ = m254[o]? := fun o ho => by
        obtain ⟨g2, o2, e2, h2⟩ := (HT.out.hp hH.out) (xs.length * 4 + o) (by rw [List.length_append, hil]; simp; omega)
        cases e2
        rw [List.getElem_append_right (by omega), Nat.zero_add] at h2
        rw [h2]
        have : xs.length * 4 + o - (ics xs).length = o := by omega
        rw [List.getElem?_eq_getElem (by simpa using ho)]
        congr 1
        simp only [this]
      have c0 : wr.cell? ⟨g, xs.length * 4, none⟩ = some (.int .u8 254) := key 0 (by omega)
      have c1 : wr.cell? ⟨g, xs.length * 4 + 1, none⟩ = some (.int .u8 0) := key 1 (by omega)
      have c2 : wr.cell? ⟨g, xs.length * 4 + 2, none⟩ = some (.int .u8 0) := key 2 (by omega)
      have c3 : wr.cell? ⟨g, xs.length * 4 + 3, none⟩ = some (.int .u8 0) := key 3 (by omega)
      have j1 : ¬ (xs.length : Int) < (xs.length : Int) := by omega
      have HB := Lib.hid (hH.out.alloc (.cells #[.int .u8 254, .int .u8 0, .int .u8 0, .int .u8 0] 26))
      clear hk hlt key hil
      go_wp2
      go_ret
      exact ⟨rfl, HB.out.below⟩
set_option maxHeartbeats 4000000 in
set_option maxRecDepth 20000 in
theorem twin_image (n : Int) (ad ac : Option Addr) (dc cc : Nat) (d : List UInt8) (c : List I4) (w : World) (hd : CellsIn w ad (d.map bv)) (hc : CellsIn w ac (ics c)) (hdl : d.length < 900000) (hcl : c.length < 900000) :
    Calls Tryz.prog 15 #[imV n ad d.length dc ac c.length cc] w fun e w' => ∃ g p g' p', e = .returned (imV n (some ⟨g, 0, none⟩) d.length p (some ⟨g', 0, none⟩) c.length p') ∧ Hp w w' [OwnTN g' p' c, OwnT g p d] := by
  have HD := Lib.hid hd
  have HC := Lib.hid hc
  have HL := Lib.hid (And.intro hdl hcl)
  have HK := Lib.hid ((blk_new_at (blk_new (Hp.start w) (.cells #[.int .i64 n, .slice ad d.length dc, .slice ac c.length cc] 29)) (.cells zI 29) (w.heap.size + 1) (size_alloc1 _ _)))
  clear hd hc hdl hcl
  go_enter Tryz.func15, Tryz.ntmps15
  go_upto_region 1 with fail
  obtain ⟨x0, x1, x2⟩ := im_cells (HK.out.pull 1 rfl)
  generalize ((w.alloc (.cells #[.int .i64 n, .slice ad d.length dc, .slice ac c.length cc] 29)).alloc (.cells zI 29)) = w1 at *
  generalize w.heap.size = xb at *
  have z0 : w1.cell? ⟨xb + 1, 0, none⟩ = some (.int .i64 0) := cell_blk (blk_get HK.out) 0
  have z1 : w1.cell? ⟨xb + 1, 1, none⟩ = some (.slice none 0 0) := cell_blk (blk_get HK.out) 1
  have z2 : w1.cell? ⟨xb + 1, 2, none⟩ = some (.slice none 0 0) := cell_blk (blk_get HK.out) 2
  have e0 := free_blk (blk_get HK.out) 0
  have e1 := free_blk (blk_get HK.out) 1
  have e2 := free_blk (blk_get HK.out) 2
  go_region_held3 (fun x => x.cell? ⟨xb, 0, none⟩ = some (.int .i64 n) ∧ x.cell? ⟨xb, 1, none⟩ = some (.slice ad d.length dc) ∧ x.cell? ⟨xb, 2, none⟩ = some (.slice ac c.length cc)) (first | exact ⟨x0, x1, x2⟩ | exact im_cells ((set3 (HK.out.pull 2 rfl) _ _ _).pull 3 rfl)) (first | (go_at_call 38; refine (twin_bytes ad dc d _ (HD.out.hp (by first | exact HK.out | exact HK.out.drew)) HL.out.1).mono ?_; rintro e wz ⟨g, p, rfl, K⟩; have HK := Lib.hid ((by first | exact HK.out.lift K | exact HK.out.drew.lift K : Hp w wz [OwnT g p d, Blk (xb + 1) (.cells zI 29 (0, 0)), IM xb n (.slice ad d.length dc) (.slice ac c.length cc)])); clear K; obtain ⟨x0, x1, x2⟩ := im_cells (HK.out.pull 2 rfl)) | (go_at_call 39; refine (twin_instrs ac cc c _ (HC.out.hp (by first | exact HK.out | exact HK.out.drew)) HL.out.2).mono ?_; rintro e wz ⟨g', p', rfl, K⟩; have HK := Lib.hid ((by first | exact HK.out.lift K | exact HK.out.drew.lift K : Hp w wz [OwnTN g' p' c, OwnT g p d, Blk (xb + 1) (.cells zI 29 (0, 0)), IM xb n (.slice ad d.length dc) (.slice ac c.length cc)])); clear K; obtain ⟨x0, x1, x2⟩ := im_cells (HK.out.pull 3 rfl); have z0 : wz.cell? ⟨xb + 1, 0, none⟩ = some (.int .i64 0) := cell_blk (blk_get (HK.out.pull 2 rfl)) 0; have z1 : wz.cell? ⟨xb + 1, 1, none⟩ = some (.slice none 0 0) := cell_blk (blk_get (HK.out.pull 2 rfl)) 1; have z2 : wz.cell? ⟨xb + 1, 2, none⟩ = some (.slice none 0 0) := cell_blk (blk_get (HK.out.pull 2 rfl)) 2; have e0 := free_blk (blk_get (HK.out.pull 2 rfl)) 0; have e1 := free_blk (blk_get (HK.out.pull 2 rfl)) 1; have e2 := free_blk (blk_get (HK.out.pull 2 rfl)) 2))
  all_goals
    have HF := Lib.hid (set3 (HK.out.pull 2 rfl) (.int .i64 n) (.slice (some ⟨g, 0, none⟩) d.length p) (.slice (some ⟨g', 0, none⟩) c.length p'))
    go_wp2
    exact bodyPost_ret (results_cell_row rfl _ _ (xb + 1) _ _ _ _ rfl (blk_get HF.out) Tryz.underlying29 rfl im_info) rfl ⟨g, p, g', p', rfl, Hp.take HF.out.tail 2⟩
set_option maxHeartbeats 4000000 in
set_option maxRecDepth 20000 in
theorem left_image (n : Int) (ad ac : Option Addr) (dc cc g p g' p' : Nat) (d : List UInt8) (c : List I4) (w : World) (hd : CellsIn w ad (d.map bv)) (hc : CellsIn w ac (ics c)) (ht : CellsIn w (some ⟨g, 0, none⟩) (d.map bv ++ [.int .u8 77])) (hp : d.length < p) (ht' : CellsIn w (some ⟨g', 0, none⟩) (ics c ++ m254)) (hp' : c.length < p') (hdl : d.length < 900000) (hcl : c.length < 900000) :
    Calls Tryz.prog 17 #[imV n (some ⟨g, 0, none⟩) d.length p (some ⟨g', 0, none⟩) c.length p', imV n ad d.length dc ac c.length cc] w fun e w' => e = .returned (.bool true) ∧ Below w.heap.size w w' := by
  have H1 := Lib.hid (blk_new_at (blk_new (Hp.start w) (.cells #[.int .i64 n, .slice (some ⟨g, 0, none⟩) d.length p, .slice (some ⟨g', 0, none⟩) c.length p'] 29)) (.cells #[.int .i64 n, .slice ad d.length dc, .slice ac c.length cc] 29) (w.heap.size + 1) (size_alloc1 _ _))
  have C1 : Hid (∀ W, Hp w W [] → Calls Tryz.prog 41 #[.slice (some ⟨g, 0, none⟩) d.length p, .slice ad d.length dc] W fun e' w' => e' = .returned (.bool true) ∧ Below W.heap.size W w') := Lib.hid (fun W h => left_bytes W g p ad dc d (ht.hp h) hp (hd.hp h) hdl)
  have C2 : Hid (∀ W, Hp w W [] → Calls Tryz.prog 42 #[.slice (some ⟨g', 0, none⟩) c.length p', .slice ac c.length cc] W fun e' w' => e' = .returned (.bool true) ∧ Below W.heap.size W w') := Lib.hid (fun W h => left_instrs W g' p' ac cc c (ht'.hp h) hp' (hc.hp h) hcl)
  clear hd hc ht ht' hp hp' hdl hcl
  go_enter Tryz.func17, Tryz.ntmps17
  go_upto_region 1 with fail
  obtain ⟨x0, x1, x2⟩ := im_cells (H1.out.pull 1 rfl)
  obtain ⟨y0, y1, y2⟩ := im_cells H1.out
  generalize ((w.alloc (.cells #[.int .i64 n, .slice (some ⟨g, 0, none⟩) d.length p, .slice (some ⟨g', 0, none⟩) c.length p'] 29)).alloc (.cells #[.int .i64 n, .slice ad d.length dc, .slice ac c.length cc] 29)) = w1 at *
  go_wp2_with fail
  refine (C1.out _ ⟨H1.out.below, trivial⟩).mono ?_; rintro e' w2 ⟨rfl, hb⟩
  have H2 := Lib.hid (H1.out.below_read hb)
  clear hb C1 H1 x0 x1 x2 y0 y1 y2
  obtain ⟨x0, x1, x2⟩ := im_cells (H2.out.pull 1 rfl)
  obtain ⟨y0, y1, y2⟩ := im_cells H2.out
  go_wp2_with fail
  refine (C2.out _ ⟨H2.out.below, trivial⟩).mono ?_; rintro e' w3 ⟨rfl, hb⟩
  have H3 := Lib.hid (H2.out.below_read hb)
  clear hb C2 H2 x0 x1 x2 y0 y1 y2
  go_wp2
  go_ret
  exact ⟨rfl, H3.out.below⟩
/-- The book is told an image. -/
theorem perm_two {b p q x : Thing} {r : List Thing} : (b :: p :: q :: x :: r).Perm (b :: q :: p :: x :: r) := List.Perm.cons b (List.Perm.swap q p _)
set_option maxHeartbeats 4000000 in
set_option maxRecDepth 20000 in
theorem kimage_c {w0 w : World} {r : List Thing} {kb : Nat} {n : Int} {vb vi : Value} {xs ys : List Hr} (m : Int) (ad ac : Option Addr) (dl dc cl cc : Nat) (H : Hp w0 w (BkB.Bkt vi kb n vb :: BkB.Rows_ vb xs :: BkI.Rows_ vi ys :: r)) (hn : 0 ≤ n ∧ n < 1000) (hx : xs.length < 1000) (hy : ys.length < 1000) :
    Calls Tryz.prog 26 #[.pointer (some ⟨kb, 0, none⟩), imV m ad dl dc ac cl cc] w fun e w' => e = .returned (.tuple #[]) ∧ ∃ vb' vi', Hp w0 w' (BkB.Bkt vi' kb (n + 1 + 1) vb' :: BkB.Rows_ vb' (xs ++ [⟨⟨.slice ad dl dc, dl, n + 1⟩, .slice none 0 0⟩]) :: BkI.Rows_ vi' (ys ++ [⟨⟨.slice ac cl cc, cl, n + 1 + 1⟩, .slice none 0 0⟩]) :: r) := by
  have H1 := Lib.hid ((blk_new H (.cells #[.int .i64 m, .slice ad dl dc, .slice ac cl cc] 29)).up1.pull 0 rfl)
  have H2 := Lib.hid (Hp.perm H1.out (List.Perm.cons _ ((List.Perm.swap _ _ _).trans (List.Perm.cons _ (List.Perm.swap _ _ _)))))
  obtain ⟨x0, x1, x2⟩ := im_cells (H2.out.pull 3 rfl)
  have KB := Lib.hid (BkB.ints_c ad dl dc H2.out (by omega) (by omega))
  clear H H1
  go_enter Tryz.func26, Tryz.ntmps26
  go_wp2_with fail
  refine KB.out.mono ?_; rintro e w2 ⟨rfl, vb', K⟩
  have H3 := Lib.hid K
  clear KB K H2 x0 x1 x2
  obtain ⟨x0, x1, x2⟩ := im_cells (H3.out.pull 3 rfl)
  have H4 := Lib.hid (Hp.perm H3.out (perm_two))
  have KI := Lib.hid (BkI.ints_c (vo := vb') ac cl cc H4.out (by omega) (by omega))
  go_wp2_with fail
  refine KI.out.mono ?_; rintro e w3 ⟨rfl, vi', K⟩
  clear KI H3 H4 x0 x1 x2
  have H5 := Lib.hid (Hp.perm K perm_two)
  clear K
  go_wp2
  exact bodyPost_end (results_none rfl _ _ _) rfl ⟨rfl, vb', vi', (H5.out.pull 3 rfl).tail⟩
end Go.Proofs.YtijkkompnfpdeaaGreatDoor
