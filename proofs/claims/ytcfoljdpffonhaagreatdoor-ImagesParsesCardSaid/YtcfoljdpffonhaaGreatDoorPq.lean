/- The book: lists of bytes and of instructions are kept; all are apart. -/
import Derived.Test.YtcfoljdpffonhaaGreatDoorPb
import Derived.Test.YtcfoljdpffonhaaGreatDoorNi
set_option linter.unusedVariables false
set_option linter.unusedSimpArgs false
namespace Go.Proofs.YtcfoljdpffonhaaGreatDoor
open Go.RowKit Go.Shelf
attribute [local go_sem] Oper.semAt_some

theorem perm_kinds {b p q : Thing} {X Y r : List Thing} : (b :: p :: (X ++ (q :: (Y ++ r)))).Perm (b :: q :: (Y ++ (p :: (X ++ r)))) := by
  refine List.Perm.cons b ?_
  have := List.perm_append_comm_assoc (p :: X) (q :: Y) r
  simp only [List.cons_append] at this
  refine List.Perm.trans this ?_
  refine List.Perm.cons q (List.Perm.append_left Y ?_)
  exact List.Perm.refl _

set_option maxHeartbeats 1000000 in
set_option maxRecDepth 20000 in
theorem fillWord_none (w : World) (kb : Nat) (h : w.cell? ⟨kb, 2, none⟩ = some (.slice none 0 0)) :
    Calls Tryz.prog 39 #[.pointer (some ⟨kb, 0, none⟩)] w fun e w' => e = .returned (.tuple #[]) ∧ w = w' := by
  go_enter Tryz.func39, Tryz.ntmps39
  go_wp2
  go_loopw [2] (fun i wr => i = .int .i64 0 ∧ w = wr) (fun _ _ => 0)
  case atStart => exact ⟨rfl, rfl⟩
  case round =>
    obtain ⟨rfl, rfl⟩ := hrel
    go_wp2
    exact bodyPost_end (results_none rfl _ _ _) rfl ⟨rfl, rfl⟩
set_option maxHeartbeats 1000000 in
set_option maxRecDepth 20000 in
theorem growWord_none (w : World) (kb : Nat) (h : w.cell? ⟨kb, 2, none⟩ = some (.slice none 0 0)) :
    Calls Tryz.prog 47 #[.pointer (some ⟨kb, 0, none⟩)] w fun e w' => e = .returned (.tuple #[]) ∧ w = w' := by
  go_enter Tryz.func47, Tryz.ntmps47
  go_wp2
  go_loopw [2] (fun i wr => i = .int .i64 0 ∧ w = wr) (fun _ _ => 0)
  case atStart => exact ⟨rfl, rfl⟩
  case round =>
    obtain ⟨rfl, rfl⟩ := hrel
    go_wp2
    exact bodyPost_end (results_none rfl _ _ _) rfl ⟨rfl, rfl⟩
set_option maxHeartbeats 1000000 in
set_option maxRecDepth 20000 in
theorem lookWord_none (w : World) (kb : Nat) (h : w.cell? ⟨kb, 2, none⟩ = some (.slice none 0 0)) :
    Calls Tryz.prog 55 #[.pointer (some ⟨kb, 0, none⟩)] w fun e w' => e = .returned (.bool true) ∧ w = w' := by
  go_enter Tryz.func55, Tryz.ntmps55
  go_wp2
  go_loopw [3] (fun i wr => i = .int .i64 0 ∧ w = wr) (fun _ _ => 0)
  case atStart => exact ⟨rfl, rfl⟩
  case round =>
    obtain ⟨rfl, rfl⟩ := hrel
    go_wp2
    go_ret
    exact ⟨rfl, rfl⟩
set_option maxHeartbeats 1000000 in
set_option maxRecDepth 20000 in
theorem fillInt_none (w : World) (kb : Nat) (h : w.cell? ⟨kb, 3, none⟩ = some (.slice none 0 0)) :
    Calls Tryz.prog 40 #[.pointer (some ⟨kb, 0, none⟩)] w fun e w' => e = .returned (.tuple #[]) ∧ w = w' := by
  go_enter Tryz.func40, Tryz.ntmps40
  go_wp2
  go_loopw [2] (fun i wr => i = .int .i64 0 ∧ w = wr) (fun _ _ => 0)
  case atStart => exact ⟨rfl, rfl⟩
  case round =>
    obtain ⟨rfl, rfl⟩ := hrel
    go_wp2
    exact bodyPost_end (results_none rfl _ _ _) rfl ⟨rfl, rfl⟩
set_option maxHeartbeats 1000000 in
set_option maxRecDepth 20000 in
theorem growInt_none (w : World) (kb : Nat) (h : w.cell? ⟨kb, 3, none⟩ = some (.slice none 0 0)) :
    Calls Tryz.prog 48 #[.pointer (some ⟨kb, 0, none⟩)] w fun e w' => e = .returned (.tuple #[]) ∧ w = w' := by
  go_enter Tryz.func48, Tryz.ntmps48
  go_wp2
  go_loopw [2] (fun i wr => i = .int .i64 0 ∧ w = wr) (fun _ _ => 0)
  case atStart => exact ⟨rfl, rfl⟩
  case round =>
    obtain ⟨rfl, rfl⟩ := hrel
    go_wp2
    exact bodyPost_end (results_none rfl _ _ _) rfl ⟨rfl, rfl⟩
set_option maxHeartbeats 1000000 in
set_option maxRecDepth 20000 in
theorem lookInt_none (w : World) (kb : Nat) (h : w.cell? ⟨kb, 3, none⟩ = some (.slice none 0 0)) :
    Calls Tryz.prog 56 #[.pointer (some ⟨kb, 0, none⟩)] w fun e w' => e = .returned (.bool true) ∧ w = w' := by
  go_enter Tryz.func56, Tryz.ntmps56
  go_wp2
  go_loopw [3] (fun i wr => i = .int .i64 0 ∧ w = wr) (fun _ _ => 0)
  case atStart => exact ⟨rfl, rfl⟩
  case round =>
    obtain ⟨rfl, rfl⟩ := hrel
    go_wp2
    go_ret
    exact ⟨rfl, rfl⟩
set_option maxHeartbeats 1000000 in
set_option maxRecDepth 20000 in
theorem fillText_none (w : World) (kb : Nat) (h : w.cell? ⟨kb, 4, none⟩ = some (.slice none 0 0)) :
    Calls Tryz.prog 41 #[.pointer (some ⟨kb, 0, none⟩)] w fun e w' => e = .returned (.tuple #[]) ∧ w = w' := by
  go_enter Tryz.func41, Tryz.ntmps41
  go_wp2
  go_loopw [2] (fun i wr => i = .int .i64 0 ∧ w = wr) (fun _ _ => 0)
  case atStart => exact ⟨rfl, rfl⟩
  case round =>
    obtain ⟨rfl, rfl⟩ := hrel
    go_wp2
    exact bodyPost_end (results_none rfl _ _ _) rfl ⟨rfl, rfl⟩
set_option maxHeartbeats 1000000 in
set_option maxRecDepth 20000 in
theorem growText_none (w : World) (kb : Nat) (h : w.cell? ⟨kb, 4, none⟩ = some (.slice none 0 0)) :
    Calls Tryz.prog 49 #[.pointer (some ⟨kb, 0, none⟩)] w fun e w' => e = .returned (.tuple #[]) ∧ w = w' := by
  go_enter Tryz.func49, Tryz.ntmps49
  go_wp2
  go_loopw [2] (fun i wr => i = .int .i64 0 ∧ w = wr) (fun _ _ => 0)
  case atStart => exact ⟨rfl, rfl⟩
  case round =>
    obtain ⟨rfl, rfl⟩ := hrel
    go_wp2
    exact bodyPost_end (results_none rfl _ _ _) rfl ⟨rfl, rfl⟩
set_option maxHeartbeats 1000000 in
set_option maxRecDepth 20000 in
theorem lookText_none (w : World) (kb : Nat) (h : w.cell? ⟨kb, 4, none⟩ = some (.slice none 0 0)) :
    Calls Tryz.prog 57 #[.pointer (some ⟨kb, 0, none⟩)] w fun e w' => e = .returned (.bool true) ∧ w = w' := by
  go_enter Tryz.func57, Tryz.ntmps57
  go_wp2
  go_loopw [3] (fun i wr => i = .int .i64 0 ∧ w = wr) (fun _ _ => 0)
  case atStart => exact ⟨rfl, rfl⟩
  case round =>
    obtain ⟨rfl, rfl⟩ := hrel
    go_wp2
    go_ret
    exact ⟨rfl, rfl⟩
set_option maxHeartbeats 1000000 in
set_option maxRecDepth 20000 in
theorem fillAsk_none (w : World) (kb : Nat) (h : w.cell? ⟨kb, 6, none⟩ = some (.slice none 0 0)) :
    Calls Tryz.prog 43 #[.pointer (some ⟨kb, 0, none⟩)] w fun e w' => e = .returned (.tuple #[]) ∧ w = w' := by
  go_enter Tryz.func43, Tryz.ntmps43
  go_wp2
  go_loopw [2] (fun i wr => i = .int .i64 0 ∧ w = wr) (fun _ _ => 0)
  case atStart => exact ⟨rfl, rfl⟩
  case round =>
    obtain ⟨rfl, rfl⟩ := hrel
    go_wp2
    exact bodyPost_end (results_none rfl _ _ _) rfl ⟨rfl, rfl⟩
set_option maxHeartbeats 1000000 in
set_option maxRecDepth 20000 in
theorem growAsk_none (w : World) (kb : Nat) (h : w.cell? ⟨kb, 6, none⟩ = some (.slice none 0 0)) :
    Calls Tryz.prog 51 #[.pointer (some ⟨kb, 0, none⟩)] w fun e w' => e = .returned (.tuple #[]) ∧ w = w' := by
  go_enter Tryz.func51, Tryz.ntmps51
  go_wp2
  go_loopw [2] (fun i wr => i = .int .i64 0 ∧ w = wr) (fun _ _ => 0)
  case atStart => exact ⟨rfl, rfl⟩
  case round =>
    obtain ⟨rfl, rfl⟩ := hrel
    go_wp2
    exact bodyPost_end (results_none rfl _ _ _) rfl ⟨rfl, rfl⟩
set_option maxHeartbeats 1000000 in
set_option maxRecDepth 20000 in
theorem lookAsk_none (w : World) (kb : Nat) (h : w.cell? ⟨kb, 6, none⟩ = some (.slice none 0 0)) :
    Calls Tryz.prog 59 #[.pointer (some ⟨kb, 0, none⟩)] w fun e w' => e = .returned (.bool true) ∧ w = w' := by
  go_enter Tryz.func59, Tryz.ntmps59
  go_wp2
  go_loopw [3] (fun i wr => i = .int .i64 0 ∧ w = wr) (fun _ _ => 0)
  case atStart => exact ⟨rfl, rfl⟩
  case round =>
    obtain ⟨rfl, rfl⟩ := hrel
    go_wp2
    go_ret
    exact ⟨rfl, rfl⟩
set_option maxHeartbeats 1000000 in
set_option maxRecDepth 20000 in
theorem fillTask_none (w : World) (kb : Nat) (h : w.cell? ⟨kb, 7, none⟩ = some (.slice none 0 0)) :
    Calls Tryz.prog 44 #[.pointer (some ⟨kb, 0, none⟩)] w fun e w' => e = .returned (.tuple #[]) ∧ w = w' := by
  go_enter Tryz.func44, Tryz.ntmps44
  go_wp2
  go_loopw [2] (fun i wr => i = .int .i64 0 ∧ w = wr) (fun _ _ => 0)
  case atStart => exact ⟨rfl, rfl⟩
  case round =>
    obtain ⟨rfl, rfl⟩ := hrel
    go_wp2
    exact bodyPost_end (results_none rfl _ _ _) rfl ⟨rfl, rfl⟩
set_option maxHeartbeats 1000000 in
set_option maxRecDepth 20000 in
theorem growTask_none (w : World) (kb : Nat) (h : w.cell? ⟨kb, 7, none⟩ = some (.slice none 0 0)) :
    Calls Tryz.prog 52 #[.pointer (some ⟨kb, 0, none⟩)] w fun e w' => e = .returned (.tuple #[]) ∧ w = w' := by
  go_enter Tryz.func52, Tryz.ntmps52
  go_wp2
  go_loopw [2] (fun i wr => i = .int .i64 0 ∧ w = wr) (fun _ _ => 0)
  case atStart => exact ⟨rfl, rfl⟩
  case round =>
    obtain ⟨rfl, rfl⟩ := hrel
    go_wp2
    exact bodyPost_end (results_none rfl _ _ _) rfl ⟨rfl, rfl⟩
set_option maxHeartbeats 1000000 in
set_option maxRecDepth 20000 in
theorem lookTask_none (w : World) (kb : Nat) (h : w.cell? ⟨kb, 7, none⟩ = some (.slice none 0 0)) :
    Calls Tryz.prog 60 #[.pointer (some ⟨kb, 0, none⟩)] w fun e w' => e = .returned (.bool true) ∧ w = w' := by
  go_enter Tryz.func60, Tryz.ntmps60
  go_wp2
  go_loopw [3] (fun i wr => i = .int .i64 0 ∧ w = wr) (fun _ _ => 0)
  case atStart => exact ⟨rfl, rfl⟩
  case round =>
    obtain ⟨rfl, rfl⟩ := hrel
    go_wp2
    go_ret
    exact ⟨rfl, rfl⟩
set_option maxHeartbeats 1000000 in
set_option maxRecDepth 20000 in
theorem fillThing_none (w : World) (kb : Nat) (h : w.cell? ⟨kb, 8, none⟩ = some (.slice none 0 0)) :
    Calls Tryz.prog 45 #[.pointer (some ⟨kb, 0, none⟩)] w fun e w' => e = .returned (.tuple #[]) ∧ w = w' := by
  go_enter Tryz.func45, Tryz.ntmps45
  go_wp2
  go_loopw [2] (fun i wr => i = .int .i64 0 ∧ w = wr) (fun _ _ => 0)
  case atStart => exact ⟨rfl, rfl⟩
  case round =>
    obtain ⟨rfl, rfl⟩ := hrel
    go_wp2
    exact bodyPost_end (results_none rfl _ _ _) rfl ⟨rfl, rfl⟩
set_option maxHeartbeats 1000000 in
set_option maxRecDepth 20000 in
theorem growThing_none (w : World) (kb : Nat) (h : w.cell? ⟨kb, 8, none⟩ = some (.slice none 0 0)) :
    Calls Tryz.prog 53 #[.pointer (some ⟨kb, 0, none⟩)] w fun e w' => e = .returned (.tuple #[]) ∧ w = w' := by
  go_enter Tryz.func53, Tryz.ntmps53
  go_wp2
  go_loopw [2] (fun i wr => i = .int .i64 0 ∧ w = wr) (fun _ _ => 0)
  case atStart => exact ⟨rfl, rfl⟩
  case round =>
    obtain ⟨rfl, rfl⟩ := hrel
    go_wp2
    exact bodyPost_end (results_none rfl _ _ _) rfl ⟨rfl, rfl⟩
set_option maxHeartbeats 1000000 in
set_option maxRecDepth 20000 in
theorem lookThing_none (w : World) (kb : Nat) (h : w.cell? ⟨kb, 8, none⟩ = some (.slice none 0 0)) :
    Calls Tryz.prog 61 #[.pointer (some ⟨kb, 0, none⟩)] w fun e w' => e = .returned (.bool true) ∧ w = w' := by
  go_enter Tryz.func61, Tryz.ntmps61
  go_wp2
  go_loopw [3] (fun i wr => i = .int .i64 0 ∧ w = wr) (fun _ _ => 0)
  case atStart => exact ⟨rfl, rfl⟩
  case round =>
    obtain ⟨rfl, rfl⟩ := hrel
    go_wp2
    go_ret
    exact ⟨rfl, rfl⟩

set_option maxHeartbeats 4000000 in
set_option maxRecDepth 20000 in
theorem apart_c {w0 w : World} {r : List Thing} {kb : Nat} {n : Int} {vb vi : Value} {xs ys : List Hl} (H : Hp w0 w (BkB.Bkt vi kb n vb :: BkB.Rows_ vb (xs.map nil_) :: (xs.map BkB.Kp ++ (BkI.Rows_ vi (ys.map nil_) :: (ys.map BkI.Kp ++ r)))))
    (hx : ∀ h ∈ xs, (0 ≤ h.q ∧ h.q ≤ 100000) ∧ h.n < 100000) (hxl : xs.length < 100000) (hy : ∀ h ∈ ys, (0 ≤ h.q ∧ h.q ≤ 200) ∧ h.n < 100000) (hyl : ys.length < 100000) :
    Calls Tryz.prog 17 #[.pointer (some ⟨kb, 0, none⟩)] w fun e w' => e = .returned (.bool true) ∧ Below w0.heap.size w0 w' := by
  have FB := Lib.hid (BkB.fill_c H hx hxl)
  have FI := Lib.hid (fun (w : World) (r : List Thing) H => BkI.fill_c (w0 := w0) (w := w) (r := r) (vo := vb) (kb := kb) (n := n) (vb := vi) (xs := ys) H hy hyl)
  have GB := Lib.hid (fun (w : World) (r : List Thing) H => BkB.grow_c (w0 := w0) (w := w) (r := r) (vo := vi) (kb := kb) (n := n) (vb := vb) (xs := xs) H hx hxl)
  have GI := Lib.hid (fun (w : World) (r : List Thing) H => BkI.grow_c (w0 := w0) (w := w) (r := r) (vo := vb) (kb := kb) (n := n) (vb := vi) (xs := ys) H hy hyl)
  have LB := Lib.hid (fun (w : World) (r : List Thing) (zs : List Hr) (e : zs.map (·.l) = xs) H => BkB.look_c (w0 := w0) (w := w) (r := r) (vo := vi) (kb := kb) (n := n) (vb := vb) (ys := zs) H (fun x h => hx x.l (by rw [← e]; exact List.mem_map.2 ⟨x, h, rfl⟩)) (by rw [← e, List.length_map] at hxl; exact hxl))
  have LI := Lib.hid (fun (w : World) (r : List Thing) (zs : List Hr) (e : zs.map (·.l) = ys) H => BkI.look_c (w0 := w0) (w := w) (r := r) (vo := vb) (kb := kb) (n := n) (vb := vi) (ys := zs) H (fun x h => hy x.l (by rw [← e]; exact List.mem_map.2 ⟨x, h, rfl⟩)) (by rw [← e, List.length_map] at hyl; exact hyl))
  have hc := (BkB.bk_cells H).1
  have h2 : w.cell? ⟨kb, 2, none⟩ = some (.slice none 0 0) := hc 2
  have h3 : w.cell? ⟨kb, 3, none⟩ = some (.slice none 0 0) := hc 3
  have h4 : w.cell? ⟨kb, 4, none⟩ = some (.slice none 0 0) := hc 4
  have h6 : w.cell? ⟨kb, 6, none⟩ = some (.slice none 0 0) := hc 6
  have h7 : w.cell? ⟨kb, 7, none⟩ = some (.slice none 0 0) := hc 7
  have h8 : w.cell? ⟨kb, 8, none⟩ = some (.slice none 0 0) := hc 8
  clear hc hx hxl hy hyl H
  go_enter Tryz.func17, Tryz.ntmps17
  go_wp2_with fail
  clear h2 h3 h4 h6 h7 h8
  refine FB.out.mono ?_; rintro e w1 ⟨rfl, K⟩
  have H1 := Lib.hid K
  clear K
  have hc := (BkB.bk_cells H1.out).1
  have h2 : w1.cell? ⟨kb, 2, none⟩ = some (.slice none 0 0) := hc 2
  have h3 : w1.cell? ⟨kb, 3, none⟩ = some (.slice none 0 0) := hc 3
  have h4 : w1.cell? ⟨kb, 4, none⟩ = some (.slice none 0 0) := hc 4
  have h6 : w1.cell? ⟨kb, 6, none⟩ = some (.slice none 0 0) := hc 6
  have h7 : w1.cell? ⟨kb, 7, none⟩ = some (.slice none 0 0) := hc 7
  have h8 : w1.cell? ⟨kb, 8, none⟩ = some (.slice none 0 0) := hc 8
  clear hc
  go_wp2_with fail
  refine (fillWord_none _ kb h2).mono ?_; rintro e wz ⟨rfl, rfl⟩
  go_wp2_with fail
  refine (fillInt_none _ kb h3).mono ?_; rintro e wz ⟨rfl, rfl⟩
  go_wp2_with fail
  refine (fillText_none _ kb h4).mono ?_; rintro e wz ⟨rfl, rfl⟩
  go_wp2_with fail
  clear h2 h3 h4 h6 h7 h8
  refine (FI.out _ _ (Hp.perm H1.out perm_kinds)).mono ?_; rintro e w2 ⟨rfl, K⟩
  have H2 := Lib.hid K
  clear K
  have hc := (BkI.bk_cells H2.out).1
  have h2 : w2.cell? ⟨kb, 2, none⟩ = some (.slice none 0 0) := hc 2
  have h3 : w2.cell? ⟨kb, 3, none⟩ = some (.slice none 0 0) := hc 3
  have h4 : w2.cell? ⟨kb, 4, none⟩ = some (.slice none 0 0) := hc 4
  have h6 : w2.cell? ⟨kb, 6, none⟩ = some (.slice none 0 0) := hc 6
  have h7 : w2.cell? ⟨kb, 7, none⟩ = some (.slice none 0 0) := hc 7
  have h8 : w2.cell? ⟨kb, 8, none⟩ = some (.slice none 0 0) := hc 8
  clear hc
  go_wp2_with fail
  refine (fillAsk_none _ kb h6).mono ?_; rintro e wz ⟨rfl, rfl⟩
  go_wp2_with fail
  refine (fillTask_none _ kb h7).mono ?_; rintro e wz ⟨rfl, rfl⟩
  go_wp2_with fail
  refine (fillThing_none _ kb h8).mono ?_; rintro e wz ⟨rfl, rfl⟩
  go_wp2_with fail
  clear h2 h3 h4 h6 h7 h8
  refine (GB.out _ _ (Hp.perm H2.out perm_kinds)).mono ?_; rintro e w3 ⟨rfl, zs, hzs, K⟩
  have HZ := Lib.hid hzs
  clear hzs
  have H3 := Lib.hid K
  clear K
  have hc := (BkB.bk_cells H3.out).1
  have h2 : w3.cell? ⟨kb, 2, none⟩ = some (.slice none 0 0) := hc 2
  have h3 : w3.cell? ⟨kb, 3, none⟩ = some (.slice none 0 0) := hc 3
  have h4 : w3.cell? ⟨kb, 4, none⟩ = some (.slice none 0 0) := hc 4
  have h6 : w3.cell? ⟨kb, 6, none⟩ = some (.slice none 0 0) := hc 6
  have h7 : w3.cell? ⟨kb, 7, none⟩ = some (.slice none 0 0) := hc 7
  have h8 : w3.cell? ⟨kb, 8, none⟩ = some (.slice none 0 0) := hc 8
  clear hc
  go_wp2_with fail
  refine (growWord_none _ kb h2).mono ?_; rintro e wz ⟨rfl, rfl⟩
  go_wp2_with fail
  refine (growInt_none _ kb h3).mono ?_; rintro e wz ⟨rfl, rfl⟩
  go_wp2_with fail
  refine (growText_none _ kb h4).mono ?_; rintro e wz ⟨rfl, rfl⟩
  go_wp2_with fail
  clear h2 h3 h4 h6 h7 h8
  refine (GI.out _ _ (Hp.perm H3.out perm_kinds)).mono ?_; rintro e w4 ⟨rfl, us, hus, K⟩
  have HU := Lib.hid hus
  clear hus
  have H4 := Lib.hid K
  clear K
  have hc := (BkI.bk_cells H4.out).1
  have h2 : w4.cell? ⟨kb, 2, none⟩ = some (.slice none 0 0) := hc 2
  have h3 : w4.cell? ⟨kb, 3, none⟩ = some (.slice none 0 0) := hc 3
  have h4 : w4.cell? ⟨kb, 4, none⟩ = some (.slice none 0 0) := hc 4
  have h6 : w4.cell? ⟨kb, 6, none⟩ = some (.slice none 0 0) := hc 6
  have h7 : w4.cell? ⟨kb, 7, none⟩ = some (.slice none 0 0) := hc 7
  have h8 : w4.cell? ⟨kb, 8, none⟩ = some (.slice none 0 0) := hc 8
  clear hc
  go_wp2_with fail
  refine (growAsk_none _ kb h6).mono ?_; rintro e wz ⟨rfl, rfl⟩
  go_wp2_with fail
  refine (growTask_none _ kb h7).mono ?_; rintro e wz ⟨rfl, rfl⟩
  go_wp2_with fail
  refine (growThing_none _ kb h8).mono ?_; rintro e wz ⟨rfl, rfl⟩
  go_wp2_with fail
  clear h2 h3 h4 h6 h7 h8
  refine (LB.out _ _ zs HZ.out (Hp.perm H4.out perm_kinds)).mono ?_; rintro e w5 ⟨rfl, K⟩
  have H5 := Lib.hid K
  clear K
  have hc := (BkB.bk_cells H5.out).1
  have h2 : w5.cell? ⟨kb, 2, none⟩ = some (.slice none 0 0) := hc 2
  have h3 : w5.cell? ⟨kb, 3, none⟩ = some (.slice none 0 0) := hc 3
  have h4 : w5.cell? ⟨kb, 4, none⟩ = some (.slice none 0 0) := hc 4
  have h6 : w5.cell? ⟨kb, 6, none⟩ = some (.slice none 0 0) := hc 6
  have h7 : w5.cell? ⟨kb, 7, none⟩ = some (.slice none 0 0) := hc 7
  have h8 : w5.cell? ⟨kb, 8, none⟩ = some (.slice none 0 0) := hc 8
  clear hc
  go_wp2_with fail
  refine (lookWord_none _ kb h2).mono ?_; rintro e wz ⟨rfl, rfl⟩
  go_wp2_with fail
  refine (lookInt_none _ kb h3).mono ?_; rintro e wz ⟨rfl, rfl⟩
  go_wp2_with fail
  refine (lookText_none _ kb h4).mono ?_; rintro e wz ⟨rfl, rfl⟩
  go_wp2_with fail
  clear h2 h3 h4 h6 h7 h8
  refine (LI.out _ _ us HU.out (Hp.perm H5.out perm_kinds)).mono ?_; rintro e w6 ⟨rfl, K⟩
  have H6 := Lib.hid K
  clear K
  have hc := (BkI.bk_cells H6.out).1
  have h2 : w6.cell? ⟨kb, 2, none⟩ = some (.slice none 0 0) := hc 2
  have h3 : w6.cell? ⟨kb, 3, none⟩ = some (.slice none 0 0) := hc 3
  have h4 : w6.cell? ⟨kb, 4, none⟩ = some (.slice none 0 0) := hc 4
  have h6 : w6.cell? ⟨kb, 6, none⟩ = some (.slice none 0 0) := hc 6
  have h7 : w6.cell? ⟨kb, 7, none⟩ = some (.slice none 0 0) := hc 7
  have h8 : w6.cell? ⟨kb, 8, none⟩ = some (.slice none 0 0) := hc 8
  clear hc
  go_wp2_with fail
  refine (lookAsk_none _ kb h6).mono ?_; rintro e wz ⟨rfl, rfl⟩
  go_wp2_with fail
  refine (lookTask_none _ kb h7).mono ?_; rintro e wz ⟨rfl, rfl⟩
  go_wp2_with fail
  refine (lookThing_none _ kb h8).mono ?_; rintro e wz ⟨rfl, rfl⟩
  go_wp2
  go_ret
  exact ⟨rfl, H6.out.below⟩
end Go.Proofs.YtcfoljdpffonhaaGreatDoor
