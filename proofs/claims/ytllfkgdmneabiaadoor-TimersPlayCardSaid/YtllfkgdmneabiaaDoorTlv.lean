/- 'lives' of timekeeperlaw19. -/
import Derived.Test.YtllfkgdmneabiaaDoorTmh
set_option linter.unusedVariables false
set_option linter.unusedSimpArgs false
namespace Go.Proofs.YtllfkgdmneabiaaDoor
open Go.RowKit Go.Shelf Go.Maps
attribute [local go_sem] Oper.semAt_some

/-- Alarms come to the front. -/
theorem Hp.to1 {w0 w : World} {a b c d : Thing} {r : List Thing} (h : Hp w0 w (d :: a :: b :: c :: r)) : Hp w0 w (a :: b :: c :: d :: r) := h.pull 3 rfl |>.pull 3 rfl |>.pull 3 rfl

def f1 : Int → Int := upd (upd (fun _ => 0) 1 0) 2 1
theorem al1 : Al [(1, 2)] (upd (fun _ => 0) 1 0) := by
  have h := al_start al_nil (id := 1) (n := 2) (e := 0) (by decide) (by decide) (by decide) (by decide) (by decide)
  rwa [show ins (but [] 1) 1 2 = [(1, 2)] by decide] at h
theorem al2 : Al [(2, 1), (1, 2)] f1 := by
  have h := al_start al1 (id := 2) (n := 1) (e := 1) (by decide) (by decide) (by decide) (by decide) (by decide)
  rwa [show ins (but [(1, 2)] 2) 2 1 = [(2, 1), (1, 2)] by decide] at h
theorem tk2 : tk f1 [(2, 1), (1, 2)] = [(1, 1), (2, 1)] := by decide
theorem al3 : Al [(1, 1), (2, 1)] f1 := by have h := al_tk al2; rwa [tk2] at h
theorem tk3 : tk f1 [(1, 1), (2, 1)] = [(2, 1)] := by decide
theorem al4 : Al [(2, 1)] f1 := by have h := al_tk al3; rwa [tk3] at h
theorem tk4 : tk f1 [(2, 1)] = [(2, 1)] := by decide
theorem al5 : Al [] (upd f1 2 0) := by have h := al_stop al4 2; rwa [show but [(2, 1)] 2 = [] by decide] at h

set_option maxHeartbeats 4000000 in
theorem lives_c (w : World) :
    Calls Tryd.prog 4 #[] w fun e w' => e = .returned (.bool true) ∧ Below w.heap.size w w' := by
  go_enter Tryd.func4, Tryd.ntmps4
  go_wp2_with fail
  refine (new_al (Hp.start w)).mono ?_; rintro e w1 ⟨b, lb, mb, rfl, H1⟩
  go_wp2_with fail
  refine (start_ok 1 2 0 H1 al_nil (by decide) (by decide) (by decide) (by decide) (by decide) (by decide) (by decide) (by decide)).mono ?_; rintro e w2 ⟨rfl, H2⟩
  rw [show ins (but [] 1) 1 2 = [(1, 2)] by decide] at H2
  go_wp2_with fail
  refine (start_ok 2 1 1 H2 al1 (by decide) (by decide) (by decide) (by decide) (by decide) (by decide) (by decide) (by decide)).mono ?_; rintro e w3 ⟨rfl, H3⟩
  rw [show ins (but [(1, 2)] 2) 2 1 = [(2, 1), (1, 2)] by decide] at H3
  go_wp2_with fail
  refine (tick_al H3 al2 (by decide)).mono ?_; rintro e w4 ⟨v1, rfl, H4, _⟩
  rw [show tk (upd (upd (fun _ => 0) 1 0) 2 1) [(2, 1), (1, 2)] = [(1, 1), (2, 1)] from tk2, show wake [(2, 1), (1, 2)] = [2] by decide] at H4
  go_wp2_with fail
  refine (tick_al H4.to1 al3 (by decide)).mono ?_; rintro e w5 ⟨v2, rfl, H5, _⟩
  rw [show tk (upd (upd (fun _ => 0) 1 0) 2 1) [(1, 1), (2, 1)] = [(2, 1)] from tk3, show wake [(1, 1), (2, 1)] = [1, 2] by decide] at H5
  go_wp2_with fail
  refine (tick_al H5.to1 al4 (by decide)).mono ?_; rintro e w6 ⟨v3, rfl, H6, _⟩
  rw [show tk (upd (upd (fun _ => 0) 1 0) 2 1) [(2, 1)] = [(2, 1)] from tk4, show wake [(2, 1)] = [2] by decide] at H6
  go_wp2_with fail
  refine (same_h ((lit_h H6 [2] _ rfl 1).pull 6 rfl) (by decide) (by decide)).mono ?_; rintro e w7 ⟨rfl, H7⟩
  go_wp2_with fail
  refine (same_h ((lit_h H7 [1, 2] _ rfl 2).pull 7 rfl) (by decide) (by decide)).mono ?_; rintro e w8 ⟨rfl, H8⟩
  go_wp2_with fail
  refine (same_h ((lit_h H8 [2] _ rfl 1).pull 5 rfl) (by decide) (by decide)).mono ?_; rintro e w9 ⟨rfl, H9⟩
  have H9 := H9.pull 8 rfl |>.pull 8 rfl |>.pull 8 rfl
  go_wp2_with fail
  refine (left_al 1 H9 al4.ok (by decide)).mono ?_; rintro e w10 ⟨rfl, H10⟩
  rw [show (lf [(2, 1)] 1).1 = 0 by decide]
  go_wp2_with fail
  refine (left_al 2 H10 al4.ok (by decide)).mono ?_; rintro e w11 ⟨rfl, H11⟩
  rw [show (lf [(2, 1)] 2).1 = 1 by decide]
  go_wp2_with fail
  refine (stop_state 1 H11 (by decide) (by decide)).mono ?_; rintro e w12 ⟨rfl, H12⟩
  go_wp2_with fail
  refine (stop_ok 2 H12 al4 (by decide) (by decide) (by decide)).mono ?_; rintro e w13 ⟨rfl, H13⟩
  rw [show but [(2, 1)] 2 = [] by decide] at H13
  go_wp2_with fail
  refine (tick_al H13 al5 (by decide)).mono ?_; rintro e w14 ⟨v4, rfl, H14, hv⟩
  obtain rfl := hv (by decide)
  go_wp2_with fail
  refine (start_no w14 1 1 1).mono ?_; rintro e w15 ⟨rfl, rfl⟩
  go_wp2_with fail
  refine (left_no w14 1).mono ?_; rintro e w16 ⟨rfl, rfl⟩
  go_wp2_with fail
  go_ret
  exact ⟨rfl, H14.below⟩
end Go.Proofs.YtllfkgdmneabiaaDoor
