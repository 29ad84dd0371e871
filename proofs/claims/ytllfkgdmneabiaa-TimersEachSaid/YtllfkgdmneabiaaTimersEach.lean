/- The law TimersEach of timekeeperlaw19 holds: at every input that can be read it returns true and leaves its arguments as they were. No condition. -/
import Derived.Test.YtllfkgdmneabiaaRows
import Derived.WalkKit
import Derived.ProofKit
import Derived.OpenShut
import Derived.Lib.SmallJoins
import Derived.Test.YtllfkgdmneabiaaTea
namespace Go.Proofs.Ytllfkgdmneabiaa
open Go.ChangeShapes Go.WideShapes Go.ChangeAt Go.RowKit Go.Joins Go.Deep
set_option linter.unusedVariables false

theorem timersEach_own : ownKnob Try.prog.godebug = none := by kernel_rfl
theorem timersEach_laid : laidOutB Try.prog = true := by kernel_rfl
set_option maxHeartbeats 800000 in
set_option maxRecDepth 100000 in
theorem timersEach_lifted (os : Os) (started : os.Started) (H : Type) (enc : TypeId × Value → H) :
    ReturnsInHanded {} Try.checked os 3 .any (Rows.timersEachSpec.pre6 enc Try.prog Try.f3 Rows.timersEachRow.domain false) (Rows.timersEachSpec.post enc Try.prog Try.f3 false true false false) := by
  refine returnsInHanded_of_change (C := Try.checked) timersEach_own started (by kernel_rfl) Try.func3
    (ChangeSpec.witness6 (enc := enc) (C := Try.checked) false ⟨#[], #[.agg #[.int .u8 0, .int .u8 0, .slice none 0 0, .int .u8 0]], []⟩ 8 (by kernel_rfl) (by kernel_rfl) (by kernel_rfl) (by kernel_rfl)) ?_
  intro W base args ds gs before hval0 hW hcnd _
  have hval : ∀ (j : Nat) t v, Try.f3.params[j]? = some t → args[j]? = some v → Value.okWide Try.prog W .any base t v := hval0
  have hW' := hW
  obtain ⟨p, q, hA0, hV, rfl, hfz, hnd⟩ := hW
  have hA : DataW.TrodAll enc Try.prog W 0 (fun _ => true) true Try.f3.params.toList args.toList ds p := hA0
  rw [Try.params3] at hA hval
  obtain ⟨v0, vs0, d0, ds0, p0, q0, hargs, rfl, rfl, h0, r0⟩ := trodAll_cons hA
  obtain ⟨rfl, rfl, rfl⟩ := trodAll_nil r0
  obtain rfl : args = #[v0] := by cases args; simp_all
  obtain ⟨rfl, rfl⟩ := trodVars_none hV
  have h0k := h0
  obtain ⟨c0, c1, c2, c3, y0, y1, y2, y3, n, rfl, _, _, t0, t1, t2, t3⟩ := open_agg4 Try.underlying24 (by kernel_rfl) (by kernel_rfl) (hval 0 24 v0 rfl rfl) h0
  obtain ⟨a1, e1, _, w1⟩ := DataW.trod_int Try.underlying5 t0
  obtain ⟨a2, e2, _, w2⟩ := DataW.trod_int Try.underlying5 t1
  obtain ⟨a3, e3, _, w3⟩ := DataW.trod_int Try.underlying5 t3
  obtain ⟨a, c, xs, e4, hacts, hawf⟩ := opened_acts t2
  cases e1; cases e2; cases e3; cases e4
  obtain ⟨m1, rfl⟩ : ∃ m : Nat, a1 = (m : Int) := ⟨a1.toNat, by have := wf_u8 w1; omega⟩
  obtain ⟨m2, rfl⟩ : ∃ m : Nat, a2 = (m : Int) := ⟨a2.toNat, by have := wf_u8 w2; omega⟩
  obtain ⟨m3, rfl⟩ : ∃ m : Nat, a3 = (m : Int) := ⟨a3.toNat, by have := wf_u8 w3; omega⟩
  clear hA0 hval0
  simp only [List.append_nil] at hW'
  have hlt0 : ∀ x ∈ p0, x.block < W.heap.size := fun x hx => hW'.lt x (by simp [hx])
  refine (each_law a c xs m1 m2 m3 (by have := wf_u8 w1; omega) (by have := wf_u8 w2; omega) (by have := wf_u8 w3; omega) W hacts hawf).mono fun e W' ⟨he, hb⟩ => ?_
  subst he
  exact ⟨_, rfl, _, _, _, [], _, [], hW', (trodAll_cons_mk (shut_bool Try.underlying4 _) trodAll_mk0), (trodAll_cons_mk (Below.trod timersEach_laid (by kernel_rfl) (of_decide_eq_true (by kernel_rfl)) h0k hb hlt0) trodAll_mk0), rfl, hb.frame _, fun h => by cases h⟩

theorem timersEach_over : Rows.timersEachRow.holds Try.pinned (OpenSpec.ofChange Rows.timersEachSpec) :=
  OpenClaim.holds_of_wide 3 Try.f3 rfl rfl rfl rfl rfl rfl rfl ⟨rfl, rfl, rfl, rfl, rfl⟩ rfl rfl rfl rfl rfl (by kernel_rfl) Try.func3 (by kernel_rfl)
    (of_decide_eq_true (by kernel_rfl)) (by unfold Func.isWrapper; first | (rw [if_pos (by decide +kernel)]; kernel_rfl) | (rw [if_neg (by decide +kernel)]; exact ⟨rfl, rfl⟩))
    (fun os started H enc _ => timersEach_lifted os started H enc)

theorem timersEach_holds : Rows.TimersEachSaid :=
  timersEach_over
#print axioms timersEach_holds
end Go.Proofs.Ytllfkgdmneabiaa
