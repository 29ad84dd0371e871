/- 'alive' and 'filled' of timekeeperlaw10. -/
import Derived.Test.YtgcakjcljfhmpaaHq
import Derived.Laws.EntriesVeiled
set_option linter.unusedVariables false
set_option linter.unusedSimpArgs false
namespace Go.Proofs.Ytgcakjcljfhmpaa
open Go.RowKit Go.Shelf
attribute [local go_sem] Oper.semAt_some

theorem Hp.alloc {w0 w : World} {r : List Thing} (h : Hp w0 w r) (o : Obj) : Hp w0 (w.alloc o) r := h.read ((Tch.refl _ _).alloc _)
theorem Hp.drewN {w0 w : World} {r : List Thing} (h : Hp w0 w r) (n : Nat) : Hp w0 (w.drewN n) r := h.read ((Tch.refl _ _).drewN n)

theorem Lay.swap {n : Nat} {w : World} {X : Nat → Prop} {a b : Thing} {l : List Thing} (h : Lay n w X (a :: b :: l)) : Lay n w X (b :: a :: l) := by
  obtain ⟨S, h1, h2, S', h1', h2', h3⟩ := h
  exact ⟨S', h1', fun k hk => ⟨(h2' k hk).1, fun h => (h2' k hk).2 (Or.inl h)⟩, S, h1, fun k hk => ⟨(h2 k hk).1, fun h => h.elim (h2 k hk).2 (fun h => (h2' k h).2 (Or.inr hk))⟩, Lay.mono h3 (fun k _ h => by rcases h with (h | h) | h <;> simp_all)⟩
theorem Lay.pull {n : Nat} {w : World} {t : Thing} : ∀ {l : List Thing} {k : Nat} {X : Nat → Prop}, Lay n w X l → l[k]? = some t → Lay n w X (t :: l.eraseIdx k)
  | [], k, X, _, h => by simp at h
  | a :: l, 0, X, h, e => by simp at e; subst e; exact h
  | a :: l, k + 1, X, ⟨S, h1, h2, h3⟩, e => Lay.swap ⟨S, h1, h2, Lay.pull h3 (by simpa using e)⟩
/-- A thing is brought to the front. -/
theorem Hp.pull {w0 w : World} {l : List Thing} {t : Thing} (h : Hp w0 w l) (k : Nat) (e : l[k]? = some t) : Hp w0 w (t :: l.eraseIdx k) := ⟨h.below, h.lay.pull e⟩

theorem ok0 : Ok [] := ⟨by decide, by decide, by decide⟩
theorem ok1 : Ok [(7, 3)] := ⟨by decide, by decide, by decide⟩
theorem ok2 : Ok [(8, 1), (7, 3)] := ⟨by decide, by decide, by decide⟩
theorem ok3 : Ok [(8, 1), (7, 3), (9, 3)] := ⟨by decide, by decide, by decide⟩
theorem ok4 : Ok [(7, 2), (9, 2)] := ⟨by decide, by decide, by decide⟩
theorem ok5 : Ok [(7, 1), (9, 1)] := ⟨by decide, by decide, by decide⟩

set_option maxHeartbeats 4000000 in
theorem alive_c (w : World) :
    Calls Try.prog 14 #[] w fun e w' => e = .returned (.bool true) ∧ Below w.heap.size w w' := by
  go_enter Try.func14, Try.ntmps14
  go_wp2_with fail
  refine (new_h (Hp.start w)).mono ?_; rintro e w1 ⟨b, rfl, H1⟩
  go_wp2_with fail
  refine (put_h 7 3 H1 ok0 (by decide) (by decide) (by decide) (by decide) (by decide)).mono ?_; rintro e w2 ⟨rfl, H2⟩
  rw [show ins [] 7 3 = [(7, 3)] by decide] at H2
  go_wp2_with fail
  refine (put_h 8 1 H2 ok1 (by decide) (by decide) (by decide) (by decide) (by decide)).mono ?_; rintro e w3 ⟨rfl, H3⟩
  rw [show ins [(7, 3)] 8 1 = [(8, 1), (7, 3)] by decide] at H3
  go_wp2_with fail
  refine (put_h 9 3 H3 ok2 (by decide) (by decide) (by decide) (by decide) (by decide)).mono ?_; rintro e w4 ⟨rfl, H4⟩
  rw [show ins [(8, 1), (7, 3)] 9 3 = [(8, 1), (7, 3), (9, 3)] by decide] at H4
  go_wp2_with fail
  refine (put_state_h 7 1 H4 (by decide) (by decide) (by decide) (by decide) (by decide)).mono ?_; rintro e w5 ⟨rfl, H5⟩
  go_wp2_with fail
  refine (put_arg_h (-1) 1 H5 (by decide)).mono ?_; rintro e w6 ⟨rfl, H6⟩
  go_wp2_with fail
  refine (put_arg_h 1 0 H6 (by decide)).mono ?_; rintro e w7 ⟨rfl, H7⟩
  go_wp2_with fail
  refine (put_arg_h 1 1073741825 H7 (by decide)).mono ?_; rintro e w8 ⟨rfl, H8⟩
  go_wp2_with fail
  refine (remove_arg_h 5 H8 (by decide) (by decide)).mono ?_; rintro e w9 ⟨rfl, H9⟩
  go_wp2_with fail
  refine (all_h H9 (by decide)).mono ?_; rintro e w10 ⟨va, rfl, H10, _⟩
  go_wp2_with fail
  refine (tick_h H10.up1 ok3 (by decide)).mono ?_; rintro e w11 ⟨vb, rfl, H11, _⟩
  rw [show wake [(8, 1), (7, 3), (9, 3)] = [8] by decide, show less [(8, 1), (7, 3), (9, 3)] = [(7, 2), (9, 2)] by decide] at H11
  go_wp2_with fail
  refine (left_h 9 H11.up1 ok4 (by decide)).mono ?_; rintro e w12 ⟨rfl, H12⟩
  rw [show lf [(7, 2), (9, 2)] 9 = (2, 0) by decide]
  go_wp2_with fail
  refine (tick_h H12 ok4 (by decide)).mono ?_; rintro e w13 ⟨vc, rfl, H13, hc⟩
  obtain rfl := hc (by decide)
  rw [show less [(7, 2), (9, 2)] = [(7, 1), (9, 1)] by decide] at H13
  go_wp2_with fail
  refine (tick_h H13.tail ok5 (by decide)).mono ?_; rintro e w14 ⟨vd, rfl, H14, _⟩
  rw [show wake [(7, 1), (9, 1)] = [7, 9] by decide, show less [(7, 1), (9, 1)] = [] by decide] at H14
  go_wp2_with fail
  refine (same_h ((lit_h H14 [8, 7, 9] _ rfl 3).pull 4 rfl) (by decide) (by decide)).mono ?_; rintro e w15 ⟨rfl, H15⟩
  go_wp2_with fail
  refine (same_h ((lit_h H15 [8] _ rfl 1).pull 5 rfl) (by decide) (by decide)).mono ?_; rintro e w16 ⟨rfl, H16⟩
  go_wp2_with fail
  refine (same_h ((lit_h H16 [7, 9] _ rfl 2).pull 5 rfl) (by decide) (by decide)).mono ?_; rintro e w17 ⟨rfl, H17⟩
  go_wp2_with fail
  refine (tick_h (H17.pull 6 rfl) ok0 (by decide)).mono ?_; rintro e w18 ⟨ve, rfl, H18, he⟩
  obtain rfl := he (by decide)
  go_wp2_with fail
  go_ret
  exact ⟨rfl, H18.below⟩
end Go.Proofs.Ytgcakjcljfhmpaa
