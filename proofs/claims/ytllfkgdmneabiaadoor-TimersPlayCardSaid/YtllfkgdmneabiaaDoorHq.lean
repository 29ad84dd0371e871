/- Put, among other things in memory. -/
import Derived.Test.YtllfkgdmneabiaaDoorHp
import Derived.Test.YtllfkgdmneabiaaDoorPut
set_option linter.unusedVariables false
set_option linter.unusedSimpArgs false
namespace Go.Proofs.YtllfkgdmneabiaaDoor
open Go.RowKit Go.Shelf

theorem put_h {w0 w : World} {r : List Thing} {b : Nat} {l : List (Int × Int)} (who t : Int) (h : Hp w0 w (Slp b l :: r)) (ho : Ok l) (hl : l.length < 99999) (hn : who ∉ l.map Prod.fst) (h1 : 0 ≤ who) (h2 : 1 ≤ t) (h3 : t ≤ 1073741824) :
    Calls Tryd.prog 21 #[.pointer (some ⟨b, 0, none⟩), .int .i64 who, .int .i64 t] w fun e w' => e = .returned (.int .i64 0) ∧ Hp w0 w' (Slp b (ins l who t) :: r) := by
  obtain ⟨S, ⟨xs, e, go, hD, rfl⟩, k2, k3⟩ := h.lay
  have hlen := len_of e
  refine (put_ok w b go xs who t hD (good_of e ho) (by omega) h1 h2 h3 (fi_neg (by rw [← ab_fst xs 0, e]; exact hn))).mono ?_
  rintro e' w' ⟨go', rfl, hd, ht, hgo⟩
  refine ⟨rfl, Hp.step (t' := Slp b (ins l who t)) (S := fun k => k = b ∨ go = some k) (S' := fun k => k = b ∨ go' = some k) h.below (fun k hk => (k2 k hk).1) k3 ht ⟨_, ?_, go', hd, rfl⟩ ?_⟩
  · have := ab_put xs 0 t who
    rw [Int.sub_zero] at this
    rw [this, e]
  · rintro k (rfl | hk)
    · exact Or.inl (Or.inl rfl)
    · rcases hgo with rfl | ⟨g, rfl, hg⟩
      · exact Or.inl (Or.inr hk)
      · cases hk; exact Or.inr hg
theorem put_arg_h {w0 w : World} {r : List Thing} {b : Nat} {l : List (Int × Int)} (who t : Int) (h : Hp w0 w (Slp b l :: r)) (hb : who < 0 ∨ t < 1 ∨ 1073741824 < t) :
    Calls Tryd.prog 21 #[.pointer (some ⟨b, 0, none⟩), .int .i64 who, .int .i64 t] w fun e w' => e = .returned (.int .i64 1) ∧ Hp w0 w' (Slp b l :: r) := by
  obtain ⟨S, ⟨xs, e, go, hD, rfl⟩, k2, k3⟩ := h.lay
  refine (put_arg w b go xs who t hD hb).mono ?_
  rintro e' w' ⟨rfl, ht⟩
  exact ⟨rfl, h.read ht⟩
theorem put_state_h {w0 w : World} {r : List Thing} {b : Nat} {l : List (Int × Int)} (who t : Int) (h : Hp w0 w (Slp b l :: r)) (hl : l.length < 99999) (hn : who ∈ l.map Prod.fst) (h1 : 0 ≤ who) (h2 : 1 ≤ t) (h3 : t ≤ 1073741824) :
    Calls Tryd.prog 21 #[.pointer (some ⟨b, 0, none⟩), .int .i64 who, .int .i64 t] w fun e w' => e = .returned (.int .i64 7) ∧ Hp w0 w' (Slp b l :: r) := by
  obtain ⟨S, ⟨xs, e, go, hD, rfl⟩, k2, k3⟩ := h.lay
  have hlen := len_of e
  obtain ⟨k, hk, f1, _⟩ := fi_pos (xs := xs) (who := who) (by rw [← ab_fst xs 0, e]; exact hn)
  refine (put_state w b go xs who t hD (by omega) h1 h2 h3 (by omega)).mono ?_
  rintro e' w' ⟨rfl, ht⟩
  exact ⟨rfl, h.read ht⟩
end Go.Proofs.YtllfkgdmneabiaaDoor
