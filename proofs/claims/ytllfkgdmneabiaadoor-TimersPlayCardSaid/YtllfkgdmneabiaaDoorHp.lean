/- The calls on a list of sleepers, among other things in memory. -/
import Derived.Test.YtllfkgdmneabiaaDoorAbs
set_option linter.unusedVariables false
set_option linter.unusedSimpArgs false
namespace Go.Proofs.YtllfkgdmneabiaaDoor
open Go.RowKit Go.Shelf

/-- A list of sleepers, by how many ticks are left. -/
def Slp (b : Nat) (l : List (Int × Int)) : Thing where
  at_ w S := ∃ xs, ab 0 xs = l ∧ (Lst b xs).at_ w S
  lt := by rintro w S ⟨xs, _, h⟩; exact (Lst b xs).lt h
  keeps := by rintro w w' S T ⟨xs, e, h⟩ ht hn; exact ⟨xs, e, (Lst b xs).keeps h ht hn⟩

theorem len_of {xs l : List (Int × Int)} (e : ab 0 xs = l) : xs.length = l.length := by rw [← e, ab_len]

theorem new_h {w0 w : World} {r : List Thing} (h : Hp w0 w r) :
    Calls Tryd.prog 18 #[] w fun e w' => ∃ b, e = .returned (.pointer (some ⟨b, 0, none⟩)) ∧ Hp w0 w' (Slp b [] :: r) := by
  refine (new_c w).mono ?_
  rintro e w' ⟨rfl, hd, ht⟩
  exact ⟨_, rfl, h.add ht (U := fun k => k = w.heap.size ∨ none = some k) ⟨[], rfl, none, hd, rfl⟩ (fun k hk => by rcases hk with rfl | h; exact Nat.le_refl _; cases h)⟩

theorem tick_h {w0 w : World} {r : List Thing} {b : Nat} {l : List (Int × Int)} (h : Hp w0 w (Slp b l :: r)) (ho : Ok l) (hl : l.length < 99999) :
    Calls Tryd.prog 23 #[.pointer (some ⟨b, 0, none⟩)] w fun e w' => ∃ v, e = .returned v ∧ Hp w0 w' (Ints v (wake l) :: Slp b (less l) :: r) ∧ (wake l = [] → v = .slice none 0 0) := by
  obtain ⟨S, ⟨xs, e, go, hD, rfl⟩, h2, h3⟩ := h.lay
  have hg := good_of e ho
  have hn := len_of e
  obtain ⟨t1, t2⟩ := ab_tick e ho
  have fin : ∀ e w', TickPost w b go (((dec xs 1).take (wk (dec xs 1))).map Prod.fst) ((dec xs 1).drop (wk (dec xs 1))) e w' → ∃ v, e = .returned v ∧ Hp w0 w' (Ints v (wake l) :: Slp b (less l) :: r) ∧ (wake l = [] → v = .slice none 0 0) := by
    rintro e' w' ⟨v, rfl, ho, hd, ht, hv⟩
    rw [t1] at ho hv
    obtain ⟨U, u1, u2⟩ := ints_of_owns ho
    exact ⟨v, rfl, Hp.step_add (t' := Slp b (less l)) (u := Ints v (wake l)) h.below (fun k hk => (h2 k hk).1) (fun k hk => by rcases hk with rfl | rfl; exact hD.lt; exact hD.glt) h3 ht ⟨_, t2, go, hd, rfl⟩ u1 u2, hv⟩
  cases xs with
  | nil => exact (tick_none w b go hD).mono fin
  | cons x xs =>
    cases go with
    | none => obtain ⟨v, _, h2⟩ := hD.ex; cases h2.2
    | some g => exact (tick_some w b g x xs hD hg (by omega)).mono fin


theorem left_h {w0 w : World} {r : List Thing} {b : Nat} {l : List (Int × Int)} (who : Int) (h : Hp w0 w (Slp b l :: r)) (ho : Ok l) (hl : l.length < 99999) :
    Calls Tryd.prog 26 #[.pointer (some ⟨b, 0, none⟩), .int .i64 who] w fun e w' => e = .returned (.tuple #[.int .i64 (lf l who).1, .int .i64 (lf l who).2]) ∧ Hp w0 w' (Slp b l :: r) := by
  obtain ⟨S, ⟨xs, e, go, hD, rfl⟩, h2, h3⟩ := h.lay
  have hn := len_of e
  refine (left_c w b go xs who hD (good_of e ho) (by omega)).mono ?_
  rintro e' w' ⟨rfl, hb⟩
  rw [ab_left e]
  exact ⟨rfl, h.read ⟨hb.os, hb.tape, hb.output, hb.size, fun k hk _ => hb.block k hk⟩⟩

theorem remove_arg_h {w0 w : World} {r : List Thing} {b : Nat} {l : List (Int × Int)} (who : Int) (h : Hp w0 w (Slp b l :: r)) (hl : l.length < 99999) (hn : who ∉ l.map Prod.fst) :
    Calls Tryd.prog 20 #[.pointer (some ⟨b, 0, none⟩), .int .i64 who] w fun e w' => e = .returned (.int .i64 1) ∧ Hp w0 w' (Slp b l :: r) := by
  obtain ⟨S, ⟨xs, e, go, hD, rfl⟩, h2, h3⟩ := h.lay
  have hlen := len_of e
  refine (remove_arg w b go xs who hD (by omega) (fi_neg (by rw [← ab_fst xs 0, e]; exact hn))).mono ?_
  rintro e' w' ⟨rfl, ht⟩
  exact ⟨rfl, h.read ht⟩

theorem remove_h {w0 w : World} {r : List Thing} {b : Nat} {l : List (Int × Int)} (who : Int) (h : Hp w0 w (Slp b l :: r)) (ho : Ok l) (hl : l.length < 99999) (hn : who ∈ l.map Prod.fst) :
    Calls Tryd.prog 20 #[.pointer (some ⟨b, 0, none⟩), .int .i64 who] w fun e w' => e = .returned (.int .i64 0) ∧ Hp w0 w' (Slp b (but l who) :: r) := by
  obtain ⟨S, ⟨xs, e, go, hD, rfl⟩, h2, h3⟩ := h.lay
  have hlen := len_of e
  obtain ⟨k, hk, f1, f2, f3⟩ := fi_pos (xs := xs) (who := who) (by rw [← ab_fst xs 0, e]; exact hn)
  cases go with
  | none => obtain ⟨v, _, h2⟩ := hD.ex; rw [h2.2] at hk; simp at hk
  | some g =>
    refine (remove_ok w b g xs who k hk hD (good_of e ho) (by omega) f1).mono ?_
    rintro e' w' ⟨rfl, hd, ht⟩
    refine ⟨rfl, Hp.step (t' := Slp b (but l who)) (S := fun k => k = b ∨ some g = some k) (S' := fun k => k = b ∨ some g = some k) h.below (fun k hk => (h2 k hk).1) h3 (ht.mono fun k _ h => by simpa [eq_comm] using h) ⟨_, ?_, some g, hd, rfl⟩ (fun k hk => Or.inl hk)⟩
    rw [ab_rem xs 0 k hk (by rw [← ab_fst xs 0, e]; exact ho.nd), e, f2]

theorem same_h {w0 w : World} {r : List Thing} {u v : Value} {us vs : List Int} (h : Hp w0 w (Ints u us :: Ints v vs :: r)) (hu : us.length < 100000) (hv : vs.length < 100000) :
    Calls Tryd.prog 12 #[u, v] w fun e w' => e = .returned (.bool (decide (us = vs))) ∧ Hp w0 w' (Ints u us :: Ints v vs :: r) := by
  obtain ⟨S, h1, _, T, h2, _⟩ := h.lay
  refine (same_c w u v us vs S T h1 h2 hu hv).mono ?_
  rintro e w' ⟨rfl, ht⟩
  exact ⟨rfl, h.read ht⟩
/-- A slice of ints that is written out. -/
theorem lit_h {w0 w : World} {r : List Thing} (h : Hp w0 w r) (zs : List Int) (o : Obj) (ho : o = .cells (zs.map (Value.int .i64)).toArray 3) (c : Nat) : Hp w0 (w.alloc o) (Ints (.slice (some ⟨w.heap.size, 0, none⟩) zs.length c) zs :: r) := by
  subst ho
  refine h.add ((Tch.refl _ w).alloc _) (U := fun k => k = w.heap.size) (Or.inr ⟨w.heap.size, 0, c, _, rfl, blk_alloc_new w _, fun j hj => ?_, rfl⟩) (fun k hk => by subst hk; exact Nat.le_refl _)
  rw [cell_blk (blk_alloc_new w _)]
  simp [hj]
end Go.Proofs.YtllfkgdmneabiaaDoor
