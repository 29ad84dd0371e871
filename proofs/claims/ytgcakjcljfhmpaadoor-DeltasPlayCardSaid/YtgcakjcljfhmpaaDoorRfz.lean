/- The program's list of sleepers and the document's: what each call answers, for anybody and any ticks. -/
import Derived.Test.YtgcakjcljfhmpaaDoorRfy
import Derived.Test.YtgcakjcljfhmpaaDoorHq
set_option linter.unusedVariables false
set_option linter.unusedSimpArgs false
namespace Go.Proofs.YtgcakjcljfhmpaaDoor
open Go.RowKit Go.Shelf

def Rl (rb : Nat) (R : List (Int × Int)) : Thing := Ex (fun _ : Value => True) fun v => Alls [RB rb v, RO v R]
theorem Rl.un {w0 w : World} {r : List Thing} {rb : Nat} {R : List (Int × Int)} (h : Hp w0 w (Rl rb R :: r)) : ∃ v, Hp w0 w (RB rb v :: RO v R :: r) := by
  obtain ⟨v, _, h1⟩ := h.ex
  exact ⟨v, h1.unAlls⟩
theorem Rl.mk' {w0 w : World} {r : List Thing} {rb : Nat} {v : Value} {R : List (Int × Int)} (h : Hp w0 w (RB rb v :: RO v R :: r)) : Hp w0 w (Rl rb R :: r) := Hp.mkEx v trivial (Hp.alls h)
theorem rl_new {w0 w : World} {r : List Thing} (h : Hp w0 w r) : Hp w0 (w.alloc (.cells #[.slice none 0 0] 28)) (Rl w.heap.size [] :: r) :=
  Rl.mk' (own_nil (blk_new h _) 62 2).up1

def pbad (who t : Int) : Prop := who < 0 ∨ t < 1 ∨ 1073741824 < t
instance (who t : Int) : Decidable (pbad who t) := by unfold pbad; infer_instance
def pcode (R : List (Int × Int)) (who t : Int) : Int := if pbad who t then 1 else if who ∈ R.map Prod.fst then 7 else 0
def pnext (R : List (Int × Int)) (who t : Int) : List (Int × Int) := if pbad who t then R else if who ∈ R.map Prod.fst then R else R ++ [(who, t)]
def rcode (R : List (Int × Int)) (who : Int) : Int := if who ∈ R.map Prod.fst then 0 else 1
theorem pnext_ok {R : List (Int × Int)} (h : Rok R) (who t : Int) : Rok (pnext R who t) := by
  unfold pnext
  by_cases h1 : pbad who t
  · rw [if_pos h1]; exact h
  · rw [if_neg h1]
    by_cases h2 : who ∈ R.map Prod.fst
    · rw [if_pos h2]; exact h
    · rw [if_neg h2]; unfold pbad at h1; exact rok_put h h2 (by omega) (by omega)
theorem pnext_len (R : List (Int × Int)) (who t : Int) : (pnext R who t).length ≤ R.length + 1 := by
  unfold pnext; split
  · omega
  · split
    · omega
    · simp
theorem but_none {R : List (Int × Int)} {who : Int} (h : who ∉ R.map Prod.fst) : but R who = R :=
  List.filter_eq_self.2 (fun y hy => by
    have : y.1 ≠ who := fun e => h (List.mem_map.2 ⟨y, hy, e⟩)
    simpa using this)
theorem srt_len' (R : List (Int × Int)) : (srt R).length = R.length := srt_len R

theorem put_z {w0 w : World} {r : List Thing} {b : Nat} {R : List (Int × Int)} (who t : Int) (h : Hp w0 w (Slp b (srt R) :: r)) (hR : Rok R) (hl : R.length < 99999) :
    Calls Tryd.prog 5 #[.pointer (some ⟨b, 0, none⟩), .int .i64 who, .int .i64 t] w fun e w' => e = .returned (.int .i64 (pcode R who t)) ∧ Hp w0 w' (Slp b (srt (pnext R who t)) :: r) := by
  unfold pcode pnext
  by_cases h1 : pbad who t
  · rw [if_pos h1, if_pos h1]; exact put_arg_h who t h h1
  · rw [if_neg h1, if_neg h1]
    unfold pbad at h1
    by_cases h2 : who ∈ R.map Prod.fst
    · rw [if_pos h2, if_pos h2]; exact put_state_h who t h (by rw [srt_len]; omega) (srt_fst.2 h2) (by omega) (by omega) (by omega)
    · rw [if_neg h2, if_neg h2, srt_snoc]; exact put_h who t h (ok_srt hR) (by rw [srt_len]; omega) (fun h => h2 (srt_fst.1 h)) (by omega) (by omega) (by omega)
theorem rput_z {w0 w : World} {r : List Thing} {b : Nat} {R : List (Int × Int)} (who t : Int) (h : Hp w0 w (Rl b R :: r)) (hR : Rok R) (hl : R.length < 99999) :
    Calls Tryd.prog 6 #[.pointer (some ⟨b, 0, none⟩), .int .i64 who, .int .i64 t] w fun e w' => e = .returned (.int .i64 (pcode R who t)) ∧ Hp w0 w' (Rl b (pnext R who t) :: r) := by
  obtain ⟨v, H⟩ := Rl.un h
  unfold pcode pnext
  by_cases h1 : pbad who t
  · rw [if_pos h1, if_pos h1]
    refine (rput_bad who t H (by omega) h1).mono ?_
    rintro e w' ⟨rfl, rfl⟩; exact ⟨rfl, h⟩
  · rw [if_neg h1, if_neg h1]
    unfold pbad at h1
    by_cases h2 : who ∈ R.map Prod.fst
    · rw [if_pos h2, if_pos h2]
      refine (rput_state who t H (by omega) (by omega) (by omega) (by omega) h2).mono ?_
      rintro e w' ⟨rfl, rfl⟩; exact ⟨rfl, h⟩
    · rw [if_neg h2, if_neg h2]
      refine (rput_ok who t H (by omega) (by omega) (by omega) (by omega) h2).mono ?_
      rintro e w' ⟨rfl, v', H'⟩; exact ⟨rfl, Rl.mk' H'⟩
theorem remove_z {w0 w : World} {r : List Thing} {b : Nat} {R : List (Int × Int)} (who : Int) (h : Hp w0 w (Slp b (srt R) :: r)) (hR : Rok R) (hl : R.length < 99999) :
    Calls Tryd.prog 7 #[.pointer (some ⟨b, 0, none⟩), .int .i64 who] w fun e w' => e = .returned (.int .i64 (rcode R who)) ∧ Hp w0 w' (Slp b (srt (but R who)) :: r) := by
  unfold rcode
  by_cases h2 : who ∈ R.map Prod.fst
  · rw [if_pos h2, ← srt_but]; exact remove_h who h (ok_srt hR) (by rw [srt_len]; omega) (srt_fst.2 h2)
  · rw [if_neg h2, but_none h2]; exact remove_arg_h who h (by rw [srt_len]; omega) (fun h => h2 (srt_fst.1 h))
theorem rremove_z {w0 w : World} {r : List Thing} {b : Nat} {R : List (Int × Int)} (who : Int) (h : Hp w0 w (Rl b R :: r)) (hR : Rok R) (hl : R.length < 99999) :
    Calls Tryd.prog 8 #[.pointer (some ⟨b, 0, none⟩), .int .i64 who] w fun e w' => e = .returned (.int .i64 (rcode R who)) ∧ Hp w0 w' (Rl b (but R who) :: r) := by
  obtain ⟨v, H⟩ := Rl.un h
  unfold rcode
  by_cases h2 : who ∈ R.map Prod.fst
  · rw [if_pos h2]
    refine (rremove_ok who H (by omega) hR.nd h2).mono ?_
    rintro e w' ⟨rfl, v', H'⟩; exact ⟨rfl, Rl.mk' H'⟩
  · rw [if_neg h2, but_none h2]
    refine (rremove_no who H (by omega) h2).mono ?_
    rintro e w' ⟨rfl, rfl⟩; exact ⟨rfl, h⟩
theorem left_z {w0 w : World} {r : List Thing} {b : Nat} {R : List (Int × Int)} (who : Int) (h : Hp w0 w (Slp b (srt R) :: r)) (hR : Rok R) (hl : R.length < 99999) :
    Calls Tryd.prog 9 #[.pointer (some ⟨b, 0, none⟩), .int .i64 who] w fun e w' => e = .returned (.tuple #[.int .i64 (lf R who).1, .int .i64 (lf R who).2]) ∧ Hp w0 w' (Slp b (srt R) :: r) := by
  have := left_h who h (ok_srt hR) (by rw [srt_len]; omega)
  rw [rlf hR] at this
  exact this
theorem rleft_z {w0 w : World} {r : List Thing} {b : Nat} {R : List (Int × Int)} (who : Int) (h : Hp w0 w (Rl b R :: r)) (hl : R.length < 99999) :
    Calls Tryd.prog 10 #[.pointer (some ⟨b, 0, none⟩), .int .i64 who] w fun e w' => e = .returned (.tuple #[.int .i64 (lf R who).1, .int .i64 (lf R who).2]) ∧ w = w' := by
  obtain ⟨v, H⟩ := Rl.un h
  exact rleft_c who H (by omega)
theorem tick_z {w0 w : World} {r : List Thing} {b : Nat} {R : List (Int × Int)} (h : Hp w0 w (Slp b (srt R) :: r)) (hR : Rok R) (hl : R.length < 99999) :
    Calls Tryd.prog 11 #[.pointer (some ⟨b, 0, none⟩)] w fun e w' => ∃ v, e = .returned v ∧ Hp w0 w' (OwnI v (wake R) :: Slp b (srt (less R)) :: r) := by
  have := tick_o h (ok_srt hR) (by rw [srt_len]; omega)
  rw [srt_wake, srt_less (fun y hy => (hR.bd y hy).1)] at this
  exact this
theorem rtick_z {w0 w : World} {r : List Thing} {b : Nat} {R : List (Int × Int)} (h : Hp w0 w (Rl b R :: r)) (hR : Rok R) (hl : R.length < 99999) :
    Calls Tryd.prog 13 #[.pointer (some ⟨b, 0, none⟩)] w fun e w' => ∃ v, e = .returned v ∧ Hp w0 w' (OwnI v (wake R) :: Rl b (less R) :: r) := by
  obtain ⟨v, H⟩ := Rl.un h
  refine (rtick_c H (by omega) hR).mono ?_
  rintro e w' ⟨u, rfl, v', H'⟩
  exact ⟨u, rfl, (Rl.mk' (H'.perm ((List.Perm.swap _ _ _).trans (List.Perm.cons _ (List.Perm.swap _ _ _))))).up1⟩
theorem all_z {w0 w : World} {r : List Thing} {b : Nat} {R : List (Int × Int)} (h : Hp w0 w (Slp b (srt R) :: r)) (hl : R.length < 99999) :
    Calls Tryd.prog 15 #[.pointer (some ⟨b, 0, none⟩)] w fun e w' => ∃ v, e = .returned v ∧ Hp w0 w' (OwnI v (Qs R) :: Slp b (srt R) :: r) := all_o h (by rw [srt_len]; omega)
theorem rall_z {w0 w : World} {r : List Thing} {b : Nat} {R : List (Int × Int)} (h : Hp w0 w (Rl b R :: r)) (hR : Rok R) (hl : R.length < 99999) :
    Calls Tryd.prog 16 #[.pointer (some ⟨b, 0, none⟩)] w fun e w' => ∃ v, e = .returned v ∧ Hp w0 w' (OwnI v (Qs R) :: Rl b R :: r) := by
  obtain ⟨v, H⟩ := Rl.un h
  refine (rall_c H (by omega) hR).mono ?_
  rintro e w' ⟨u, rfl, H'⟩
  exact ⟨u, rfl, (Rl.mk' (H'.perm ((List.Perm.swap _ _ _).trans (List.Perm.cons _ (List.Perm.swap _ _ _))))).up1⟩
end Go.Proofs.YtgcakjcljfhmpaaDoor
