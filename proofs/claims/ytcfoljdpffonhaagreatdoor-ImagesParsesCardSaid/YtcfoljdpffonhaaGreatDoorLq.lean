/- Images: great; two images' bytes: plain. -/
import Derived.Test.YtcfoljdpffonhaaGreatDoorLp
set_option linter.unusedVariables false
set_option linter.unusedSimpArgs false
namespace Go.Proofs.YtcfoljdpffonhaaGreatDoor
open Go.RowKit Go.Joins Go.Shelf
attribute [local go_sem] Oper.semAt_some

def grt (d : List UInt8) (c : List I4) : Bool := decide (5000 < d.length) || decide (1100 < c.length)
set_option maxHeartbeats 2000000 in
set_option maxRecDepth 20000 in
theorem great_c (n : Int) (ad ac : Option Addr) (dc cc : Nat) (d : List UInt8) (c : List I4) (w : World) :
    Calls Tryz.prog 7 #[imV n ad d.length dc ac c.length cc] w fun e w' => e = .returned (.bool (grt d c)) ∧ Below w.heap.size w w' := by
  have H1 := Lib.hid (blk_new (Hp.start w) (.cells #[.int .i64 n, .slice ad d.length dc, .slice ac c.length cc] 25))
  have hg : grt d c = (decide (5000 < d.length) || decide (1100 < c.length)) := rfl
  generalize grt d c = g at *
  by_cases h1 : 5000 < d.length
  · have d1 : decide ((5000 : Int) < (d.length : Int)) = true := by simp; omega
    obtain rfl : g = true := by rw [hg]; simp [h1]
    clear hg
    go_enter Tryz.func7, Tryz.ntmps7
    go_wp2
    go_ret
    exact ⟨rfl, H1.out.below⟩
  · have d1 : decide ((5000 : Int) < (d.length : Int)) = false := by simp; omega
    by_cases h2 : 1100 < c.length
    · have d2 : decide ((1100 : Int) < (c.length : Int)) = true := by simp; omega
      obtain rfl : g = true := by rw [hg]; simp [h2]
      clear hg
      go_enter Tryz.func7, Tryz.ntmps7
      go_wp2
      go_ret
      exact ⟨rfl, H1.out.below⟩
    · have d2 : decide ((1100 : Int) < (c.length : Int)) = false := by simp; omega
      obtain rfl : g = false := by rw [hg]; simp [h1, h2]
      clear hg
      go_enter Tryz.func7, Tryz.ntmps7
      go_wp2
      go_ret
      exact ⟨rfl, H1.out.below⟩
theorem imput_inj {n m : Nat} {d e : List UInt8} {c f : List I4} (h : imck n d c = true) (h' : imck m e f = true) : decide (imput n d c = imput m e f) = (decide ((n : Int) = m) && decide (d = e) && decide (c = f)) := by
  have h1 := imget_put h
  have h2 := imget_put h'
  by_cases he : imput n d c = imput m e f
  · rw [he, h2] at h1
    simp only [Option.some.injEq, Prod.mk.injEq] at h1
    obtain ⟨rfl, rfl, rfl⟩ := h1
    simp
  · have : ¬ ((n : Int) = m ∧ d = e ∧ c = f) := by
      rintro ⟨h1, rfl, rfl⟩
      have : n = m := by omega
      subst this
      exact he rfl
    rw [decide_eq_false he]
    symm
    rw [Bool.eq_false_iff]
    intro h3
    simp only [Bool.and_eq_true, decide_eq_true_eq] at h3
    exact this ⟨h3.1.1, h3.1.2, h3.2⟩
theorem imput_short {n : Nat} {d : List UInt8} {c : List I4} (h : imck n d c = true) : (imput n d c).length < 100000 := by
  obtain ⟨_, h2, h3, h4, _⟩ := imck_bounds h
  have := ibs_len c
  unfold imput
  simp only [List.length_append, two, List.length_cons, List.length_nil, this]
  omega
end Go.Proofs.YtcfoljdpffonhaaGreatDoor
