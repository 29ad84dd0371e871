/- Images: what an image's bytes tell: plain. -/
import Derived.Test.YtcfoljdpffonhaaGreatDoorLe
set_option linter.unusedVariables false
set_option linter.unusedSimpArgs false
namespace Go.Proofs.YtcfoljdpffonhaaGreatDoor
open Go.RowKit Go.Joins Go.Shelf

theorem imput_cons (n : Nat) (d : List UInt8) (c : List I4) : imput n d c = 116 :: 107 :: 49 :: UInt8.ofNat (n / 256) :: UInt8.ofNat (n % 256) :: UInt8.ofNat (d.length / 256) :: UInt8.ofNat (d.length % 256) :: UInt8.ofNat (c.length / 256) :: UInt8.ofNat (c.length % 256) :: (d ++ ibs c) := by
  simp [imput, two]
theorem imput_len (n : Nat) (d : List UInt8) (c : List I4) : (imput n d c).length = 9 + d.length + 4 * c.length := by
  have := ibs_len c
  rw [imput_cons]
  simp only [List.length_cons, List.length_append, this]
  omega
theorem imput_le (n : Nat) (d : List UInt8) (c : List I4) : (imput n d c).length ≤ 9 + d.length + 4 * c.length ∧ 9 + d.length + 4 * c.length ≤ (imput n d c).length := by rw [imput_len]; exact ⟨Nat.le_refl _, Nat.le_refl _⟩
theorem two_inj {a b : Nat} (ha : a < 65536) (hb : b < 65536) (h1 : UInt8.ofNat (a / 256) = UInt8.ofNat (b / 256)) (h2 : UInt8.ofNat (a % 256) = UInt8.ofNat (b % 256)) : a = b := by
  have e1 := (two_eq a ha).2
  have e2 := (two_eq b hb).2
  rw [h1, h2] at e1
  exact e1.symm.trans e2
/-- The first nine bytes tell the three numbers. -/
theorem head_inj {n m : Nat} {d e : List UInt8} {c f : List I4} (h : imck n d c = true) (h' : imck m e f = true) (hh : (imput n d c).take 9 = (imput m e f).take 9) : n = m ∧ d.length = e.length ∧ c.length = f.length := by
  obtain ⟨_, h2, h3, h4, _⟩ := imck_bounds h
  obtain ⟨_, k2, k3, k4, _⟩ := imck_bounds h'
  rw [imput_cons, imput_cons] at hh
  simp only [List.take_succ_cons, List.take_zero, List.cons.injEq, true_and, and_true] at hh
  obtain ⟨x1, x2, x3, x4, x5, x6⟩ := hh
  exact ⟨two_inj (by omega) (by omega) x1 x2, two_inj (by omega) (by omega) x3 x4, two_inj (by omega) (by omega) x5 x6⟩
theorem get_more {n : Nat} {d : List UInt8} {c : List I4} (h : imck n d c = true) (x : UInt8) : imget (imput n d c ++ [x]) = none := by
  cases hg : imget (imput n d c ++ [x]) with
  | none => rfl
  | some p =>
    obtain ⟨m, e, f⟩ := p
    obtain ⟨hk, hp⟩ := imget_some hg
    have hl := congrArg List.length hp
    have ht := congrArg (List.take 9) hp
    rw [List.take_append_of_le_length (by rw [imput_len]; omega)] at ht
    obtain ⟨_, h2, h3⟩ := head_inj hk h ht
    rw [List.length_append, imput_len, imput_len, List.length_singleton] at hl
    omega
theorem get_less {n : Nat} {d : List UInt8} {c : List I4} (h : imck n d c = true) (k : Nat) (hk : k < (imput n d c).length) : imget ((imput n d c).take k) = none := by
  cases hg : imget ((imput n d c).take k) with
  | none => rfl
  | some p =>
    obtain ⟨m, e, f⟩ := p
    obtain ⟨hk', hp⟩ := imget_some hg
    have hl := congrArg List.length hp
    have ht := congrArg (List.take 9) hp
    rw [List.length_take, imput_len] at hl
    rw [List.take_take, Nat.min_eq_left (by omega)] at ht
    obtain ⟨_, h2, h3⟩ := head_inj hk' h ht
    rw [imput_len] at hk hl
    omega
theorem set_self {α : Type} {l : List α} {j : Nat} {x : α} (h : l[j]? = some x) : l.set j x = l := by
  obtain ⟨hj, e⟩ := List.getElem?_eq_some_iff.1 h
  subst e; exact List.set_getElem_self hj
theorem get_set {n : Nat} {d : List UInt8} {c : List I4} (h : imck n d c = true) (j : Nat) (hj : j < 3) (x : UInt8) : (imget ((imput n d c).set j x)).isSome = decide ((imput n d c).set j x = imput n d c) := by
  by_cases e : (imput n d c).set j x = imput n d c
  · rw [e, imget_put h]; simp
  · rw [decide_eq_false e]
    cases hg : imget ((imput n d c).set j x) with
    | none => rfl
    | some p =>
      obtain ⟨m, e', f⟩ := p
      exfalso
      apply e
      obtain ⟨_, hp⟩ := imget_some hg
      have ht := congrArg (fun l => l[j]?) hp
      rw [List.getElem?_set_self (by rw [imput_len]; omega)] at ht
      have hs : (imput m e' f)[j]? = (imput n d c)[j]? := by
        rw [imput_cons, imput_cons]
        match j, hj with
        | 0, _ => rfl
        | 1, _ => rfl
        | 2, _ => rfl
      rw [hs] at ht
      exact set_self ht
theorem ibs_get : ∀ (l : List I4) (k o : Nat) (h : k < l.length), o < 4 → (ibs l)[k * 4 + o]? = (i4b l[k])[o]?
  | [], k, o, h, _ => by simp at h
  | x :: l, 0, o, h, ho => by
    have : (i4b x).length = 4 := rfl
    simp only [ibs, List.flatMap_cons, Nat.zero_mul, Nat.zero_add, List.getElem_cons_zero]
    rw [List.getElem?_append_left (by omega)]
  | x :: l, k + 1, o, h, ho => by
    have ih := ibs_get l k o (by simpa using h) ho
    have : (i4b x).length = 4 := rfl
    simp only [ibs, List.flatMap_cons, List.getElem_cons_succ] at *
    rw [List.getElem?_append_right (by omega), this, show (k + 1) * 4 + o - 4 = k * 4 + o by omega]
    exact ih
theorem imput_at {n : Nat} {d : List UInt8} {c : List I4} {k o : Nat} (hk : k < c.length) (ho : o < 4) : (imput n d c)[9 + d.length + k * 4 + o]? = (i4b c[k])[o]? := by
  rw [imput_cons, ← ibs_get c k o hk ho]
  rw [show 9 + d.length + k * 4 + o = (d.length + (k * 4 + o)) + 1 + 1 + 1 + 1 + 1 + 1 + 1 + 1 + 1 by omega]
  simp only [List.getElem?_cons_succ]
  rw [List.getElem?_append_right (by omega)]
  congr 1
  omega
theorem get_op {n : Nat} {d : List UInt8} {c : List I4} (h : imck n d c = true) (k : Nat) (hk : k < c.length) : imget ((imput n d c).set (9 + d.length + k * 4) 200) = none := by
  cases hg : imget ((imput n d c).set (9 + d.length + k * 4) 200) with
  | none => rfl
  | some p =>
    obtain ⟨m, e, f⟩ := p
    obtain ⟨hk', hp⟩ := imget_some hg
    have ht := congrArg (List.take 9) hp
    rw [List.take_set_of_le (by omega)] at ht
    obtain ⟨_, h2, h3⟩ := head_inj hk' h ht
    have hi := congrArg (fun l => l[9 + d.length + k * 4]?) hp
    rw [List.getElem?_set_self (by rw [imput_len]; omega)] at hi
    have h4 := imput_at (n := m) (d := e) (c := f) (k := k) (o := 0) (by omega) (by omega)
    rw [h2, Nat.add_zero, hi] at h4
    have hall := (imck_bounds hk').2.2.2.2
    have := List.all_eq_true.1 hall f[k] (List.getElem_mem (by omega))
    have h5 : f[k].1 = 200 := by
      have : (i4b f[k])[0]? = some f[k].1 := rfl
      rw [this] at h4; exact (Option.some.inj h4).symm
    unfold ik ck at this
    rw [h5] at this
    simp at this
/-- A number among the three. -/
theorem num_at (n : Nat) (d : List UInt8) (c : List I4) (h : n < 65536 ∧ d.length < 65536 ∧ c.length < 65536) (k : Nat) (hk : k < 3) : ∃ x y : UInt8, (imput n d c)[3 + 2 * k]? = some x ∧ (imput n d c)[4 + 2 * k]? = some y ∧ x.toNat * 256 + y.toNat = [n, d.length, c.length].getD k 0 := by
  rw [imput_cons]
  match k, hk with
  | 0, _ => exact ⟨_, _, rfl, rfl, (two_eq n h.1).2⟩
  | 1, _ => exact ⟨_, _, rfl, rfl, (two_eq d.length h.2.1).2⟩
  | 2, _ => exact ⟨_, _, rfl, rfl, (two_eq c.length h.2.2).2⟩
theorem imput_data (n : Nat) (d : List UInt8) (c : List I4) : ((imput n d c).drop 9).take d.length = d := by
  rw [imput_cons]
  simp
theorem imput_code {n : Nat} {d : List UInt8} {c : List I4} {k : Nat} (hk : k < c.length) : ((imput n d c).drop (9 + d.length + k * 4)).take 4 = i4b c[k] := by
  apply List.ext_getElem?
  intro o
  by_cases ho : o < 4
  · rw [List.getElem?_take_of_lt ho, List.getElem?_drop, imput_at hk ho]
  · rw [List.getElem?_eq_none (by rw [List.length_take]; omega), List.getElem?_eq_none (by show 4 ≤ o; omega)]
/-- A part of what lies one behind the other. -/
theorem CellsIn.part {w : World} {g o : Nat} {cs : List Value} (h : CellsIn w (some ⟨g, o, none⟩) cs) (k m : Nat) : CellsIn w (some ⟨g, o + k, none⟩) ((cs.drop k).take m) := fun j hj => by
  rw [List.length_take, List.length_drop] at hj
  obtain ⟨g', o', e, hc⟩ := h (k + j) (by omega)
  cases e
  refine ⟨g, o + k, rfl, ?_⟩
  rw [Nat.add_assoc, hc]
  simp
end Go.Proofs.YtcfoljdpffonhaaGreatDoor
