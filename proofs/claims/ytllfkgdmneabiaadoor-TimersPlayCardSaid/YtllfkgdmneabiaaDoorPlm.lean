/- Who sleeps behind some ticks: how many, in which order, how many ticks each one has left. No program in sight. -/
import Derived.Test.YtllfkgdmneabiaaDoorPln
set_option linter.unusedVariables false
set_option linter.unusedSimpArgs false
namespace Go.Proofs.YtllfkgdmneabiaaDoor
open Go.RowKit Go.Shelf

theorem lessN_eq {l : List (Int × Int)} (h : Ok l) : ∀ n : Nat, lessN l n = (l.filter (fun y => decide ((n : Int) < y.2))).map (fun y => (y.1, y.2 - (n : Int)))
  | 0 => by
    rw [List.filter_eq_self.2 (fun y hy => by have := h.bd y hy; simp; omega)]
    simp [lessN]
  | n + 1 => by
    have hf : (l.filter (fun y => decide ((n : Int) < y.2))).filter ((fun y : Int × Int => y.2 != 1) ∘ fun y => (y.1, y.2 - (n : Int))) = l.filter (fun y => decide (((n + 1 : Nat) : Int) < y.2)) := by
      rw [List.filter_filter]
      refine List.filter_congr fun y _ => ?_
      simp only [Function.comp]
      rw [Bool.eq_iff_iff]; simp; omega
    have hs : lessN l (n + 1) = less (lessN l n) := rfl
    rw [hs, lessN_eq h n, less, List.filter_map, List.map_map, hf]
    refine List.map_congr_left fun y _ => ?_
    simp only [Function.comp]
    congr 1; omega
theorem lf_in {l : List (Int × Int)} (h : Ok l) {y : Int × Int} (hy : y ∈ l) : lf l y.1 = (y.2, 0) := by
  unfold lf
  cases e : l.find? (fun z => z.1 == y.1) with
  | none => have := List.find?_eq_none.1 e y hy; simp at this
  | some z =>
    have h1 : z.1 = y.1 := by simpa using List.find?_some e
    have h2 := List.mem_of_find?_eq_some e
    have : z = y := by
      obtain ⟨i, hi, rfl⟩ := List.getElem_of_mem h2
      obtain ⟨j, hj, rfl⟩ := List.getElem_of_mem hy
      have hij : i = j := (List.getElem_inj (xs := l.map Prod.fst) (i := i) (j := j) (h₀ := by simpa using hi) (h₁ := by simpa using hj) h.nd).1 (by simpa using h1)
      subst hij; rfl
    rw [this]
theorem lf_out {l : List (Int × Int)} {who : Int} (h : who ∉ l.map Prod.fst) : lf l who = (0, 1) := by
  unfold lf
  rw [List.find?_eq_none.2 (fun y hy => by simp; intro e; exact h (List.mem_map.2 ⟨y, hy, e⟩))]

theorem mem_gone {ts : List Int} (h : ∀ i, 0 ≤ ts.getD i 0 ∧ ts.getD i 0 < 256) {n g : Nat} {y : Int × Int} : y ∈ lessN (fil ts n) g ↔ ∃ i : Nat, i < n ∧ (g : Int) < ts.getD i 0 + 1 ∧ y = ((i : Int), ts.getD i 0 + 1 - g) := by
  rw [lessN_eq (ok_fil h n)]
  simp only [List.mem_map, List.mem_filter, decide_eq_true_eq, fil_mem]
  constructor
  · rintro ⟨x, ⟨⟨i, h1, rfl⟩, h2⟩, rfl⟩; exact ⟨i, h1, h2, rfl⟩
  · rintro ⟨i, h1, h2, rfl⟩; exact ⟨_, ⟨⟨i, h1, rfl⟩, h2⟩, rfl⟩
theorem lf_gone {ts : List Int} (h : ∀ i, 0 ≤ ts.getD i 0 ∧ ts.getD i 0 < 256) {n g : Nat} (i : Nat) (hi : i < n) : lf (lessN (fil ts n) g) i = if 0 < ts.getD i 0 + 1 - g then (ts.getD i 0 + 1 - g, 0) else (0, 1) := by
  by_cases hp : 0 < ts.getD i 0 + 1 - (g : Int)
  · rw [if_pos hp]
    exact lf_in (ok_lessN (ok_fil h n) g) (y := ((i : Int), ts.getD i 0 + 1 - g)) ((mem_gone h).2 ⟨i, hi, by omega, rfl⟩)
  · rw [if_neg hp]
    refine lf_out fun hm => ?_
    obtain ⟨y, hy, e⟩ := List.mem_map.1 hm
    obtain ⟨j, h1, h2, rfl⟩ := (mem_gone h).1 hy
    have : j = i := by simp only at e; omega
    subst this
    omega

theorem ins_perm : ∀ (l : List (Int × Int)) (who t : Int), (ins l who t).Perm ((who, t) :: l)
  | [], _, _ => List.Perm.refl _
  | x :: r, who, t => by
    unfold ins
    split
    · exact List.Perm.refl _
    · exact ((ins_perm r who t).cons x).trans (List.Perm.swap _ _ _)
/-- How many of the first ones have more ticks than went by. -/
def cnt (ts : List Int) (g k : Nat) : Nat := ((List.range k).filter (fun i => decide (0 < ts.getD i 0 + 1 - (g : Int)))).length
theorem cnt_succ (ts : List Int) (g k : Nat) : cnt ts g (k + 1) = if 0 < ts.getD k 0 + 1 - (g : Int) then cnt ts g k + 1 else cnt ts g k := by
  unfold cnt
  rw [List.range_succ, List.filter_append, List.length_append]
  by_cases h : 0 < ts.getD k 0 + 1 - (g : Int)
  · rw [if_pos h, List.filter_cons, if_pos (by simpa using h)]; rfl
  · rw [if_neg h, List.filter_cons, if_neg (by simpa using h)]; rfl
theorem cnt_le (ts : List Int) (g k : Nat) : cnt ts g k ≤ k := Nat.le_trans (List.length_filter_le _ _) (by simp)
theorem cnt_fil (ts : List Int) (g : Nat) : ∀ k, ((fil ts k).filter (fun y => decide ((g : Int) < y.2))).length = cnt ts g k
  | 0 => rfl
  | k + 1 => by
    rw [fil, ((ins_perm _ _ _).filter _).length_eq, cnt_succ, ← cnt_fil ts g k, List.filter_cons]
    by_cases h : 0 < ts.getD k 0 + 1 - (g : Int)
    · rw [if_pos h, if_pos (by simp only [decide_eq_true_eq]; omega)]; rfl
    · rw [if_neg h, if_neg (by simp only [decide_eq_true_eq]; omega)]
theorem len_gone {ts : List Int} (h : ∀ i, 0 ≤ ts.getD i 0 ∧ ts.getD i 0 < 256) (n g : Nat) : (lessN (fil ts n) g).length = cnt ts g n := by
  rw [lessN_eq (ok_fil h n), List.length_map, cnt_fil]

/-- By ticks, then by place. -/
def Lex (a b : Int × Int) : Prop := a.2 < b.2 ∨ (a.2 = b.2 ∧ a.1 < b.1)
theorem ins_lex : ∀ {l : List (Int × Int)} {who t : Int}, l.Pairwise Lex → (∀ y ∈ l, y.1 < who) → (ins l who t).Pairwise Lex
  | [], _, _, _, _ => by simp [ins]
  | x :: r, who, t, h, hw => by
    have h' := List.pairwise_cons.1 h
    unfold ins
    split
    · refine List.pairwise_cons.2 ⟨fun y hy => ?_, h⟩
      rcases List.mem_cons.1 hy with rfl | hy
      · exact Or.inl (by simp only; omega)
      · rcases h'.1 y hy with h1 | ⟨h1, _⟩
        · exact Or.inl (by simp only; omega)
        · exact Or.inl (by simp only; omega)
    · refine List.pairwise_cons.2 ⟨fun y hy => ?_, ins_lex h'.2 (fun y hy => hw y (by simp [hy]))⟩
      rcases ins_mem.1 hy with rfl | hy
      · have := hw x (by simp)
        by_cases e : x.2 = t
        · exact Or.inr ⟨e, this⟩
        · exact Or.inl (by simp only; omega)
      · exact h'.1 y hy
theorem fil_lex (ts : List Int) : ∀ k, (fil ts k).Pairwise Lex
  | 0 => List.Pairwise.nil
  | k + 1 => ins_lex (fil_lex ts k) (fun y hy => by obtain ⟨i, h, rfl⟩ := fil_mem.1 hy; simp only; omega)
theorem gone_lex {ts : List Int} (h : ∀ i, 0 ≤ ts.getD i 0 ∧ ts.getD i 0 < 256) (n g : Nat) : (lessN (fil ts n) g).Pairwise Lex := by
  rw [lessN_eq (ok_fil h n)]
  exact List.Pairwise.map _ (fun a b (hab : Lex a b) => by unfold Lex at *; simp only; omega) ((fil_lex ts n).filter _)
/-- Two that are told one behind the other. -/
theorem gone_next {ts : List Int} (h : ∀ i, 0 ≤ ts.getD i 0 ∧ ts.getD i 0 < 256) (n g k : Nat) (hk : k + 1 < ((lessN (fil ts n) g).map Prod.fst).length) :
    ∃ i j : Nat, i < n ∧ j < n ∧ ((lessN (fil ts n) g).map Prod.fst)[k]'(by omega) = i ∧ ((lessN (fil ts n) g).map Prod.fst)[k + 1] = j ∧ (ts.getD i 0 < ts.getD j 0 ∨ (ts.getD i 0 = ts.getD j 0 ∧ i < j)) := by
  have hk' : k + 1 < (lessN (fil ts n) g).length := by simpa using hk
  have hl := List.pairwise_iff_getElem.1 (gone_lex h n g) k (k + 1) (by omega) hk' (by omega)
  obtain ⟨i, i1, i2, i3⟩ := (mem_gone h).1 (List.getElem_mem (show k < (lessN (fil ts n) g).length by omega))
  obtain ⟨j, j1, j2, j3⟩ := (mem_gone h).1 (List.getElem_mem hk')
  refine ⟨i, j, i1, j1, by rw [List.getElem_map, i3], by rw [List.getElem_map, j3], ?_⟩
  rw [i3, j3] at hl
  unfold Lex at hl
  simp only at hl
  omega
end Go.Proofs.YtllfkgdmneabiaaDoor
