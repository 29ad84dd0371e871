/- The document's list of sleepers, in the order in which they were put, beside those by when they wake. No program in sight. -/
import Derived.Test.YtllfkgdmneabiaaDoorTmp
set_option linter.unusedVariables false
set_option linter.unusedSimpArgs false
namespace Go.Proofs.YtllfkgdmneabiaaDoor
open Go.RowKit Go.Shelf

/-- By when they wake: each one put behind the others. -/
def srtr : List (Int × Int) → List (Int × Int)
  | [] => []
  | y :: r => ins (srtr r) y.1 y.2
def srt (R : List (Int × Int)) : List (Int × Int) := srtr R.reverse
theorem srt_snoc (R : List (Int × Int)) (y : Int × Int) : srt (R ++ [y]) = ins (srt R) y.1 y.2 := by simp [srt, srtr]
theorem srtr_mem : ∀ {r : List (Int × Int)} {y : Int × Int}, y ∈ srtr r ↔ y ∈ r
  | [], y => by simp [srtr]
  | x :: r, y => by simp [srtr, ins_mem, srtr_mem (r := r)]
theorem srt_mem {R : List (Int × Int)} {y : Int × Int} : y ∈ srt R ↔ y ∈ R := by simp [srt, srtr_mem]
theorem srtr_len : ∀ r : List (Int × Int), (srtr r).length = r.length
  | [] => rfl
  | x :: r => by simp [srtr, ins_len, srtr_len r]
theorem srt_len (R : List (Int × Int)) : (srt R).length = R.length := by simp [srt, srtr_len]
theorem srtr_srt : ∀ r : List (Int × Int), (srtr r).Pairwise (fun a b => a.2 ≤ b.2)
  | [] => List.Pairwise.nil
  | x :: r => ins_srt (srtr_srt r)
theorem srtr_fst : ∀ {r : List (Int × Int)} {x : Int}, x ∈ (srtr r).map Prod.fst ↔ x ∈ r.map Prod.fst := by
  intro r x; simp only [List.mem_map, srtr_mem]
theorem srt_fst {R : List (Int × Int)} {x : Int} : x ∈ (srt R).map Prod.fst ↔ x ∈ R.map Prod.fst := by simp only [List.mem_map, srt_mem]
/-- Sleepers as they may be. -/
structure Rok (R : List (Int × Int)) : Prop where
  bd : ∀ y ∈ R, 1 ≤ y.2 ∧ y.2 ≤ 1073741824
  nd : (R.map Prod.fst).Nodup
theorem srtr_nd : ∀ {r : List (Int × Int)}, (r.map Prod.fst).Nodup → ((srtr r).map Prod.fst).Nodup
  | [], _ => by simp [srtr]
  | x :: r, h => by
    have h' := List.nodup_cons.1 h
    exact ins_nd (srtr_nd h'.2) (fun hm => h'.1 (srtr_fst.1 hm))
theorem ok_srt {R : List (Int × Int)} (h : Rok R) : Ok (srt R) :=
  ⟨srtr_srt _, fun y hy => h.bd y (srt_mem.1 hy), srtr_nd (by rw [List.map_reverse]; unfold List.Nodup; rw [List.pairwise_reverse]; exact h.nd.imp (fun h => Ne.symm h))⟩
theorem srtr_but (who : Int) : ∀ r : List (Int × Int), but (srtr r) who = srtr (but r who)
  | [] => rfl
  | x :: r => by
    simp only [srtr]
    rw [ins_but (srtr_srt r), srtr_but who r]
    by_cases h : x.1 = who
    · rw [if_pos h]; simp [but, h]
    · rw [if_neg h]; simp [but, h, srtr]
theorem srt_but (R : List (Int × Int)) (who : Int) : but (srt R) who = srt (but R who) := by
  unfold srt; rw [srtr_but]; congr 1; unfold but; rw [List.filter_reverse]
theorem wake_ins : ∀ {l : List (Int × Int)} {who t : Int}, l.Pairwise (fun a b => a.2 ≤ b.2) → wake (ins l who t) = if t = 1 then wake l ++ [who] else wake l := by
  intro l who t h
  have := grp_ins (l := l) (who := who) (t := t) (v := 1) h
  exact this
theorem srtr_wake : ∀ r : List (Int × Int), wake (srtr r) = wake r.reverse
  | [] => rfl
  | x :: r => by
    simp only [srtr]
    rw [wake_ins (srtr_srt r), srtr_wake r, List.reverse_cons]
    unfold wake
    rw [List.filter_append, List.map_append]
    by_cases h : x.2 = 1
    · rw [if_pos h]; simp [h]
    · rw [if_neg h]; simp [h]
theorem srt_wake (R : List (Int × Int)) : wake (srt R) = wake R := by unfold srt; rw [srtr_wake, List.reverse_reverse]
theorem less_ins : ∀ {l : List (Int × Int)} {who t : Int}, l.Pairwise (fun a b => a.2 ≤ b.2) → (∀ y ∈ l, 1 ≤ y.2) → less (ins l who t) = if t = 1 then less l else ins (less l) who (t - 1)
  | [], who, t, _, _ => by by_cases h : t = 1 <;> simp [ins, less, h]
  | y :: r, who, t, hp, hb => by
    have hp' := List.pairwise_cons.1 hp
    have hb' := hb y (by simp)
    have ih := less_ins (l := r) (who := who) (t := t) hp'.2 (fun z hz => hb z (by simp [hz]))
    by_cases hgt : y.2 > t
    · have e1 : ins (y :: r) who t = (who, t) :: y :: r := by simp [ins, hgt]
      rw [e1]
      by_cases h : t = 1
      · rw [if_pos h]; simp [less, h]
      · rw [if_neg h]
        have hy1 : y.2 ≠ 1 ∨ y.2 = 1 := by omega
        have e2 : ∀ s : List (Int × Int), (∀ z ∈ s, z.2 > t - 1) → ins s who (t - 1) = (who, t - 1) :: s := by
          intro s hs
          cases s with
          | nil => rfl
          | cons z s => simp [ins, hs z (by simp)]
        rw [e2]
        · simp [less, h]
        · intro z hz
          unfold less at hz
          obtain ⟨u, hu, rfl⟩ := List.mem_map.1 hz
          have hu1 := (List.mem_filter.1 hu).1
          rcases List.mem_cons.1 hu1 with rfl | hu1
          · simp only; omega
          · have := hp'.1 u hu1; simp only; omega
    · have e1 : ins (y :: r) who t = y :: ins r who t := by simp [ins, hgt]
      rw [e1]
      by_cases hy : y.2 = 1
      · have a1 : less (y :: ins r who t) = less (ins r who t) := by simp [less, hy]
        have a2 : less (y :: r) = less r := by simp [less, hy]
        rw [a1, a2, ih]
      · have a1 : less (y :: ins r who t) = (y.1, y.2 - 1) :: less (ins r who t) := by simp [less, hy]
        have a2 : less (y :: r) = (y.1, y.2 - 1) :: less r := by simp [less, hy]
        rw [a1, a2, ih]
        have ht : ¬ t = 1 := by omega
        rw [if_neg ht, if_neg ht]
        have : ¬ (y.2 - 1 > t - 1) := by omega
        simp [ins, this]
theorem srtr_less : ∀ r : List (Int × Int), (∀ y ∈ r, 1 ≤ y.2) → less (srtr r) = srtr (less r)
  | [], _ => rfl
  | x :: r, h => by
    simp only [srtr]
    rw [less_ins (srtr_srt r) (fun y hy => h y (by simp [srtr_mem.1 hy])), srtr_less r (fun y hy => h y (by simp [hy]))]
    by_cases hx : x.2 = 1
    · rw [if_pos hx]; simp [less, hx]
    · rw [if_neg hx]; simp [less, hx, srtr]
theorem srt_less {R : List (Int × Int)} (h : ∀ y ∈ R, 1 ≤ y.2) : less (srt R) = srt (less R) := by
  unfold srt
  rw [srtr_less _ (fun y hy => h y (by simpa using hy))]
  congr 1; unfold less; rw [List.filter_reverse, List.map_reverse]
theorem rok_nil : Rok [] := ⟨by simp, by simp⟩
theorem rok_put {R : List (Int × Int)} (h : Rok R) {who t : Int} (hn : who ∉ R.map Prod.fst) (h1 : 1 ≤ t) (h2 : t ≤ 1073741824) : Rok (R ++ [(who, t)]) := by
  refine ⟨fun y hy => ?_, ?_⟩
  · rcases List.mem_append.1 hy with hy | hy
    · exact h.bd y hy
    · simp at hy; subst hy; exact ⟨h1, h2⟩
  · rw [List.map_append, List.nodup_append]
    refine ⟨h.nd, by simp, fun a ha b hb => ?_⟩
    simp at hb; subst hb
    exact fun e => hn (e ▸ ha)
theorem rok_but {R : List (Int × Int)} (h : Rok R) (who : Int) : Rok (but R who) :=
  ⟨fun y hy => h.bd y (but_mem.1 hy).1, h.nd.sublist (List.filter_sublist.map _)⟩
theorem rok_less {R : List (Int × Int)} (h : Rok R) : Rok (less R) := by
  refine ⟨fun y hy => ?_, ?_⟩
  · obtain ⟨a, b⟩ := y
    obtain ⟨h1, h2⟩ := mem_less.1 hy
    have := h.bd _ h1
    simp only at this ⊢; omega
  · have : (less R).map Prod.fst = (R.filter (fun y => y.2 != 1)).map Prod.fst := by simp [less, List.map_map, Function.comp_def]
    rw [this]
    exact h.nd.sublist (List.filter_sublist.map _)
theorem rlf {R : List (Int × Int)} (h : Rok R) (who : Int) : lf (srt R) who = lf R who := by
  by_cases hm : who ∈ R.map Prod.fst
  · obtain ⟨⟨a, b⟩, hy, rfl⟩ := List.mem_map.1 hm
    rw [lf_in (ok_srt h) (srt_mem.2 hy)]
    unfold lf
    cases e : R.find? (fun z => z.1 == a) with
    | none => have := List.find?_eq_none.1 e (a, b) hy; simp at this
    | some z =>
      have h1 : z.1 = a := by simpa using List.find?_some e
      have h2 := List.mem_of_find?_eq_some e
      have := uniq (ok_srt h) (x := a) (s := z.2) (t := b) (srt_mem.2 (by rw [← h1]; exact h2)) (srt_mem.2 hy)
      simp [this]
  · rw [lf_out (fun h => hm (srt_fst.1 h)), lf_out hm]

/-! ### Told by when they wake: each time the first one of those with the fewest ticks. -/
/-- The order, with the places in which they were put. -/
def Lq (R : List (Int × Int)) (a b : Int × Int) : Prop := a.2 < b.2 ∨ (a.2 = b.2 ∧ ∃ p q : Nat, p < q ∧ R[p]? = some a ∧ R[q]? = some b)
theorem ins_lq {R l : List (Int × Int)} {y : Int × Int} (hl : l.Pairwise (Lq R)) (hm : ∀ z ∈ l, z ∈ R) : (ins l y.1 y.2).Pairwise (Lq (R ++ [y])) := by
  have up : ∀ {a b}, Lq R a b → Lq (R ++ [y]) a b := by
    rintro a b (h | ⟨h, p, q, h1, h2, h3⟩)
    · exact Or.inl h
    · refine Or.inr ⟨h, p, q, h1, ?_, ?_⟩
      · rw [List.getElem?_append_left ((List.getElem?_eq_some_iff.1 h2).1)]; exact h2
      · rw [List.getElem?_append_left ((List.getElem?_eq_some_iff.1 h3).1)]; exact h3
  induction l with
  | nil => simp [ins]
  | cons x r ih =>
    have hl' := List.pairwise_cons.1 hl
    unfold ins
    split
    · rename_i hgt
      refine List.pairwise_cons.2 ⟨fun z hz => Or.inl ?_, hl.imp up⟩
      rcases List.mem_cons.1 hz with rfl | hz
      · exact hgt
      · rcases hl'.1 z hz with h | ⟨h, _⟩ <;> (show y.2 < z.2; omega)
    · rename_i hgt
      refine List.pairwise_cons.2 ⟨fun z hz => ?_, ih hl'.2 (fun z hz => hm z (by simp [hz]))⟩
      rcases ins_mem.1 hz with rfl | hz
      · by_cases e : x.2 = y.2
        · obtain ⟨p, hp, hx⟩ := List.getElem_of_mem (hm x (by simp))
          exact Or.inr ⟨e, p, R.length, hp, by rw [List.getElem?_append_left hp, List.getElem?_eq_getElem hp, hx], by rw [List.getElem?_append_right (Nat.le_refl _), Nat.sub_self]; rfl⟩
        · exact Or.inl (by simp only; omega)
      · exact up (hl'.1 z hz)
theorem srtr_lq : ∀ r : List (Int × Int), (srtr r).Pairwise (Lq r.reverse)
  | [] => List.Pairwise.nil
  | x :: r => by
    rw [List.reverse_cons]
    exact ins_lq (srtr_lq r) (fun z hz => by simpa using srtr_mem.1 hz)
theorem srt_lq (R : List (Int × Int)) : (srt R).Pairwise (Lq R) := by
  have := srtr_lq R.reverse
  rwa [List.reverse_reverse] at this
/-- Who is told in the next round: of those not told the one with the fewest ticks, the first one of these. -/
theorem next_is {R : List (Int × Int)} (h : Rok R) (j m : Nat) (hj : j < (srt R).length) (hm : m < R.length) (hn : R[m].1 ∉ ((srt R).map Prod.fst).take j)
    (hmin : ∀ i (hi : i < R.length), R[i].1 ∉ ((srt R).map Prod.fst).take j → R[m].2 < R[i].2 ∨ (R[m].2 = R[i].2 ∧ m ≤ i)) : (srt R)[j] = R[m] := by
  have hok := ok_srt h
  -- the j-th lies somewhere in R
  obtain ⟨p, hp, ep⟩ := List.getElem_of_mem (srt_mem.1 (List.getElem_mem hj))
  obtain ⟨q, hq, eq⟩ := List.getElem_of_mem (srt_mem.2 (List.getElem_mem hm))
  have tk : ∀ k (hk : k < (srt R).length), (srt R)[k].1 ∈ ((srt R).map Prod.fst).take j ↔ k < j := by
    intro k hk
    constructor
    · intro hmem
      obtain ⟨i, hi, e⟩ := List.getElem_of_mem hmem
      rw [List.length_take, List.length_map] at hi
      rw [List.getElem_take, List.getElem_map] at e
      have : i = k := (List.getElem_inj (xs := (srt R).map Prod.fst) (h₀ := by simp; omega) (h₁ := by simpa using hk) hok.nd).1 (by simpa using e)
      omega
    · intro hk'
      have : ((srt R).map Prod.fst).take j = ((srt R).take j).map Prod.fst := by rw [List.map_take]
      rw [this]
      exact List.mem_map.2 ⟨(srt R)[k], List.mem_take_iff_getElem.2 ⟨k, by omega, rfl⟩, rfl⟩
  have hqj : ¬ q < j := fun hlt => hn (by rw [← eq]; exact (tk q hq).2 hlt)
  by_cases hqe : q = j
  · subst hqe; exact eq
  · exfalso
    have hlt : j < q := by omega
    have hpn : R[p].1 ∉ ((srt R).map Prod.fst).take j := fun hmem => by
      rw [ep] at hmem
      have := (tk j hj).1 hmem
      omega
    have h1 := hmin p hp hpn
    have h2 := List.pairwise_iff_getElem.1 (srt_lq R) j q hj hq hlt
    rw [← ep, eq] at h2
    have inj : ∀ {a b : Nat} (ha : a < R.length) (hb : b < R.length), R[a] = R[b] → a = b := fun ha hb e =>
      (List.getElem_inj (xs := R.map Prod.fst) (h₀ := by simpa using ha) (h₁ := by simpa using hb) h.nd).1 (by simp [e])
    rcases h2 with h2 | ⟨h2, a, b, h3, h4, h5⟩
    · omega
    · obtain ⟨ha, ea⟩ := List.getElem?_eq_some_iff.1 h4
      obtain ⟨hb, eb⟩ := List.getElem?_eq_some_iff.1 h5
      have := inj ha hp ea
      have := inj hb hm eb
      rcases h1 with h1 | ⟨_, h1⟩ <;> omega
end Go.Proofs.YtllfkgdmneabiaaDoor
