/- Who sleeps when each one is put behind the other, and behind some ticks. No program in sight. -/
import Derived.Test.YtllfkgdmneabiaaDoorAbs
set_option linter.unusedVariables false
set_option linter.unusedSimpArgs false
namespace Go.Proofs.YtllfkgdmneabiaaDoor
open Go.RowKit Go.Shelf

theorem okn : Ok [] := ⟨by decide, by decide, by decide⟩
/-- Each one for some ticks, one behind the other. -/
def fil (ts : List Int) : Nat → List (Int × Int)
  | 0 => []
  | k + 1 => ins (fil ts k) k (ts.getD k 0 + 1)
theorem ins_len : ∀ (l : List (Int × Int)) (who t : Int), (ins l who t).length = l.length + 1
  | [], _, _ => rfl
  | x :: r, who, t => by unfold ins; split <;> simp [ins_len r]
theorem fil_len (ts : List Int) : ∀ k, (fil ts k).length = k
  | 0 => rfl
  | k + 1 => by simp [fil, ins_len, fil_len ts k]
theorem fil_mem {ts : List Int} : ∀ {k : Nat} {y : Int × Int}, y ∈ fil ts k ↔ ∃ i : Nat, i < k ∧ y = ((i : Int), ts.getD i 0 + 1)
  | 0, y => by simp [fil]
  | k + 1, y => by
    simp only [fil, ins_mem, fil_mem (k := k)]
    constructor
    · rintro (rfl | ⟨i, h, rfl⟩)
      · exact ⟨k, by omega, rfl⟩
      · exact ⟨i, by omega, rfl⟩
    · rintro ⟨i, h, rfl⟩
      rcases Nat.lt_succ_iff_lt_or_eq.1 h with h | rfl
      · exact Or.inr ⟨i, h, rfl⟩
      · exact Or.inl rfl
theorem fil_fst {ts : List Int} {k : Nat} {x : Int} : x ∈ (fil ts k).map Prod.fst ↔ ∃ i : Nat, i < k ∧ x = i := by
  simp only [List.mem_map, fil_mem]
  constructor
  · rintro ⟨y, ⟨i, h, rfl⟩, rfl⟩; exact ⟨i, h, rfl⟩
  · rintro ⟨i, h, rfl⟩; exact ⟨_, ⟨i, h, rfl⟩, rfl⟩
theorem ok_fil {ts : List Int} (h : ∀ i, 0 ≤ ts.getD i 0 ∧ ts.getD i 0 < 256) : ∀ k, Ok (fil ts k)
  | 0 => okn
  | k + 1 => ok_ins (ok_fil h k) (fun hm => by obtain ⟨i, h1, h2⟩ := fil_fst.1 hm; omega) (by have := h k; omega) (by have := h k; omega)
theorem getD_bd {ts : List Int} (h : ∀ x ∈ ts, 0 ≤ x ∧ x < 256) (i : Nat) : 0 ≤ ts.getD i 0 ∧ ts.getD i 0 < 256 := by
  rw [List.getD_eq_getElem?_getD]
  cases e : ts[i]? with
  | none => simp
  | some x => simpa using h x (List.mem_of_getElem? e)

/-- Who has so many ticks left. -/
def grp (l : List (Int × Int)) (v : Int) : List Int := (l.filter (fun y => y.2 == v)).map Prod.fst
theorem grp_ins : ∀ {l : List (Int × Int)} {who t v : Int}, l.Pairwise (fun a b => a.2 ≤ b.2) → grp (ins l who t) v = if t = v then grp l v ++ [who] else grp l v
  | [], who, t, v, _ => by by_cases h : t = v <;> simp [ins, grp, h]
  | x :: r, who, t, v, hp => by
    have hp' := List.pairwise_cons.1 hp
    unfold ins
    split
    · rename_i hgt
      by_cases h : t = v
      · subst h
        have hnone : grp (x :: r) t = [] := by
          unfold grp
          rw [List.filter_eq_nil_iff.2 (fun y hy => by
            have : y.2 ≠ t := by
              rcases List.mem_cons.1 hy with rfl | hy
              · omega
              · have := hp'.1 y hy; omega
            simpa using this)]
          rfl
        rw [if_pos rfl, hnone]
        unfold grp at hnone ⊢
        rw [List.filter_cons, if_pos (by simp), List.map_cons, hnone]; rfl
      · rw [if_neg h]
        unfold grp
        rw [List.filter_cons, if_neg (by simpa using h)]
    · have ih := grp_ins (who := who) (t := t) (v := v) hp'.2
      unfold grp at ih ⊢
      by_cases hx : x.2 = v
      · have hb : (x.2 == v) = true := by simpa using hx
        simp only [List.filter_cons, hb, if_true, List.map_cons, ih]
        split <;> simp
      · have hb : (x.2 == v) = false := by simpa using hx
        simp only [List.filter_cons, hb, Bool.false_eq_true, if_false, ih]
/-- Whose ticks are so many less one, of the first ones. -/
def wt (ts : List Int) (t : Int) (k : Nat) : List Int := ((List.range k).filter (fun i => ts.getD i 0 == t)).map (fun i : Nat => (i : Int))
theorem wt_succ (ts : List Int) (t : Int) (k : Nat) : wt ts t (k + 1) = if ts.getD k 0 = t then wt ts t k ++ [(k : Int)] else wt ts t k := by
  unfold wt
  rw [List.range_succ, List.filter_append, List.map_append]
  by_cases h : ts.getD k 0 = t
  · rw [if_pos h, List.filter_cons, if_pos (by simpa using h)]; rfl
  · rw [if_neg h, List.filter_cons, if_neg (by simpa using h)]; simp
theorem wt_le (ts : List Int) (t : Int) (k : Nat) : (wt ts t k).length ≤ k := by
  unfold wt
  rw [List.length_map]
  exact Nat.le_trans (List.length_filter_le _ _) (by simp)
theorem grp_fil {ts : List Int} (h : ∀ i, 0 ≤ ts.getD i 0 ∧ ts.getD i 0 < 256) (t : Int) : ∀ k, grp (fil ts k) (t + 1) = wt ts t k
  | 0 => rfl
  | k + 1 => by
    rw [fil, grp_ins (ok_fil h k).srt, grp_fil h t k, wt_succ]
    by_cases e : ts.getD k 0 = t
    · rw [if_pos e, if_pos (by omega)]
    · rw [if_neg e, if_neg (by omega)]

/-- Some ticks go by. -/
def lessN (l : List (Int × Int)) : Nat → List (Int × Int)
  | 0 => l
  | n + 1 => less (lessN l n)
theorem ok_lessN {l : List (Int × Int)} (h : Ok l) : ∀ n, Ok (lessN l n)
  | 0 => h
  | n + 1 => ok_less (ok_lessN h n)
theorem less_len (l : List (Int × Int)) : (less l).length ≤ l.length := by
  unfold less; rw [List.length_map]; exact List.length_filter_le _ _
theorem lessN_len (l : List (Int × Int)) : ∀ n, (lessN l n).length ≤ l.length
  | 0 => Nat.le_refl _
  | n + 1 => Nat.le_trans (less_len _) (lessN_len l n)
theorem grp_less (l : List (Int × Int)) (v : Int) (hv : 1 ≤ v) : grp (less l) v = grp l (v + 1) := by
  unfold grp less
  rw [List.filter_map, List.map_map, List.filter_filter]
  have : l.filter (fun a => ((fun y : Int × Int => y.2 == v) ∘ fun y => (y.1, y.2 - 1)) a && (a.2 != 1)) = l.filter (fun y => y.2 == v + 1) := List.filter_congr fun y _ => by
    simp only [Function.comp]
    rw [Bool.eq_iff_iff]; simp; omega
  rw [this]
  rfl
theorem grp_lessN (l : List (Int × Int)) : ∀ (n : Nat) (v : Int), 1 ≤ v → grp (lessN l n) v = grp l (v + n)
  | 0, v, _ => by simp [lessN]
  | n + 1, v, hv => by
    rw [lessN, grp_less _ v hv, grp_lessN l n (v + 1) (by omega)]
    congr 1; omega
theorem wake_lessN (l : List (Int × Int)) (n : Nat) : wake (lessN l n) = grp l ((n : Int) + 1) := by
  have : wake (lessN l n) = grp (lessN l n) 1 := rfl
  rw [this, grp_lessN l n 1 (by omega)]
  congr 1; omega
theorem less_mem {l : List (Int × Int)} {y : Int × Int} : y ∈ less l ↔ (y.1, y.2 + 1) ∈ l ∧ y.2 ≠ 0 := by
  unfold less
  simp only [List.mem_map, List.mem_filter]
  constructor
  · rintro ⟨x, ⟨h1, h2⟩, rfl⟩
    have h2 : x.2 ≠ 1 := by simpa using h2
    refine ⟨?_, by simp only; omega⟩
    simp only [Int.sub_add_cancel]; exact h1
  · rintro ⟨h1, h2⟩
    exact ⟨_, ⟨h1, by simp; omega⟩, by simp⟩
theorem lessN_mem {l : List (Int × Int)} : ∀ {n : Nat} {y : Int × Int}, y ∈ lessN l n → (y.1, y.2 + n) ∈ l
  | 0, y, h => by simpa [lessN] using h
  | n + 1, y, h => by
    have := lessN_mem (less_mem.1 h).1
    simp only at this
    rw [show y.2 + ((n + 1 : Nat) : Int) = y.2 + 1 + n by omega]; exact this
theorem lessN_nil {l : List (Int × Int)} (h : Ok l) (n : Nat) (hb : ∀ y ∈ l, y.2 ≤ n) : lessN l n = [] := by
  apply List.eq_nil_iff_forall_not_mem.2
  intro y hy
  have h1 := hb _ (lessN_mem hy)
  have h2 := (ok_lessN h n).bd y hy
  simp only at h1
  omega

end Go.Proofs.YtllfkgdmneabiaaDoor
