/- Alarms: who sleeps, and who is put anew behind each waking. No program in sight. -/
import Derived.Test.YtllfkgdmneabiaaDoorPlm
set_option linter.unusedVariables false
set_option linter.unusedSimpArgs false
namespace Go.Proofs.YtllfkgdmneabiaaDoor
open Go.RowKit Go.Shelf

/-- Those that came, and come again. -/
def again (f : Int → Int) : List (Int × Int) → List Int → List (Int × Int)
  | l, [] => l
  | l, x :: r => again f (if 0 < f x then ins l x (f x) else l) r
/-- A tick. -/
def tk (f : Int → Int) (l : List (Int × Int)) : List (Int × Int) := again f (less l) (wake l)
def upd (f : Int → Int) (k v : Int) : Int → Int := fun x => if x = k then v else f x

/-- Alarms as they may be. -/
structure Al (l : List (Int × Int)) (f : Int → Int) : Prop where
  ok : Ok l
  nn : ∀ y ∈ l, 0 ≤ y.1 ∧ (Lit.int .i64 y.1).wf = true
  fb : ∀ x, 0 ≤ f x ∧ f x ≤ 1073741824

theorem again_snoc (f : Int → Int) : ∀ (l : List (Int × Int)) (r : List Int) (x : Int), again f l (r ++ [x]) = if 0 < f x then ins (again f l r) x (f x) else again f l r
  | _, [], _ => rfl
  | l, y :: r, x => by simp only [List.cons_append, again, again_snoc f _ r x]
theorem again_mem (f : Int → Int) : ∀ {r : List Int} {l : List (Int × Int)} {y : Int × Int}, y ∈ again f l r ↔ y ∈ l ∨ (y.1 ∈ r ∧ 0 < f y.1 ∧ y.2 = f y.1)
  | [], l, y => by simp [again]
  | x :: r, l, y => by
    obtain ⟨y1, y2⟩ := y
    simp only [again, again_mem f (r := r), List.mem_cons]
    by_cases h : 0 < f x
    · rw [if_pos h, ins_mem]
      constructor
      · rintro ((e | h1) | ⟨h1, h2, h3⟩)
        · cases e; exact Or.inr ⟨Or.inl rfl, h, rfl⟩
        · exact Or.inl h1
        · exact Or.inr ⟨Or.inr h1, h2, h3⟩
      · rintro (h1 | ⟨h1 | h1, h2, h3⟩)
        · exact Or.inl (Or.inr h1)
        · subst h1; subst h3; exact Or.inl (Or.inl rfl)
        · exact Or.inr ⟨h1, h2, h3⟩
    · rw [if_neg h]
      constructor
      · rintro (h1 | ⟨h1, h2, h3⟩)
        · exact Or.inl h1
        · exact Or.inr ⟨Or.inr h1, h2, h3⟩
      · rintro (h1 | ⟨h1 | h1, h2, h3⟩)
        · exact Or.inl h1
        · subst h1; exact absurd h2 h
        · exact Or.inr ⟨h1, h2, h3⟩
theorem again_len (f : Int → Int) : ∀ (r : List Int) (l : List (Int × Int)), (again f l r).length ≤ l.length + r.length
  | [], l => by simp [again]
  | x :: r, l => by
    have h := again_len f r (if 0 < f x then ins l x (f x) else l)
    simp only [again, List.length_cons]
    have h2 : (if 0 < f x then ins l x (f x) else l).length ≤ l.length + 1 := by
      split
      · rw [ins_len]; omega
      · omega
    omega
theorem again_fst {f : Int → Int} {r : List Int} {l : List (Int × Int)} {x : Int} (h : x ∈ (again f l r).map Prod.fst) : x ∈ l.map Prod.fst ∨ x ∈ r := by
  obtain ⟨y, hy, rfl⟩ := List.mem_map.1 h
  rcases (again_mem f).1 hy with h | ⟨h, _⟩
  · exact Or.inl (List.mem_map.2 ⟨y, h, rfl⟩)
  · exact Or.inr h
theorem ok_again {f : Int → Int} (hf : ∀ x, 0 ≤ f x ∧ f x ≤ 1073741824) : ∀ {r : List Int} {l : List (Int × Int)}, Ok l → r.Nodup → (∀ x ∈ r, x ∉ l.map Prod.fst) → Ok (again f l r)
  | [], _, h, _, _ => h
  | x :: r, l, h, hn, hd => by
    have hn' := List.nodup_cons.1 hn
    have hx := hf x
    simp only [again]
    by_cases hp : 0 < f x
    · rw [if_pos hp]
      refine ok_again hf (ok_ins h (hd x (by simp)) (by omega) (by omega)) hn'.2 (fun y hy hm => ?_)
      obtain ⟨z, hz, e⟩ := List.mem_map.1 hm
      rcases ins_mem.1 hz with rfl | hz
      · simp only at e; subst e; exact hn'.1 hy
      · exact hd y (by simp [hy]) (List.mem_map.2 ⟨z, hz, e⟩)
    · rw [if_neg hp]
      exact ok_again hf h hn'.2 (fun y hy => hd y (by simp [hy]))

theorem mem_wake {l : List (Int × Int)} {x : Int} : x ∈ wake l ↔ (x, 1) ∈ l := by
  unfold wake
  simp only [List.mem_map, List.mem_filter, beq_iff_eq]
  constructor
  · rintro ⟨⟨a, b⟩, ⟨h1, h2⟩, rfl⟩; simp only at h2; subst h2; exact h1
  · intro h; exact ⟨_, ⟨h, rfl⟩, rfl⟩
theorem mem_less {l : List (Int × Int)} {x t : Int} : (x, t) ∈ less l ↔ (x, t + 1) ∈ l ∧ t ≠ 0 := by
  unfold less
  simp only [List.mem_map, List.mem_filter, bne_iff_ne]
  constructor
  · rintro ⟨⟨a, b⟩, ⟨h1, h2⟩, e⟩
    simp only [Prod.mk.injEq] at e
    obtain ⟨rfl, rfl⟩ := e
    simp only at h2
    exact ⟨by rw [show b - 1 + 1 = b by omega]; exact h1, by omega⟩
  · rintro ⟨h1, h2⟩
    exact ⟨(x, t + 1), ⟨h1, by simp only; omega⟩, by rw [show (x, t + 1).2 - 1 = t by simp only; omega]⟩
theorem uniq {l : List (Int × Int)} (h : Ok l) {x s t : Int} (h1 : (x, s) ∈ l) (h2 : (x, t) ∈ l) : s = t := by
  have a := lf_in h h1
  have b := lf_in h h2
  simp only at a b
  rw [a] at b
  exact congrArg Prod.fst b
theorem wake_nd {l : List (Int × Int)} (h : Ok l) : (wake l).Nodup := h.nd.sublist (List.filter_sublist.map _)
theorem wake_apart {l : List (Int × Int)} (h : Ok l) : ∀ x ∈ wake l, x ∉ (less l).map Prod.fst := fun x hx hm => by
  obtain ⟨⟨a, b⟩, hy, e⟩ := List.mem_map.1 hm
  simp only at e; subst e
  obtain ⟨h1, h2⟩ := mem_less.1 hy
  have := uniq h (mem_wake.1 hx) h1
  omega
theorem wl_len (l : List (Int × Int)) : (less l).length + (wake l).length = l.length := by
  unfold less wake
  rw [List.length_map, List.length_map]
  induction l with
  | nil => rfl
  | cons y r ih =>
    by_cases h : y.2 = 1
    · simp [List.filter_cons, h] at ih ⊢; omega
    · simp [List.filter_cons, h] at ih ⊢; omega
theorem tk_len (f : Int → Int) (l : List (Int × Int)) : (tk f l).length ≤ l.length := by
  have := again_len f (wake l) (less l)
  have := wl_len l
  unfold tk; omega
theorem tk_mem {f : Int → Int} {l : List (Int × Int)} {x t : Int} : (x, t) ∈ tk f l ↔ ((x, t + 1) ∈ l ∧ t ≠ 0) ∨ ((x, 1) ∈ l ∧ 0 < f x ∧ t = f x) := by
  unfold tk
  rw [again_mem, mem_less]
  simp only [mem_wake]
theorem al_tk {f : Int → Int} {l : List (Int × Int)} (h : Al l f) : Al (tk f l) f := by
  refine ⟨ok_again h.fb (ok_less h.ok) (wake_nd h.ok) (wake_apart h.ok), fun y hy => ?_, h.fb⟩
  obtain ⟨x, t⟩ := y
  rcases tk_mem.1 hy with ⟨h1, _⟩ | ⟨h1, _⟩
  · exact h.nn (x, t + 1) h1
  · exact h.nn (x, 1) h1
theorem but_mem {l : List (Int × Int)} {who : Int} {y : Int × Int} : y ∈ but l who ↔ y ∈ l ∧ y.1 ≠ who := by
  unfold but; simp [List.mem_filter]
theorem but_notin (l : List (Int × Int)) (who : Int) : who ∉ (but l who).map Prod.fst := fun h => by
  obtain ⟨y, hy, e⟩ := List.mem_map.1 h
  exact (but_mem.1 hy).2 e
theorem but_id {l : List (Int × Int)} {who : Int} (h : who ∉ l.map Prod.fst) : but l who = l :=
  List.filter_eq_self.2 (fun y hy => by simpa using fun e => h (List.mem_map.2 ⟨y, hy, e⟩))
theorem but_le (l : List (Int × Int)) (who : Int) : (but l who).length ≤ l.length := List.length_filter_le _ _
theorem al_start {f : Int → Int} {l : List (Int × Int)} (h : Al l f) {id n e : Int} (h0 : 0 ≤ id ∧ (Lit.int .i64 id).wf = true) (h1 : 1 ≤ n) (h2 : n ≤ 1073741824) (h3 : 0 ≤ e) (h4 : e ≤ 1073741824) : Al (ins (but l id) id n) (upd f id e) := by
  refine ⟨ok_ins (ok_but h.ok _) (but_notin _ _) h1 h2, fun y hy => ?_, fun x => ?_⟩
  · rcases ins_mem.1 hy with rfl | hy
    · exact h0
    · exact h.nn _ (but_mem.1 hy).1
  · unfold upd; split
    · exact ⟨h3, h4⟩
    · exact h.fb x
theorem al_stop {f : Int → Int} {l : List (Int × Int)} (h : Al l f) (id : Int) : Al (but l id) (upd f id 0) := by
  refine ⟨ok_but h.ok _, fun y hy => h.nn _ (but_mem.1 hy).1, fun x => ?_⟩
  unfold upd; split
  · omega
  · exact h.fb x
theorem al_nil : Al [] (fun _ => 0) := ⟨okn, by simp, by simp⟩

/-- To start one; what is answered. -/
def badS (id n e : Int) : Prop := n < 1 ∨ 1073741824 < n ∨ e < 0 ∨ 1073741824 < e
/-- What others do changes nothing of one. -/
theorem tk_other {f : Int → Int} {l : List (Int × Int)} (h : Al l f) (x : Int) : (∀ t, (x, t) ∈ l → 1 < t → (x, t - 1) ∈ tk f l) ∧ ((x, 1) ∈ l → 0 < f x → (x, f x) ∈ tk f l) ∧ ((x, 1) ∈ l → f x = 0 → x ∉ (tk f l).map Prod.fst) ∧ (x ∉ l.map Prod.fst → x ∉ (tk f l).map Prod.fst) := by
  refine ⟨fun t ht h1 => tk_mem.2 (Or.inl ⟨by rw [show t - 1 + 1 = t by omega]; exact ht, by omega⟩), fun h1 h2 => tk_mem.2 (Or.inr ⟨h1, h2, rfl⟩), fun h1 h2 hm => ?_, fun h1 hm => ?_⟩
  · obtain ⟨⟨a, b⟩, hy, e⟩ := List.mem_map.1 hm
    simp only at e; subst e
    rcases tk_mem.1 hy with ⟨h3, h4⟩ | ⟨_, h3, _⟩
    · have := uniq h.ok h1 h3; omega
    · omega
  · obtain ⟨⟨a, b⟩, hy, e⟩ := List.mem_map.1 hm
    simp only at e; subst e
    rcases tk_mem.1 hy with ⟨h3, _⟩ | ⟨h3, _⟩ <;> exact h1 (List.mem_map.2 ⟨_, h3, rfl⟩)

/-- Of alarms without one, all others come as they would have. -/
theorem ins_but : ∀ {l : List (Int × Int)} {x t id : Int}, l.Pairwise (fun a b => a.2 ≤ b.2) → but (ins l x t) id = if x = id then but l id else ins (but l id) x t
  | [], x, t, id, _ => by by_cases h : x = id <;> simp [ins, but, h]
  | y :: r, x, t, id, hp => by
    have hp' := List.pairwise_cons.1 hp
    have ih := ins_but (l := r) (x := x) (t := t) (id := id) hp'.2
    by_cases hgt : y.2 > t
    · have e1 : ins (y :: r) x t = (x, t) :: y :: r := by simp [ins, hgt]
      rw [e1]
      have e2 : ∀ s : List (Int × Int), (∀ z ∈ s, z.2 > t) → ins s x t = (x, t) :: s := by
        intro s hs
        cases s with
        | nil => rfl
        | cons z s => simp [ins, hs z (by simp)]
      have e3 : ∀ z ∈ but (y :: r) id, z.2 > t := fun z hz => by
        rcases List.mem_cons.1 (but_mem.1 hz).1 with rfl | hz
        · exact hgt
        · have := hp'.1 z hz; omega
      by_cases h : x = id
      · rw [if_pos h]; subst h; simp [but]
      · rw [if_neg h, e2 _ e3]; simp [but, h]
    · have e1 : ins (y :: r) x t = y :: ins r x t := by simp [ins, hgt]
      rw [e1]
      by_cases hy : y.1 = id
      · have : but (y :: ins r x t) id = but (ins r x t) id := by simp [but, hy]
        rw [this, ih]
        have : but (y :: r) id = but r id := by simp [but, hy]
        rw [this]
      · have : but (y :: ins r x t) id = y :: but (ins r x t) id := by simp [but, hy]
        rw [this, ih]
        have : but (y :: r) id = y :: but r id := by simp [but, hy]
        rw [this]
        split
        · rfl
        · simp [ins, hgt]
theorem again_but {f : Int → Int} {id : Int} : ∀ {r : List Int} {l : List (Int × Int)}, l.Pairwise (fun a b => a.2 ≤ b.2) → but (again f l r) id = again (upd f id 0) (but l id) (r.filter (fun x => x != id))
  | [], _, _ => rfl
  | x :: r, l, hp => by
    simp only [again]
    by_cases h : x = id
    · subst h
      have e : ((x :: r).filter (fun z => z != x)) = r.filter (fun z => z != x) := by simp [List.filter_cons]
      rw [e]
      by_cases hf : 0 < f x
      · rw [if_pos hf, again_but (ins_srt hp), ins_but hp, if_pos rfl]
      · rw [if_neg hf, again_but hp]
    · have e : ((x :: r).filter (fun z => z != id)) = x :: r.filter (fun z => z != id) := by simp [List.filter_cons, h]
      have e2 : upd f id 0 x = f x := by simp [upd, h]
      rw [e]
      simp only [again, e2]
      by_cases hf : 0 < f x
      · rw [if_pos hf, if_pos hf, again_but (ins_srt hp), ins_but hp, if_neg h]
      · rw [if_neg hf, if_neg hf, again_but hp]
theorem wake_but (l : List (Int × Int)) (id : Int) : wake (but l id) = (wake l).filter (fun x => x != id) := by
  unfold wake but
  rw [List.filter_map, List.filter_filter, List.filter_filter]
  congr 1
  refine List.filter_congr fun y _ => ?_
  simp only [Function.comp]
  rw [Bool.and_comm]
theorem less_but (l : List (Int × Int)) (id : Int) : less (but l id) = but (less l) id := by
  unfold less but
  rw [List.filter_map, List.filter_filter, List.filter_filter]
  congr 1
  refine List.filter_congr fun y _ => ?_
  simp only [Function.comp]
  rw [Bool.and_comm]
theorem tk_but {f : Int → Int} {l : List (Int × Int)} (h : Al l f) (id : Int) : tk (upd f id 0) (but l id) = but (tk f l) id := by
  unfold tk
  rw [again_but (ok_less h.ok).srt, wake_but, less_but]
end Go.Proofs.YtllfkgdmneabiaaDoor
