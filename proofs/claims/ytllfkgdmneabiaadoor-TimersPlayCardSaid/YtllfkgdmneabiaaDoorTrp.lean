/- The document's alarms, in the order in which they were started, beside the program's: who sleeps, and what each one's ticks are. No program in sight. -/
import Derived.Test.YtllfkgdmneabiaaDoorRfp
set_option linter.unusedVariables false
set_option linter.unusedSimpArgs false
namespace Go.Proofs.YtllfkgdmneabiaaDoor
open Go.RowKit Go.Shelf

abbrev Tr := Int × Int × Int
def pr (A : List Tr) : List (Int × Int) := A.map fun x => (x.1, x.2.1)
/-- Each one's ticks, 0 if it does not run. -/
def fe (A : List Tr) (x : Int) : Int := match A.find? (fun y => y.1 == x) with | some y => y.2.2 | none => 0
structure Ra (A : List Tr) : Prop where
  nd : (A.map Prod.fst).Nodup
  lf : ∀ y ∈ A, 1 ≤ y.2.1 ∧ y.2.1 ≤ 1073741824
  ea : ∀ y ∈ A, 0 ≤ y.2.2 ∧ y.2.2 ≤ 1073741824
  id : ∀ y ∈ A, 0 ≤ y.1 ∧ (Lit.int .i64 y.1).wf = true
def outA (A : List Tr) (id : Int) : List Tr := A.filter fun y => y.1 != id
def wakeA (A : List Tr) : List Int := (A.filter fun y => y.2.1 == 1).map Prod.fst
def stayA (A : List Tr) : List Tr := (A.filter fun y => y.2.1 != 1).map fun y => (y.1, y.2.1 - 1, y.2.2)
def againA (A : List Tr) : List Tr := (A.filter fun y => y.2.1 == 1 && decide (0 < y.2.2)).map fun y => (y.1, y.2.2, y.2.2)
def tickA (A : List Tr) : List Tr := stayA A ++ againA A

theorem pr_fst (A : List Tr) : (pr A).map Prod.fst = A.map Prod.fst := by simp [pr, Function.comp_def]
theorem pr_len (A : List Tr) : (pr A).length = A.length := by simp [pr]
theorem pr_app (A B : List Tr) : pr (A ++ B) = pr A ++ pr B := by simp [pr]
theorem ra_rok {A : List Tr} (h : Ra A) : Rok (pr A) := by
  refine ⟨fun y hy => ?_, by rw [pr_fst]; exact h.nd⟩
  obtain ⟨x, hx, rfl⟩ := List.mem_map.1 hy
  exact h.lf x hx
theorem pr_out (A : List Tr) (id : Int) : pr (outA A id) = but (pr A) id := by
  unfold pr outA but; rw [List.filter_map]; rfl
theorem wake_pr (A : List Tr) : wake (pr A) = wakeA A := by
  unfold wake pr wakeA; rw [List.filter_map, List.map_map]; rfl
theorem less_pr (A : List Tr) : less (pr A) = pr (stayA A) := by
  unfold less pr stayA; rw [List.filter_map, List.map_map, List.map_map]; rfl
theorem fe_bd {A : List Tr} (h : Ra A) (x : Int) : 0 ≤ fe A x ∧ fe A x ≤ 1073741824 := by
  unfold fe
  cases e : A.find? (fun y => y.1 == x) with
  | none => exact ⟨by simp, by simp⟩
  | some y => exact h.ea y (List.mem_of_find?_eq_some e)
theorem fe_in {A : List Tr} (h : Ra A) {y : Tr} (hy : y ∈ A) : fe A y.1 = y.2.2 := by
  unfold fe
  cases e : A.find? (fun z => z.1 == y.1) with
  | none => have := List.find?_eq_none.1 e y hy; simp at this
  | some z =>
    have h1 : z.1 = y.1 := by simpa using List.find?_some e
    obtain ⟨i, hi, ei⟩ := List.getElem_of_mem (List.mem_of_find?_eq_some e)
    obtain ⟨j, hj, ej⟩ := List.getElem_of_mem hy
    have : i = j := (List.getElem_inj (xs := A.map Prod.fst) (h₀ := by simpa using hi) (h₁ := by simpa using hj) h.nd).1 (by simp [ei, ej, h1])
    subst this
    rw [← ei, ej]
theorem fe_out {A : List Tr} {x : Int} (h : x ∉ A.map Prod.fst) : fe A x = 0 := by
  unfold fe
  rw [List.find?_eq_none.2 (fun y hy => by
    have : y.1 ≠ x := fun e => h (List.mem_map.2 ⟨y, hy, e⟩)
    simpa using this)]
theorem al_of {A : List Tr} (h : Ra A) : Al (srt (pr A)) (fe A) := by
  refine ⟨ok_srt (ra_rok h), fun y hy => ?_, fe_bd h⟩
  obtain ⟨x, hx, rfl⟩ := List.mem_map.1 (srt_mem.1 hy)
  exact h.id x hx
theorem outA_mem {A : List Tr} {id : Int} {y : Tr} : y ∈ outA A id ↔ y ∈ A ∧ y.1 ≠ id := by unfold outA; simp [List.mem_filter]
theorem outA_fst {A : List Tr} {id x : Int} : x ∈ (outA A id).map Prod.fst ↔ x ∈ A.map Prod.fst ∧ x ≠ id := by
  simp only [List.mem_map, outA_mem]
  constructor
  · rintro ⟨y, ⟨h1, h2⟩, rfl⟩; exact ⟨⟨y, h1, rfl⟩, h2⟩
  · rintro ⟨⟨y, h1, rfl⟩, h2⟩; exact ⟨y, ⟨h1, h2⟩, rfl⟩
theorem ra_out {A : List Tr} (h : Ra A) (id : Int) : Ra (outA A id) :=
  ⟨h.nd.sublist (List.filter_sublist.map _), fun y hy => h.lf y (outA_mem.1 hy).1, fun y hy => h.ea y (outA_mem.1 hy).1, fun y hy => h.id y (outA_mem.1 hy).1⟩
theorem fe_outA {A : List Tr} (h : Ra A) (id : Int) : fe (outA A id) = upd (fe A) id 0 := by
  funext x
  unfold upd
  by_cases hx : x = id
  · rw [if_pos hx]; exact fe_out (fun hm => (outA_fst.1 hm).2 hx)
  · rw [if_neg hx]
    by_cases hm : x ∈ A.map Prod.fst
    · obtain ⟨y, hy, rfl⟩ := List.mem_map.1 hm
      rw [fe_in h hy, fe_in (ra_out h id) (outA_mem.2 ⟨hy, hx⟩)]
    · rw [fe_out hm, fe_out (fun h => hm (outA_fst.1 h).1)]
def startA (A : List Tr) (id n e : Int) : List Tr := outA A id ++ [(id, n, e)]
theorem ra_start {A : List Tr} (h : Ra A) {id n e : Int} (h0 : 0 ≤ id ∧ (Lit.int .i64 id).wf = true) (h1 : 1 ≤ n) (h2 : n ≤ 1073741824) (h3 : 0 ≤ e) (h4 : e ≤ 1073741824) : Ra (startA A id n e) := by
  have ho := ra_out h id
  have key : ∀ {p : Tr → Prop}, (∀ y ∈ outA A id, p y) → p (id, n, e) → ∀ y ∈ startA A id n e, p y := by
    intro p hp hq y hy
    rcases List.mem_append.1 hy with hy | hy
    · exact hp y hy
    · simp at hy; subst hy; exact hq
  refine ⟨?_, key ho.lf ⟨h1, h2⟩, key ho.ea ⟨h3, h4⟩, key ho.id h0⟩
  unfold startA
  rw [List.map_append, List.nodup_append]
  refine ⟨ho.nd, by simp, fun a ha b hb => ?_⟩
  simp at hb; subst hb
  exact (outA_fst.1 ha).2
theorem fe_start {A : List Tr} (h : Ra A) {id n e : Int} (h0 : 0 ≤ id ∧ (Lit.int .i64 id).wf = true) (h1 : 1 ≤ n) (h2 : n ≤ 1073741824) (h3 : 0 ≤ e) (h4 : e ≤ 1073741824) : fe (startA A id n e) = upd (fe A) id e := by
  have hs := ra_start h h0 h1 h2 h3 h4
  funext x
  unfold upd
  by_cases hx : x = id
  · rw [if_pos hx, hx]; exact fe_in hs (y := (id, n, e)) (by simp [startA])
  · rw [if_neg hx]
    by_cases hm : x ∈ A.map Prod.fst
    · obtain ⟨y, hy, rfl⟩ := List.mem_map.1 hm
      rw [fe_in h hy, fe_in hs (by unfold startA; exact List.mem_append_left _ (outA_mem.2 ⟨hy, hx⟩))]
    · rw [fe_out hm, fe_out (fun h => by
        unfold startA at h
        rw [List.map_append] at h
        rcases List.mem_append.1 h with h | h
        · exact hm (outA_fst.1 h).1
        · simp at h; exact hx h)]
theorem srt_start (A : List Tr) (id n e : Int) : srt (pr (startA A id n e)) = ins (but (srt (pr A)) id) id n := by
  unfold startA
  rw [pr_app, srt_but, ← pr_out]
  exact srt_snoc _ _
theorem again_srt (f : Int → Int) : ∀ (r : List Int) (X : List (Int × Int)), again f (srt X) r = srt (X ++ (r.filter fun x => decide (0 < f x)).map fun x => (x, f x))
  | [], X => by simp [again]
  | x :: r, X => by
    simp only [again]
    by_cases h : 0 < f x
    · rw [if_pos h, ← srt_snoc X (x, f x), again_srt f r]
      simp [h]
    · rw [if_neg h, again_srt f r]
      simp [h]
theorem mem_A {A : List Tr} : ∀ y ∈ A, y ∈ A := fun _ h => h
theorem tick_tr {A : List Tr} (h : Ra A) : tk (fe A) (srt (pr A)) = srt (pr (tickA A)) := by
  unfold tk tickA
  rw [srt_less (fun y hy => ((ra_rok h).bd y hy).1), srt_wake, again_srt, pr_app, less_pr, wake_pr]
  congr 2
  unfold wakeA againA pr
  rw [List.filter_map, List.map_map, List.map_map, List.filter_filter]
  have e : ∀ y ∈ A, (decide (0 < fe A y.1)) = decide (0 < y.2.2) := fun y hy => by rw [fe_in h hy]
  have e2 : A.filter (fun y => ((fun x => decide (0 < fe A x)) ∘ Prod.fst) y && y.2.1 == 1) = A.filter (fun y => y.2.1 == 1 && decide (0 < y.2.2)) :=
    List.filter_congr fun y hy => by simp only [Function.comp]; rw [e y hy, Bool.and_comm]
  rw [e2]
  refine List.map_congr_left fun y hy => ?_
  simp only [Function.comp]
  rw [fe_in h (List.mem_filter.1 hy).1]
theorem stayA_mem {A : List Tr} {y : Tr} (h : y ∈ stayA A) : ∃ z ∈ A, z.2.1 ≠ 1 ∧ y = (z.1, z.2.1 - 1, z.2.2) := by
  obtain ⟨z, hz, rfl⟩ := List.mem_map.1 h
  obtain ⟨h1, h2⟩ := List.mem_filter.1 hz
  exact ⟨z, h1, by simpa using h2, rfl⟩
theorem againA_mem {A : List Tr} {y : Tr} (h : y ∈ againA A) : ∃ z ∈ A, z.2.1 = 1 ∧ 0 < z.2.2 ∧ y = (z.1, z.2.2, z.2.2) := by
  obtain ⟨z, hz, rfl⟩ := List.mem_map.1 h
  obtain ⟨h1, h2⟩ := List.mem_filter.1 hz
  simp at h2
  exact ⟨z, h1, h2.1, h2.2, rfl⟩
theorem same_of_fst {A : List Tr} (h : Ra A) {y z : Tr} (hy : y ∈ A) (hz : z ∈ A) (e : y.1 = z.1) : y = z := by
  obtain ⟨i, hi, ei⟩ := List.getElem_of_mem hy
  obtain ⟨j, hj, ej⟩ := List.getElem_of_mem hz
  have : i = j := (List.getElem_inj (xs := A.map Prod.fst) (h₀ := by simpa using hi) (h₁ := by simpa using hj) h.nd).1 (by simp [ei, ej, e])
  subst this
  rw [← ei, ej]
theorem ra_tick {A : List Tr} (h : Ra A) : Ra (tickA A) := by
  refine ⟨?_, fun y hy => ?_, fun y hy => ?_, fun y hy => ?_⟩
  · unfold tickA
    rw [List.map_append, List.nodup_append]
    have e1 : (stayA A).map Prod.fst = (A.filter fun y => y.2.1 != 1).map Prod.fst := by simp [stayA, Function.comp_def]
    have e2 : (againA A).map Prod.fst = (A.filter fun y => y.2.1 == 1 && decide (0 < y.2.2)).map Prod.fst := by simp [againA, Function.comp_def]
    rw [e1, e2]
    refine ⟨h.nd.sublist (List.filter_sublist.map _), h.nd.sublist (List.filter_sublist.map _), fun a ha b hb e => ?_⟩
    obtain ⟨y, hy, rfl⟩ := List.mem_map.1 ha
    obtain ⟨z, hz, rfl⟩ := List.mem_map.1 hb
    obtain ⟨y1, y2⟩ := List.mem_filter.1 hy
    obtain ⟨z1, z2⟩ := List.mem_filter.1 hz
    have := same_of_fst h y1 z1 e
    subst this
    simp at y2 z2
    exact y2 z2.1
  all_goals
    rcases List.mem_append.1 hy with hy | hy
    · obtain ⟨z, hz, h1, rfl⟩ := stayA_mem hy
      have a1 := h.lf z hz; have a2 := h.ea z hz; have a3 := h.id z hz
      first | exact a3 | exact a2 | (simp only; omega)
    · obtain ⟨z, hz, h1, h2, rfl⟩ := againA_mem hy
      have a1 := h.lf z hz; have a2 := h.ea z hz; have a3 := h.id z hz
      first | exact a3 | exact a2 | (simp only; omega)
theorem fe_tick {A : List Tr} (h : Ra A) : fe (tickA A) = fe A := by
  have ht := ra_tick h
  funext x
  by_cases hm : x ∈ A.map Prod.fst
  · obtain ⟨y, hy, rfl⟩ := List.mem_map.1 hm
    rw [fe_in h hy]
    by_cases h1 : y.2.1 = 1
    · by_cases h2 : 0 < y.2.2
      · exact fe_in ht (y := (y.1, y.2.2, y.2.2)) (List.mem_append_right _ (List.mem_map.2 ⟨y, List.mem_filter.2 ⟨hy, by simp [h1, h2]⟩, rfl⟩))
      · have := h.ea y hy
        rw [show y.2.2 = 0 by omega]
        refine fe_out fun hm => ?_
        obtain ⟨z, hz, e⟩ := List.mem_map.1 hm
        rcases List.mem_append.1 hz with hz | hz
        · obtain ⟨u, hu, h3, rfl⟩ := stayA_mem hz
          have := same_of_fst h hu hy e
          subst this; exact h3 h1
        · obtain ⟨u, hu, h3, h4, rfl⟩ := againA_mem hz
          have := same_of_fst h hu hy e
          subst this; exact h2 h4
    · exact fe_in ht (y := (y.1, y.2.1 - 1, y.2.2)) (List.mem_append_left _ (List.mem_map.2 ⟨y, List.mem_filter.2 ⟨hy, by simp [h1]⟩, rfl⟩))
  · rw [fe_out hm]
    refine fe_out fun hm' => hm ?_
    obtain ⟨z, hz, e⟩ := List.mem_map.1 hm'
    rcases List.mem_append.1 hz with hz | hz
    · obtain ⟨u, hu, h3, rfl⟩ := stayA_mem hz; exact List.mem_map.2 ⟨u, hu, e⟩
    · obtain ⟨u, hu, h3, h4, rfl⟩ := againA_mem hz; exact List.mem_map.2 ⟨u, hu, e⟩
theorem outA_len (A : List Tr) (id : Int) : (outA A id).length ≤ A.length := List.length_filter_le _ _
theorem wakeA_len (A : List Tr) : (wakeA A).length ≤ A.length := by unfold wakeA; rw [List.length_map]; exact List.length_filter_le _ _
theorem stayA_len (A : List Tr) : (stayA A).length ≤ A.length := by unfold stayA; rw [List.length_map]; exact List.length_filter_le _ _
theorem againA_len (A : List Tr) : (againA A).length ≤ A.length := by unfold againA; rw [List.length_map]; exact List.length_filter_le _ _
theorem tickA_len : ∀ A : List Tr, (tickA A).length ≤ A.length
  | [] => by simp [tickA, stayA, againA]
  | y :: r => by
    have ih := tickA_len r
    unfold tickA stayA againA at *
    rw [List.length_append, List.length_map, List.length_map] at *
    by_cases h1 : y.2.1 = 1
    · by_cases h2 : 0 < y.2.2 <;> simp [List.filter_cons, h1, h2] at ih ⊢ <;> omega
    · simp [List.filter_cons, h1] at ih ⊢; omega
end Go.Proofs.YtllfkgdmneabiaaDoor
