/- A region that draws its order: what only reads is taken first, one by one, under S; S need hold only till the operation s is done. No program in sight. -/
import Derived.Test.YtijkkompnfpdeaaGreatDoorP04
set_option linter.unusedVariables false
set_option linter.unusedSimpArgs false
namespace Go.Proofs.YtijkkompnfpdeaaGreatDoor

section
variable {P : Program} {ops : Array Oper} {Q : Exit → Act → World → Prop} {md : Region.Mode} {S : World → Prop} {s : Nat}

/-- Whatever order is picked from here on, and S holds till s is done. -/
def wpAnyT (P : Program) (md : Region.Mode) (ops : Array Oper) (Q : Exit → Act → World → Prop) (S : World → Prop) (s : Nat) : Nat → Array Bool → Act → World → Prop
  | 0, listed, a, w => Region.ready md ops listed = [] ∧ Q .normal a w
  | fuel + 1, listed, a, w =>
    (Region.ready md ops listed = [] → Q .normal a w) ∧
    ∀ i ∈ Region.ready md ops listed, wpOp P ops Q i (fun a' w' => ((listed.setIfInBounds i true).getD s true = false → S w') ∧ wpAnyT P md ops Q S s fuel (listed.setIfInBounds i true) a' w') a w
theorem wpAny_of_T : ∀ (fuel : Nat) (listed : Array Bool) (a : Act) (w : World), wpAnyT P md ops Q S s fuel listed a w → wpAny P md ops Q fuel listed a w
  | 0, _, _, _, h => h
  | fuel + 1, _, _, _, h => ⟨h.1, fun i hi => wpOp_mono (fun a' w' h' => wpAny_of_T fuel _ a' w' h'.2) (h.2 i hi)⟩
/-- Those that wait for i, each through one that stands ahead of it. -/
def waitU (md : Region.Mode) (ops : Array Oper) (i : Nat) : Array Bool :=
  (List.range ops.size).foldl (fun u j => u.push (j == i || ((ops[j]?).map (·.after.any fun e => Region.binds md e && u.getD e.on false)).getD false)) #[]
def certB (md : Region.Mode) (ops : Array Oper) (i s : Nat) (u : Array Bool) : Bool :=
  u.getD s false && (s != i || true) && (List.range ops.size).all fun j => !u.getD j false || j == i || ((ops[j]?).map (·.after.any fun e => Region.binds md e && u.getD e.on false && decide (e.on < j))).getD false
structure ClosedT (md : Region.Mode) (ops : Array Oper) (listed : Array Bool) : Prop where
  size : listed.size = ops.size
  closed : ∀ j oj, ops[j]? = some oj → listed.getD j false = true → ∀ e ∈ oj.after, Region.binds md e = true → listed.getD e.on false = true
theorem getD_lt {l : Array Bool} {i : Nat} (h : i < l.size) (a b : Bool) : l.getD i a = l.getD i b := by simp [h]
theorem cert_waits {i : Nat} {u : Array Bool} (hc : certB md ops i s u = true) (hs : s < ops.size) {listed : Array Bool} (inv : ClosedT md ops listed) (hi : listed.getD i true = false) (hil : i < ops.size) :
    ∀ (n j : Nat), j ≤ n → j < ops.size → u.getD j false = true → listed.getD j true = false ∧ (j ≠ i → j ∉ Region.ready md ops listed) := by
  unfold certB at hc
  simp only [Bool.and_eq_true] at hc
  have hall := List.all_eq_true.1 hc.2
  intro n
  induction n with
  | zero =>
    intro j hj hjs hu
    have h1 := hall j (List.mem_range.2 hjs)
    rw [hu] at h1
    by_cases hji : j = i
    · subst hji; exact ⟨hi, fun h => absurd rfl h⟩
    · have : (j == i) = false := by simpa using hji
      rw [this] at h1
      obtain ⟨oj, hoj⟩ : ∃ oj, ops[j]? = some oj := ⟨_, Array.getElem?_eq_getElem hjs⟩
      rw [hoj] at h1
      have h2 : oj.after.any (fun e => Region.binds md e && u.getD e.on false && decide (e.on < j)) = true := by simpa using h1
      obtain ⟨e, he, h3⟩ := Array.any_eq_true'.1 h2
      simp only [Bool.and_eq_true, decide_eq_true_eq] at h3
      omega
  | succ n ih =>
    intro j hj hjs hu
    have h1 := hall j (List.mem_range.2 hjs)
    rw [hu] at h1
    by_cases hji : j = i
    · subst hji; exact ⟨hi, fun h => absurd rfl h⟩
    · have : (j == i) = false := by simpa using hji
      rw [this] at h1
      obtain ⟨oj, hoj⟩ : ∃ oj, ops[j]? = some oj := ⟨_, Array.getElem?_eq_getElem hjs⟩
      rw [hoj] at h1
      have h2 : oj.after.any (fun e => Region.binds md e && u.getD e.on false && decide (e.on < j)) = true := by simpa using h1
      obtain ⟨e, he, h3⟩ := Array.any_eq_true'.1 h2
      simp only [Bool.and_eq_true, decide_eq_true_eq] at h3
      obtain ⟨⟨h4, h5⟩, h6⟩ := h3
      have h7 := (ih e.on (by omega) (by omega) h5).1
      have h8 : listed.getD e.on false = false := by rw [getD_lt (by rw [inv.size]; omega) false true]; exact h7
      refine ⟨?_, fun _ hr => ?_⟩
      · cases hl : listed.getD j true with
        | false => rfl
        | true =>
          have := inv.closed j oj hoj (by rw [getD_lt (by rw [inv.size]; exact hjs) false true]; exact hl) e he h4
          rw [h8] at this; cases this
      · obtain ⟨_, o', ho', hall'⟩ := mem_ready.1 hr
        rw [hoj] at ho'; cases ho'
        have := hall' e he h4
        rw [getD_lt (by rw [inv.size]; omega) _ false, h8] at this; cases this
theorem getD_set_eq {l : Array Bool} {i : Nat} (h : i < l.size) (b : Bool) : (l.setIfInBounds i true).getD i b = true := by simp [h]
theorem wpAnyT_first {i : Nat} {oi : Oper} {v : Value} {G : World → Prop} (hi : ops[i]? = some oi) (hsel : ∀ (j : Nat) (o : Oper) cs b, ops[j]? = some o → o.op ≠ .select cs b)
    (hQ : ∀ c a w, Q (.panic c) (a.put oi.dst v) w → Q (.panic c) a w) (hne : i ≠ s)
    (hG : (∀ w, G w) ∨ ((∀ w, S w → G w) ∧ ∀ listed, ClosedT md ops listed → listed.getD i true = false → listed.getD s true = false ∧ s ∉ Region.ready md ops listed)) :
    ∀ (fuel : Nat) (listed : Array Bool) (a : Act) (w : World), ClosedT md ops listed →
      (∀ j oj, ops[j]? = some oj → j ≠ i → listed.getD j true = false → (∀ e ∈ oj.after, Region.binds md e = true → e.on ≠ i) → oi.apart ops oj = true) →
      i ∈ Region.ready md ops listed → YieldsIf P ops G oi v a → (listed.getD s true = false → S w) →
      wpAnyT P md ops Q S s fuel (listed.setIfInBounds i true) (a.put oi.dst v) w → wpAnyT P md ops Q S s (fuel + 1) listed a w := by
  have hGw : ∀ (listed : Array Bool) (w : World), ClosedT md ops listed → i ∈ Region.ready md ops listed → (listed.getD s true = false → S w) → G w := by
    intro listed w inv hr hS
    rcases hG with hG | ⟨hG, hU⟩
    · exact hG w
    · exact hG w (hS (hU listed inv (mem_ready.1 hr).1).1)
  intro fuel
  induction fuel with
  | zero =>
    intro listed a w inv _ hr hy hS H
    refine ⟨fun h => (by rw [h] at hr; cases hr), fun j hj => ?_⟩
    by_cases hji : j = i
    · subst hji; exact hy.wpOp hi (hGw listed w inv hr hS) ⟨fun h => hS (by rwa [getD_set_ne true hne] at h), H⟩
    · have := ready_mono hj hji
      rw [H.1] at this
      cases this
  | succ fuel ih =>
    intro listed a w inv hfree hr hy hS H
    refine ⟨fun h => (by rw [h] at hr; cases hr), fun j hj => ?_⟩
    by_cases hji : j = i
    · subst hji; exact hy.wpOp hi (hGw listed w inv hr hS) ⟨fun h => hS (by rwa [getD_set_ne true hne] at h), H⟩
    · have h1 := H.2 j (ready_mono hj hji)
      obtain ⟨hjun, oj, hoj, hall⟩ := mem_ready.1 hj
      have hnot : ∀ e ∈ oj.after, Region.binds md e = true → e.on ≠ i := fun e he hb heq => by
        have h1 := hall e he hb
        have h0 := (mem_ready.1 hr).1
        rw [heq] at h1
        rcases Nat.lt_or_ge i listed.size with h' | h'
        · simp [h'] at h0 h1; rw [h0] at h1; cases h1
        · simp [Array.getElem?_eq_none h'] at h1
      have h2 := wpOp_putIf hoj (hfree j oj hoj hji hjun hnot) (fun cs b => hsel i oi cs b hi) (fun cs b => hsel j oj cs b hoj) hQ hy h1
      have hfree' : ∀ k ok, ops[k]? = some ok → k ≠ i → (listed.setIfInBounds j true).getD k true = false →
          (∀ e ∈ ok.after, Region.binds md e = true → e.on ≠ i) → oi.apart ops ok = true := fun k ok hk hki hun hno => by
        refine hfree k ok hk hki ?_ hno
        by_cases hjk : j = k
        · subst hjk; exact hjun
        · rw [getD_set_ne true hjk] at hun; exact hun
      have hjlt : j < ops.size := (Array.getElem?_eq_some_iff.1 hoj).1
      have inv' : ClosedT md ops (listed.setIfInBounds j true) := ⟨by simp [inv.size], fun k ok hk hl e he hb => by
        by_cases hek : j = e.on
        · rw [← hek]; exact getD_set_eq (by rw [inv.size]; exact hjlt) false
        · rw [getD_set_ne false hek]
          by_cases hkj : j = k
          · subst hkj
            rw [hoj] at hk; cases hk
            exact hall e he hb
          · rw [getD_set_ne false hkj] at hl
            exact inv.closed k ok hk hl e he hb⟩
      refine wpOp_mono (fun a' w' h3 => ?_) h2
      obtain ⟨hy', hS', hW'⟩ := h3
      have hcond : (listed.setIfInBounds j true).getD s true = false → S w' := fun h => hS' (by rw [Array.setIfInBounds_comm _ _ (Ne.symm hji), getD_set_ne true hne]; exact h)
      refine ⟨hcond, ih (listed.setIfInBounds j true) a' w' inv' hfree' (ready_mono hr (Ne.symm hji)) hy' hcond ?_⟩
      rw [Array.setIfInBounds_comm _ _ hji]
      exact hW'
def closedB (md : Region.Mode) (ops : Array Oper) (listed : Array Bool) : Bool :=
  listed.size == ops.size && (List.range ops.size).all (fun j => !listed.getD j false || ((ops[j]?).map (·.after.all fun e => !Region.binds md e || listed.getD e.on false)).getD true)
theorem closedB_spec {listed : Array Bool} (h : closedB md ops listed = true) : ClosedT md ops listed := by
  unfold closedB at h
  simp only [Bool.and_eq_true, beq_iff_eq] at h
  refine ⟨h.1, fun j oj hj hl e he hb => ?_⟩
  have hjlt : j < ops.size := (Array.getElem?_eq_some_iff.1 hj).1
  have h2 := List.all_eq_true.1 h.2 j (List.mem_range.2 hjlt)
  rw [hl, hj] at h2
  have h3 : oj.after.all (fun e => !Region.binds md e || listed.getD e.on false) = true := by simpa using h2
  have h4 := (Array.all_eq_true'.1 h3) e he
  simpa [hb] using h4
def frB (md : Region.Mode) (ops : Array Oper) (s i : Nat) (listed : Array Bool) : Bool :=
  Region.noSelect ops && decide (i ≠ s) && closedB md ops listed && Region.free md ops listed i && (Region.ready md ops listed).contains i
def tkB (md : Region.Mode) (ops : Array Oper) (s i : Nat) (listed : Array Bool) : Bool :=
  frB md ops s i listed && decide (s < ops.size) && certB md ops i s (waitU md ops i)
/-- What reads, and nothing else, is taken at once. -/
theorem wpT_td {i fuel : Nat} {listed : Array Bool} {a : Act} {w : World} (hb : tkB md ops s i listed = true) (hS : S w)
    (h : ∀ oi, ops[i]? = some oi → ∃ v, Region.wanted oi (yielded ops a.tmps) = true ∧ (∀ w, S w → (execOp a.eval oi).run P w = .ok (.value v) w) ∧ (∀ c a w, Q (.panic c) (a.put oi.dst v) w → Q (.panic c) a w) ∧ wpAnyT P md ops Q S s fuel (listed.setIfInBounds i true) (a.put oi.dst v) w) : wpAnyT P md ops Q S s (fuel + 1) listed a w := by
  unfold tkB frB at hb
  simp only [Bool.and_eq_true, decide_eq_true_eq] at hb
  obtain ⟨⟨⟨⟨⟨⟨h1, h2⟩, h3⟩, h4⟩, h5⟩, h6⟩, h7⟩ := hb
  have hr : i ∈ Region.ready md ops listed := by simpa using h5
  obtain ⟨_, oi, hi, _⟩ := mem_ready.1 hr
  have hil : i < ops.size := (Array.getElem?_eq_some_iff.1 hi).1
  obtain ⟨v, hw, hy, hQ, h⟩ := h oi hi
  have hu : (waitU md ops i).getD s false = true := by unfold certB at h7; simp only [Bool.and_eq_true] at h7; exact h7.1.1
  exact wpAnyT_first hi (Region.noSelect_spec h1) hQ h2 (Or.inr ⟨fun _ h => h, fun l inv hl => (fun hh => ⟨hh.1, hh.2 (Ne.symm h2)⟩) (cert_waits h7 h6 inv hl hil s s (Nat.le_refl _) h6 hu)⟩) fuel listed a w (closedB_spec h3) (Region.free_spec hi h4) hr (Or.inl ⟨hw, hy⟩) (fun _ => hS) h
theorem wpT_tk {i fuel : Nat} {listed : Array Bool} {a : Act} {w : World} (hb : tkB md ops s i listed = true) (hQ : ∀ (c : _) (a : Act) (d : Option Tmp) (v : Value) (w : World), Q (.panic c) (a.put d v) w → Q (.panic c) a w) (hS : S w)
    (h : ∀ oi, ops[i]? = some oi → ∃ v, Region.wanted oi (yielded ops a.tmps) = true ∧ (∀ w, S w → (execOp a.eval oi).run P w = .ok (.value v) w) ∧ wpAnyT P md ops Q S s fuel (listed.setIfInBounds i true) (a.put oi.dst v) w) : wpAnyT P md ops Q S s (fuel + 1) listed a w :=
  wpT_td hb hS (fun oi hi => by obtain ⟨v, h1, h2, h3⟩ := h oi hi; exact ⟨v, h1, h2, fun c a w => hQ c a _ _ w, h3⟩)
/-- The next one in the text, of n. -/
theorem wpT_sq (n : Nat) {fuel : Nat} {listed : Array Bool} {a : Act} {w : World} (hb : tkB md ops s (n - (fuel + 1)) listed = true) (hQ : ∀ (c : _) (a : Act) (d : Option Tmp) (v : Value) (w : World), Q (.panic c) (a.put d v) w → Q (.panic c) a w) (hS : S w)
    (h : ∀ oi, ops[n - (fuel + 1)]? = some oi → ∃ v, Region.wanted oi (yielded ops a.tmps) = true ∧ (∀ w, S w → (execOp a.eval oi).run P w = .ok (.value v) w) ∧ wpAnyT P md ops Q S s fuel (listed.setIfInBounds (n - (fuel + 1)) true) (a.put oi.dst v) w) : wpAnyT P md ops Q S s (fuel + 1) listed a w := wpT_tk hb hQ hS h
/-- What answers the same in every world is taken at once, wherever it stands. -/
theorem wpT_fr {i fuel : Nat} {listed : Array Bool} {a : Act} {w : World} (hb : frB md ops s i listed = true) (hQ : ∀ (c : _) (a : Act) (d : Option Tmp) (v : Value) (w : World), Q (.panic c) (a.put d v) w → Q (.panic c) a w) (hS : listed.getD s true = false → S w)
    (h : ∀ oi, ops[i]? = some oi → ∃ v, Region.wanted oi (yielded ops a.tmps) = true ∧ (∀ w, (execOp a.eval oi).run P w = .ok (.value v) w) ∧ wpAnyT P md ops Q S s fuel (listed.setIfInBounds i true) (a.put oi.dst v) w) : wpAnyT P md ops Q S s (fuel + 1) listed a w := by
  unfold frB at hb
  simp only [Bool.and_eq_true, decide_eq_true_eq] at hb
  obtain ⟨⟨⟨⟨h1, h2⟩, h3⟩, h4⟩, h5⟩ := hb
  have hr : i ∈ Region.ready md ops listed := by simpa using h5
  obtain ⟨_, oi, hi, _⟩ := mem_ready.1 hr
  obtain ⟨v, hw, hy, h⟩ := h oi hi
  exact wpAnyT_first (G := fun _ => True) hi (Region.noSelect_spec h1) (fun c a w => hQ c a _ _ w) h2 (Or.inl (fun _ => trivial)) fuel listed a w (closedB_spec h3) (Region.free_spec hi h4) hr (Or.inl ⟨hw, fun w _ => hy w⟩) hS h
/-- What a guard leaves out. -/
theorem wpT_sk {i fuel : Nat} {listed : Array Bool} {a : Act} {w : World} (hb : frB md ops s i listed = true) (hQ : ∀ (c : _) (a : Act) (d : Option Tmp) (v : Value) (w : World), Q (.panic c) (a.put d v) w → Q (.panic c) a w) (hS : listed.getD s true = false → S w)
    (h : ∀ oi, ops[i]? = some oi → Region.wanted oi (yielded ops a.tmps) = false ∧ wpAnyT P md ops Q S s fuel (listed.setIfInBounds i true) (a.put oi.dst undef) w) : wpAnyT P md ops Q S s (fuel + 1) listed a w := by
  unfold frB at hb
  simp only [Bool.and_eq_true, decide_eq_true_eq] at hb
  obtain ⟨⟨⟨⟨h1, h2⟩, h3⟩, h4⟩, h5⟩ := hb
  have hr : i ∈ Region.ready md ops listed := by simpa using h5
  obtain ⟨_, oi, hi, _⟩ := mem_ready.1 hr
  obtain ⟨hw, h⟩ := h oi hi
  exact wpAnyT_first (G := fun _ => True) hi (Region.noSelect_spec h1) (fun c a w => hQ c a _ _ w) h2 (Or.inl (fun _ => trivial)) fuel listed a w (closedB_spec h3) (Region.free_spec hi h4) hr (Or.inr ⟨hw, rfl⟩) hS h
/-- What is to be shown of a step. -/
def StepT (P : Program) (md : Region.Mode) (ops : Array Oper) (Q : Exit → Act → World → Prop) (S : World → Prop) (s fuel : Nat) (listed : Array Bool) (a : Act) (w : World) (i : Nat) : Prop :=
  ∀ o, ops[i]? = some o → ∀ K' : Act → World → Prop, Shut (∀ a w, ((decide (i ≠ s) && !listed.getD s true) = true → S w) → wpAnyT P md ops Q S s fuel (listed.setIfInBounds i true) a w → K' a w) → if Region.wanted o (yielded ops a.tmps) = true then Oper.wp P o a w K' Q else K' (a.put o.dst undef) w
theorem wpT_all {rs : List Nat} {fuel : Nat} {listed : Array Bool} {a : Act} {w : World} (hr : Region.ready md ops listed = rs) (hne : rs ≠ []) (h : ∀ i ∈ rs, StepT P md ops Q S s fuel listed a w i) : wpAnyT P md ops Q S s (fuel + 1) listed a w :=
  ⟨fun h0 => absurd (hr ▸ h0) hne, fun j hj => by
    obtain ⟨hun, o, ho, _⟩ := mem_ready.1 hj
    rw [hr] at hj
    refine wpOp_step ho (fun K' hK => h j hj o ho K' (fun a w hS hW => hK a w ⟨fun hc => hS ?_, hW⟩))
    by_cases hjs : j = s
    · subst hjs
      rcases Nat.lt_or_ge j listed.size with h' | h'
      · rw [getD_set_eq h' true] at hc; cases hc
      · have h9 : (listed.setIfInBounds j true).getD j true = true := by simp [Array.getElem?_eq_none (show (listed.setIfInBounds j true).size ≤ j by simpa using h')]
        rw [h9] at hc; cases hc
    · rw [getD_set_ne true hjs] at hc
      simp [hjs, hc]⟩
/-- One alone may come up. -/
theorem wpT_one {i : Nat} {fuel : Nat} {listed : Array Bool} {a : Act} {w : World} (hr : Region.ready md ops listed = [i]) (h : StepT P md ops Q S s fuel listed a w i) : wpAnyT P md ops Q S s (fuel + 1) listed a w :=
  wpT_all hr (by simp) (fun j hj => by rw [List.mem_singleton] at hj; subst hj; exact h)
theorem wpT_two {i k : Nat} {fuel : Nat} {listed : Array Bool} {a : Act} {w : World} (hr : Region.ready md ops listed = [i, k]) (h : StepT P md ops Q S s fuel listed a w i) (h' : StepT P md ops Q S s fuel listed a w k) : wpAnyT P md ops Q S s (fuel + 1) listed a w :=
  wpT_all hr (by simp) (fun j hj => by
    rcases List.mem_cons.1 hj with rfl | hj
    · exact h
    · rw [List.mem_singleton] at hj; subst hj; exact h')
theorem wpT_done {listed : Array Bool} {a : Act} {w : World} (hr : Region.ready md ops listed = []) (h : Q .normal a w) : ∀ fuel, wpAnyT P md ops Q S s fuel listed a w
  | 0 => ⟨hr, h⟩
  | _ + 1 => ⟨fun _ => h, by rw [hr]; simp⟩
theorem wp_region_T {id : Nat} {a : Act} {w : World} (s : Nat) (S : World → Prop) (hm : P.follows .mixedOrders = true)
    (h : wpAnyT P .any ops Q S s ops.size (Array.replicate ops.size false) a w.drew) : (Code.region id ops true).wp P Q a w :=
  wp_region_any hm (wpAny_of_T _ _ _ _ h)
/-- The same, of n operations. -/
theorem wp_region_Tn {id : Nat} {a : Act} {w : World} (n s : Nat) (S : World → Prop) (hm : P.follows .mixedOrders = true) (hn : ops.size = n)
    (h : wpAnyT P .any ops Q S s n (Array.replicate n false) a w.drew) : (Code.region id ops true).wp P Q a w := by
  subst hn; exact wp_region_T s S hm h
end
end Go.Proofs.YtijkkompnfpdeaaGreatDoor
