/- Plain law: the text of a task that may be seen tells the task. -/
import Derived.Test.YthaodmobcbccaaaDoorLv
import Derived.Deep.Light
set_option linter.unusedVariables false
set_option linter.unusedSimpArgs false
namespace Go.Proofs.YthaodmobcbccaaaDoor

/-- No blank in it. -/
def nb (l : List UInt8) : Prop := ∀ c ∈ l, c ≠ 32
theorem digit_nb (r : Nat) (h : r < 10) : UInt8.ofNat (48 + r) ≠ 32 := by
  match r, h with
  | 0, _ => decide
  | 1, _ => decide
  | 2, _ => decide
  | 3, _ => decide
  | 4, _ => decide
  | 5, _ => decide
  | 6, _ => decide
  | 7, _ => decide
  | 8, _ => decide
  | 9, _ => decide
theorem digit_minus (r : Nat) (h : r < 10) : UInt8.ofNat (48 + r) ≠ 45 := by
  match r, h with
  | 0, _ => decide
  | 1, _ => decide
  | 2, _ => decide
  | 3, _ => decide
  | 4, _ => decide
  | 5, _ => decide
  | 6, _ => decide
  | 7, _ => decide
  | 8, _ => decide
  | 9, _ => decide
theorem digit_inj (a b : Nat) (ha : a < 10) (hb : b < 10) (h : UInt8.ofNat (48 + a) = UInt8.ofNat (48 + b)) : a = b := by
  have := congrArg UInt8.toNat h
  simp at this
  omega
theorem dec_nb (n : Nat) : ∀ c ∈ Lib.decDigits n, c ≠ 32 ∧ c ≠ 45 := by
  induction n using Nat.strongRecOn with
  | _ n ih =>
    intro c hc
    by_cases h : n < 10
    · rw [Lib.decDigits_one h] at hc
      simp only [List.mem_singleton] at hc
      subst hc
      exact ⟨digit_nb n h, digit_minus n h⟩
    · rw [dec_step h] at hc
      rcases List.mem_append.1 hc with h1 | h1
      · exact ih _ (by omega) c h1
      · simp only [List.mem_singleton] at h1
        subst h1
        exact ⟨digit_nb _ (Nat.mod_lt _ (by decide)), digit_minus _ (Nat.mod_lt _ (by decide))⟩
theorem dec_ne (n : Nat) : Lib.decDigits n ≠ [] := by
  by_cases h : n < 10
  · rw [Lib.decDigits_one h]; simp
  · rw [dec_step h]; simp
theorem dec_inj : ∀ (a b : Nat), Lib.decDigits a = Lib.decDigits b → a = b := by
  intro a
  induction a using Nat.strongRecOn with
  | _ a ih =>
    intro b h
    by_cases ha : a < 10
    · rw [Lib.decDigits_one ha] at h
      by_cases hb : b < 10
      · rw [Lib.decDigits_one hb] at h
        exact digit_inj a b ha hb (List.cons.inj h).1
      · rw [dec_step hb] at h
        have h0 := dec_ne (b / 10)
        cases hq : Lib.decDigits (b / 10) with
        | nil => exact absurd hq h0
        | cons x l => rw [hq] at h; simp at h
    · rw [dec_step ha] at h
      by_cases hb : b < 10
      · rw [Lib.decDigits_one hb] at h
        have h0 := dec_ne (a / 10)
        cases hq : Lib.decDigits (a / 10) with
        | nil => exact absurd hq h0
        | cons x l => rw [hq] at h; simp at h
      · rw [dec_step hb] at h
        obtain ⟨h1, h2⟩ := List.append_inj' h rfl
        have e1 := ih _ (by omega) _ h1
        have e2 := digit_inj _ _ (Nat.mod_lt _ (by decide)) (Nat.mod_lt _ (by decide)) (List.cons.inj h2).1
        omega
theorem itoa_nb (n : Int) : nb (Lib.itoa n) := by
  unfold Lib.itoa
  split
  · intro c hc
    rcases List.mem_cons.1 hc with rfl | h
    · decide
    · exact (dec_nb _ c h).1
  · exact fun c hc => (dec_nb _ c hc).1
theorem itoa_inj {a b : Int} (h : Lib.itoa a = Lib.itoa b) : a = b := by
  unfold Lib.itoa at h
  split at h <;> split at h
  · have := dec_inj _ _ (List.cons.inj h).2
    omega
  · have h1 : (45 : UInt8) ∈ Lib.decDigits b.toNat := by rw [← h]; simp
    exact absurd rfl (dec_nb _ _ h1).2
  · have h1 : (45 : UInt8) ∈ Lib.decDigits a.toNat := by rw [h]; simp
    exact absurd rfl (dec_nb _ _ h1).2
  · have := dec_inj _ _ h
    omega
/-- A field ends at the first blank. -/
theorem field {a b x y : List UInt8} (ha : nb a) (hb : nb b) (h : a ++ 32 :: x = b ++ 32 :: y) : a = b ∧ x = y := by
  induction a generalizing b with
  | nil =>
    cases b with
    | nil => simpa using h
    | cons c l =>
      have h1 := (List.cons.inj (by simpa using h : (32 : UInt8) :: x = c :: (l ++ 32 :: y))).1
      exact absurd h1.symm (hb c (by simp))
  | cons c l ih =>
    cases b with
    | nil =>
      have h1 := (List.cons.inj (by simpa using h : c :: (l ++ 32 :: x) = (32 : UInt8) :: y)).1
      exact absurd h1 (ha c (by simp))
    | cons d m =>
      simp only [List.cons_append, List.cons.injEq] at h
      obtain ⟨e1, e2⟩ := ih (fun z hz => ha z (by simp [hz])) (fun z hz => hb z (by simp [hz])) h.2
      exact ⟨by rw [h.1, e1], e2⟩
theorem fnum {m n : Int} {x y : List UInt8} (h : Lib.itoa m ++ 32 :: x = Lib.itoa n ++ 32 :: y) : m = n ∧ x = y := by
  obtain ⟨h1, h2⟩ := field (itoa_nb m) (itoa_nb n) h
  exact ⟨itoa_inj h1, h2⟩
/-- A number is no '-'. -/
theorem itoa_dash (n : Int) : Lib.itoa n ≠ [45] := by
  intro h
  unfold Lib.itoa at h
  split at h
  · exact dec_ne _ (List.cons.inj h).2
  · have h1 : (45 : UInt8) ∈ Lib.decDigits n.toNat := by rw [h]; simp
    exact absurd rfl (dec_nb _ _ h1).2
/-- The words of the states. -/
def swd (st : Int) : List UInt8 := if st = 1 then [114, 101, 97, 100, 121] else if st = 2 then [119, 97, 105, 116, 115] else [102, 97, 117, 108, 116]
def hwd (hd : Bool) : List UInt8 := if hd then [104, 101, 108, 100] else [45]
theorem sw_eq (st : Int) : sw st = 32 :: swd st := by unfold sw swd; split <;> (try split) <;> rfl
theorem hw_eq (hd : Bool) : hw hd = 32 :: hwd hd := by cases hd <;> rfl
theorem swd_nb (st : Int) : nb (swd st) := by unfold swd nb; split <;> (try split) <;> decide
theorem hwd_nb (hd : Bool) : nb (hwd hd) := by cases hd <;> (unfold hwd nb; decide)
theorem swd_inj {a b : Int} (ha : a = 1 ∨ a = 2 ∨ a = 3) (hb : b = 1 ∨ b = 2 ∨ b = 3) (h : swd a = swd b) : a = b := by
  rcases ha with rfl | rfl | rfl <;> rcases hb with rfl | rfl | rfl <;> first | rfl | (revert h; decide)
theorem hwd_inj {a b : Bool} (h : hwd a = hwd b) : a = b := by cases a <;> cases b <;> first | rfl | (revert h; decide)
theorem idle_zero {t : Tk} (hc : chk t = true) (h2 : t.st ≠ 2) : t.wh = 0 ∧ t.wH = 0 ∧ t.wV = 0 ∧ t.wM = 0 ∧ t.lf = 0 := by
  have hs := chk_st hc
  have hb : ¬ bad t := fun h => by rw [chk_bad h] at hc; cases hc
  rw [chk_idle hb (by omega)] at hc
  have := of_decide_eq_true hc
  unfold noask at this
  omega
theorem txt_inj {a b : Tk} (ha : chk a = true) (hb : chk b = true) (h : txt a = txt b) : lk a b = true := by
  have sa := chk_st ha
  have sb := chk_st hb
  have za := @idle_zero a ha
  have zb := @idle_zero b hb
  unfold txt at h
  rw [sw_eq, sw_eq, hw_eq, hw_eq] at h
  unfold num at h
  simp only [List.append_assoc, List.cons_append] at h
  obtain ⟨e1, h⟩ := fnum h
  obtain ⟨e2, h⟩ := field (swd_nb _) (swd_nb _) h
  have e2 := swd_inj sa sb e2
  obtain ⟨e3, h⟩ := field (hwd_nb _) (hwd_nb _) h
  have e3 := hwd_inj e3
  obtain ⟨e4, h⟩ := fnum h
  unfold mid at h
  rw [← e2] at h
  by_cases hs : a.st = 2
  · rw [if_pos hs, if_pos hs] at h
    unfold num at h
    simp only [List.append_assoc, List.cons_append] at h
    obtain ⟨e5, h⟩ := fnum h
    obtain ⟨e6, h⟩ := fnum h
    obtain ⟨e7, h⟩ := fnum h
    obtain ⟨e8, h⟩ := fnum h
    obtain ⟨e9, h⟩ := fnum h
    obtain ⟨e10, h⟩ := fnum h
    obtain ⟨e11, h⟩ := fnum h
    obtain ⟨e12, h⟩ := fnum h
    have e13 := itoa_inj h
    unfold lk
    exact decide_eq_true ⟨e1, e2, e3, e4, e5, ⟨e6, e7, e8, e9⟩, e10, e11, e12, e13⟩
  · rw [if_neg hs, if_neg hs] at h
    simp only [List.append_assoc, List.cons_append, List.nil_append] at h
    obtain ⟨e5, h⟩ := fnum h
    have h := (List.cons.inj (List.cons.inj h).2).2
    obtain ⟨e11, h⟩ := fnum h
    obtain ⟨e12, h⟩ := fnum h
    have e13 := itoa_inj h
    have z1 := za hs
    have z2 := zb (by omega)
    unfold lk
    exact decide_eq_true ⟨e1, e2, e3, e4, e5, ⟨by omega, by omega, by omega, by omega⟩, by omega, e11, e12, e13⟩
theorem txt_of_lk {a b : Tk} (h : lk a b = true) : txt a = txt b := by
  unfold lk at h
  obtain ⟨e1, e2, e3, e4, e5, ⟨e6, e7, e8, e9⟩, e10, e11, e12, e13⟩ := of_decide_eq_true h
  unfold txt mid
  rw [e1, e2, e3, e4, e5, e6, e7, e8, e9, e10, e11, e12, e13]
/-- The law. -/
theorem unlike {a b : Tk} (ha : chk a = true) (hb : chk b = true) : (text a = text b) ↔ lk a b = true := by
  have e1 : text a = txt a := by unfold text; rw [ha]; rfl
  have e2 : text b = txt b := by unfold text; rw [hb]; rfl
  rw [e1, e2]
  exact ⟨txt_inj ha hb, txt_of_lk⟩
theorem unlike_arr {a b : Tk} (ha : chk a = true) (hb : chk b = true) : decide ((⟨(text a).toArray⟩ : ByteArray) = ⟨(text b).toArray⟩) = lk a b := by
  rw [Bool.eq_iff_iff, decide_eq_true_eq, ← unlike ha hb]
  simp
end Go.Proofs.YthaodmobcbccaaaDoor
