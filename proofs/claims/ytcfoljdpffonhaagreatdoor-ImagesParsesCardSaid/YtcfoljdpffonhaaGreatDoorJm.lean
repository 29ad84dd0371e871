/- Instructions: texts a little other than those that are written. No program in sight. -/
import Derived.Test.YtcfoljdpffonhaaGreatDoorJf
set_option linter.unusedVariables false
set_option linter.unusedSimpArgs false
namespace Go.Proofs.YtcfoljdpffonhaaGreatDoor
open Go.RowKit

theorem pat_other {ps : List (List UInt8)} {op o : Nat} (h22 : op ≤ 22) (ho : o < 23) (hne : o ≠ op) : pat (wl op :: ps) o = none := by
  unfold pat
  rw [if_neg]
  rintro ⟨h1, _⟩
  exact hne (wl_inj (by omega) h22 (by simpa using h1))
theorem prs_word {s : List UInt8} {op : Nat} {ps : List (List UInt8)} (h22 : op ≤ 22) (hs : spl s = wl op :: ps) : prs s = if ps.length = (fl op).length then (rd (fl op) ps).map (fun b => (op, b)) else none := by
  have hp : pat (spl s) op = if ps.length = (fl op).length then rd (fl op) ps else none := by
    rw [hs]
    unfold pat
    simp only [List.headD_cons, List.tail_cons, List.length_cons, true_and]
    by_cases h : ps.length = (fl op).length
    · rw [if_pos (by omega), if_pos h]
    · rw [if_neg (by omega), if_neg h]
  have ho : ∀ o, o < 23 → o ≠ op → pat (spl s) o = none := fun o h h' => by rw [hs]; exact pat_other h22 h h'
  cases hx : pat (spl s) op with
  | some b =>
    rw [prs_at (by omega) (fun o h => ho o (by omega) (by omega)) hx]
    rw [hx] at hp
    split at hp
    · rename_i h; rw [if_pos h, ← hp]; rfl
    · cases hp
  | none =>
    rw [prs_none (fun o h => by by_cases h' : o = op; · rw [h', hx]
                                · exact ho o h h')]
    rw [hx] at hp
    split at hp
    · rename_i h; rw [if_pos h, ← hp]; rfl
    · rename_i h; rw [if_neg h]
theorem prs_noword {s : List UInt8} {w : List UInt8} {ps : List (List UInt8)} (hs : spl s = w :: ps) (hw : ∀ o, o ≤ 22 → wl o ≠ w) : prs s = none := by
  apply prs_none
  intro o ho
  rw [hs]
  unfold pat
  rw [if_neg]
  rintro ⟨h1, _⟩
  exact hw o (by omega) (by simpa using h1)
theorem spl_app : ∀ (s t : List UInt8), spl (s ++ 32 :: t) = spl s ++ spl t
  | [], t => by simp [spl]
  | c :: s, t => by
    obtain ⟨h', t', e⟩ := spl_ne s
    have ih := spl_app s t
    rw [List.cons_append, spl, spl, ih, e]
    split <;> rfl
theorem spl_cons {c : UInt8} {s h : List UInt8} {t : List (List UInt8)} (hc : c ≠ 32) (e : spl s = h :: t) : spl (c :: s) = (c :: h) :: t := by
  rw [spl, if_neg (by simpa using hc), e]
/-- The last part grows. -/
theorem spl_snoc {c : UInt8} (hc : c ≠ 32) : ∀ (s : List UInt8) (i : List (List UInt8)) (l : List UInt8), spl s = i ++ [l] → spl (s ++ [c]) = i ++ [l ++ [c]]
  | [], i, l, e => by
    cases i with
    | nil => simp [spl] at e; subst e; rw [List.nil_append, spl_cons (h := []) (t := []) hc rfl]; rfl
    | cons a i => simp [spl] at e
  | a :: s, i, l, e => by
    obtain ⟨h', t', e'⟩ := spl_ne s
    by_cases ha : a = 32
    · subst ha
      have e1 : spl (32 :: s) = [] :: spl s := by simp [spl]
      rw [e1] at e
      have e2 : spl (32 :: (s ++ [c])) = [] :: spl (s ++ [c]) := by simp [spl]
      rw [List.cons_append, e2]
      cases i with
      | nil => rw [e'] at e; simp at e
      | cons b i =>
        simp at e
        rw [spl_snoc hc s i l e.2, ← e.1]; rfl
    · rw [spl_cons ha e'] at e
      rw [List.cons_append]
      cases i with
      | nil =>
        simp at e
        have := spl_snoc hc s [] h' (by rw [e', e.2]; rfl)
        rw [spl_cons ha this]
        rw [← e.1]; rfl
      | cons b i =>
        simp at e
        have := spl_snoc hc s (h' :: i) l (by rw [e', e.2]; rfl)
        rw [List.cons_append] at this
        rw [spl_cons ha this, ← e.1]; rfl
theorem wl_ne (o : Nat) (h : o ≤ 22) : wl o ≠ [] := by
  have key : ∀ n : Nat, n ≤ 22 → wl n ≠ [] := by decide
  exact key o h
/-- A text that may be: its parts. -/
theorem txo_spl {op : Nat} {a b c : Int} (hb : By3 a b c) (hk : ck op a b c = true) : op ≤ 22 ∧ ∃ l, mays (fl op) l ∧ txo op a b c = txt op l ∧ spl (txo op a b c) = wl op :: txs (fl op) l ∧ (txs (fl op) l).length = (fl op).length := by
  obtain ⟨l, hl, ht⟩ := ck_flds hb hk
  obtain ⟨h22, hs⟩ := flds_some hl
  have hm := sp_mays _ _ _ hs
  exact ⟨h22, l, hm, ht, by rw [ht, spl_txt], txs_len _ _ (mays_len _ _ hm)⟩
/-- A field more. -/
theorem prs_more {op : Nat} {a b c : Int} (hb : By3 a b c) (hk : ck op a b c = true) (t : List UInt8) : prs (txo op a b c ++ 32 :: t) = none := by
  obtain ⟨h22, l, _, _, hs, hl⟩ := txo_spl hb hk
  obtain ⟨p, q, e⟩ := spl_ne t
  rw [prs_word (op := op) (ps := txs (fl op) l ++ p :: q) h22 (by rw [spl_app, hs, e]; rfl), if_neg]
  simp
  omega
/-- A blank ahead. -/
theorem prs_blank (s : List UInt8) : prs (32 :: s) = none :=
  prs_noword (w := []) (ps := spl s) (by simp [spl]) (fun o h => wl_ne o h)
theorem rd_bad : ∀ (cs : List UInt8) (ps : List (List UInt8)), ps.length + 1 = cs.length → rd cs (ps ++ [[]]) = none
  | [], ps, h => by simp at h
  | [c], [], _ => by
    have e : pk c [] = none := by
      have : nS [] = none := rfl
      unfold pk
      split
      · rfl
      · split
        · show pkS (nS []) _ = none; rw [this]; rfl
        · exact this
    simp only [rd, List.nil_append, e]
  | c :: d :: cs, [], h => by simp at h
  | c :: cs, p :: ps, h => by
    have ih := rd_bad cs ps (by simpa using h)
    simp only [rd, List.cons_append, ih]
    split
    · split <;> rfl
    · rfl
/-- Up to its last blank: what lies ahead of the last field. -/
theorem txo_last {op : Nat} {a b c : Int} (hb : By3 a b c) (hk : ck op a b c = true) :
    (fl op = [] ∧ (32 : UInt8) ∉ txo op a b c) ∨ ∃ s t, txo op a b c = s ++ 32 :: t ∧ (32 : UInt8) ∉ t ∧ prs s = none ∧ prs (s ++ [32]) = none := by
  obtain ⟨h22, l, hm, ht, hs, hl⟩ := txo_spl hb hk
  rcases List.eq_nil_or_concat (txs (fl op) l) with hn | ⟨i, p, hn⟩
  · left
    have hf : fl op = [] := by rw [hn] at hl; exact List.length_eq_zero_iff.1 hl.symm
    refine ⟨hf, ?_⟩
    rw [ht]
    unfold txt
    rw [hn]
    simpa [jn] using wl_sp op
  · right
    rw [List.concat_eq_append] at hn
    have hp : (32 : UInt8) ∉ p := txs_sp (fl op) l p (by rw [hn]; simp)
    have hi : ∀ q ∈ i, (32 : UInt8) ∉ q := fun q hq => txs_sp (fl op) l q (by rw [hn]; simp [hq])
    have hsj := spl_jn i (wl op) (wl_sp op) hi
    refine ⟨jn (wl op) i, p, ?_, hp, ?_, ?_⟩
    · rw [ht]; unfold txt; rw [hn]; simp [jn]
    · rw [prs_word h22 hsj, if_neg]
      rw [hn] at hl; simp at hl; omega
    · rw [prs_word (op := op) (ps := i ++ [[]]) h22 (by rw [spl_app, hsj]; rfl), rd_bad]
      · simp
      · rw [hn] at hl; simp at hl; omega
/-- A byte ahead of it. -/
theorem prs_ahead {op : Nat} {a b c : Int} (hb : By3 a b c) (hk : ck op a b c = true) (x : UInt8) : (prs (x :: txo op a b c)).isSome = (decide (op = 7) && decide (x = 120)) := by
  obtain ⟨h22, l, hm, ht, hs, hl⟩ := txo_spl hb hk
  by_cases hx : x = 32
  · subst hx; rw [prs_blank]; simp
  · have hc := spl_cons hx hs
    by_cases h7 : op = 7 ∧ x = 120
    · obtain ⟨rfl, rfl⟩ := h7
      rw [prs_word (op := 8) (by omega) hc, if_pos (show (txs (fl 7) l).length = (fl 8).length from hl)]
      have := rd_txs _ _ hm
      rw [show fl 8 = fl 7 from rfl, this]; rfl
    · have hw : ∀ o, o ≤ 22 → wl o ≠ x :: wl op := by
        have key : ∀ n : Nat, n ≤ 22 → ∀ m : Nat, m ≤ 22 → ((wl n).tail == wl m) = true → (m == 7 && (wl n).headD 0 == 120) = true := by decide
        intro o ho he
        have := key o ho op h22 (by rw [he]; simp)
        rw [he] at this
        simp at this
        exact h7 this
      rw [prs_noword hc hw]
      have : ¬ (op = 7 ∧ x = 120) := h7
      simp only [Option.isSome_none]
      symm
      rw [Bool.and_eq_false_iff]
      by_cases h : op = 7
      · right; simp; exact fun h' => h7 ⟨h, h'⟩
      · left; simp [h]
theorem itoa_end (n : Int) : ∃ s d, Lib.itoa n = s ++ [d] ∧ 48 ≤ d.toNat ∧ d.toNat ≤ 57 := by
  have key : ∀ u : Nat, ∃ s d, Lib.decDigits u = s ++ [d] ∧ 48 ≤ d.toNat ∧ d.toNat ≤ 57 := by
    intro u
    have hd := dec_digits u
    rcases List.eq_nil_or_concat (Lib.decDigits u) with h | ⟨i, p, h⟩
    · exact absurd h (dec_ne u)
    · rw [List.concat_eq_append] at h
      exact ⟨i, p, h, hd p (by rw [h]; simp)⟩
  unfold Lib.itoa
  split
  · obtain ⟨s, d, h, h'⟩ := key n.natAbs
    exact ⟨45 :: s, d, by rw [h]; rfl, h'⟩
  · obtain ⟨s, d, h, h'⟩ := key n.toNat
    exact ⟨s, d, h, h'⟩
theorem tx_end (c : UInt8) (n : Int) : ∃ s d, tx c n = s ++ [d] ∧ 48 ≤ d.toNat ∧ d.toNat ≤ 57 := by
  unfold tx
  split
  · obtain ⟨s, d, h, h'⟩ := itoa_end n
    exact ⟨114 :: s, d, by rw [h]; rfl, h'⟩
  · split <;> exact itoa_end _
/-- A byte behind it. -/
theorem prs_behind {op : Nat} {a b c : Int} (hb : By3 a b c) (hk : ck op a b c = true) (x : UInt8) {o : Nat} {bs : List Int} (h : prs (txo op a b c ++ [x]) = some (o, bs)) : o = op ∧ 48 ≤ x.toNat ∧ x.toNat ≤ 57 := by
  obtain ⟨h22, l, hm, ht, hs, hl⟩ := txo_spl hb hk
  have hx : x ≠ 32 := by
    rintro rfl
    rw [prs_more hb hk []] at h
    cases h
  obtain ⟨a', b', c', hb', hr, hk', ht', h22'⟩ := of_prs h
  obtain ⟨_, l', hm', htt, hs', hl'⟩ := txo_spl hb' hk'
  rcases List.eq_nil_or_concat (txs (fl op) l) with hn | ⟨i, p, hn⟩
  · have h1 : spl (txo op a b c ++ [x]) = [] ++ [wl op ++ [x]] := spl_snoc hx _ [] _ (by rw [hs, hn]; rfl)
    rw [← ht', hs'] at h1
    simp at h1
    obtain ⟨h2, h3⟩ := h1
    exfalso
    have key : ∀ n : Nat, n ≤ 22 → ∀ m : Nat, m ≤ 22 → fl m = [] → (wl n).dropLast = wl m → wl n = wl m := by decide
    have hf : fl op = [] := by rw [hn] at hl; exact List.length_eq_zero_iff.1 hl.symm
    have := key o h22' op h22 hf (by rw [h2]; simp)
    rw [h2] at this
    simp at this
  · rw [List.concat_eq_append] at hn
    have h1 : spl (txo op a b c ++ [x]) = (wl op :: i) ++ [p ++ [x]] := spl_snoc hx _ (wl op :: i) _ (by rw [hs, hn]; rfl)
    rw [← ht', hs'] at h1
    simp at h1
    obtain ⟨h2, h3⟩ := h1
    refine ⟨wl_inj h22' h22 h2, ?_⟩
    have hmem : p ++ [x] ∈ txs (fl o) l' := by rw [h3]; simp
    have key : ∀ (cs : List UInt8) (ns : List Int), ∀ q ∈ txs cs ns, ∃ ch n, q = tx ch n := by
      intro cs
      induction cs with
      | nil => intro ns q hq; simp [txs] at hq
      | cons ch cs ih =>
        intro ns q hq
        cases ns with
        | nil => simp [txs] at hq
        | cons n ns =>
          simp [txs] at hq
          rcases hq with rfl | hq
          · exact ⟨ch, n, rfl⟩
          · exact ih ns q hq
    obtain ⟨ch, n, e⟩ := key _ _ _ hmem
    obtain ⟨s, d, e2, h4⟩ := tx_end ch n
    rw [e2] at e
    have := List.append_inj_right' e rfl
    simp at this
    subst this
    exact h4
end Go.Proofs.YtcfoljdpffonhaaGreatDoor
