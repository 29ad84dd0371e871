/- Instructions: the document's Parse, walked. -/
import Derived.Test.YtcfoljdpffonhaaGreatDoorJw
set_option linter.unusedVariables false
set_option linter.unusedSimpArgs false
namespace Go.Proofs.YtcfoljdpffonhaaGreatDoor
open Go.RowKit Go.Joins Go.Shelf
attribute [local go_sem] Oper.semAt_some

/-- Fields, as the document reads them. -/
def rrd : List UInt8 → List (List UInt8) → Option (List Int)
  | [], _ => some []
  | _ :: _, [] => none
  | c :: cs, p :: ps => match rfd c p with
    | some b => (rrd cs ps).map (b ++ ·)
    | none => none
theorem rrd_rd : ∀ (cs : List UInt8) (ps : List (List UInt8)), (∀ c ∈ cs, isK c = true ∧ c ≠ 119) → rrd cs ps = rd cs ps
  | [], _, _ => rfl
  | _ :: _, [], _ => rfl
  | c :: cs, p :: ps, h => by
    have hc := h c (by simp)
    rw [rrd, rd, rfd_pk hc.1, rrd_rd cs ps (fun d hd => h d (by simp [hd]))]
    have hm : ∀ n, mayF c n = mayK c n := fun n => by unfold mayF; rw [if_neg hc.2]
    cases pk c p with
    | none => rfl
    | some n =>
      simp only [hm]
      cases mayK c n <;> rfl
def g3 (bs : List Int) (k : Nat) : Int := bs.getD k 0
theorem rrd_len : ∀ (cs : List UInt8) (ps : List (List UInt8)) (bs : List Int), (∀ c ∈ cs, isK c = true) → rrd cs ps = some bs → bs.length = tby cs ∧ ∀ x ∈ bs, 0 ≤ x ∧ x < 256
  | [], _, bs, _, h => by simp [rrd] at h; subst h; simp [tby]
  | _ :: _, [], bs, _, h => by simp [rrd] at h
  | c :: cs, p :: ps, bs, hk, h => by
    have hc := hk c (by simp)
    rw [rrd, rfd_pk hc] at h
    cases hp : pk c p with
    | none => rw [hp] at h; cases h
    | some n =>
      rw [hp] at h
      simp only at h
      by_cases hm : mayF c n = true
      · rw [if_pos hm, ] at h
        simp only [Option.map_eq_some_iff] at h
        obtain ⟨b', hb', rfl⟩ := h
        obtain ⟨h1, h2⟩ := rrd_len cs ps b' (fun d hd => hk d (by simp [hd])) hb'
        refine ⟨by rw [List.length_append, h1, byt_len]; simp [tby], fun x hx => ?_⟩
        rw [List.mem_append] at hx
        rcases hx with hx | hx
        · by_cases h119 : c = 119
          · subst h119
            have : byt 119 n = [n] := rfl
            rw [this] at hx
            simp at hx
            subst hx
            have h0 := (nS_some (show nS p = some x from hp)).1
            unfold mayF at hm
            simp at hm
            exact ⟨h0, hm⟩
          · have hm' : mayK c n = true := by unfold mayF at hm; rwa [if_neg h119] at hm
            exact byt_lt hm' x hx
        · exact h2 x hx
      · rw [if_neg hm] at h; cases h
/-- What is read: the fields, and then whether it may be. -/
theorem rd_rrd {k : Nat} (hk : k ≤ 22) {ps : List (List UInt8)} (hl : ps.length = (fl k).length) : rd (fl k) ps = (rrd (fl k) ps).bind fun b => if ck k (g3 b 0) (g3 b 1) (g3 b 2) then some b else none := by
  by_cases h21 : k = 21
  · subst h21
    match ps, hl with
    | [p], _ =>
      show rd [119] [p] = (rrd [119] [p]).bind _
      rw [rrd, rd, rfd_pk (c := 119) rfl]
      have e : pk 119 p = nS p := rfl
      rw [e]
      cases hn : nS p with
      | none => rfl
      | some n =>
        have h0 := (nS_some hn).1
        have hb : byt 119 n = [n] := rfl
        have hm : mayK 119 n = decide (1 ≤ n ∧ n ≤ 20) := by unfold mayK klo khi; simp; rw [Bool.eq_iff_iff]; simp; omega
        have hf : mayF 119 n = decide (n < 256) := by unfold mayF; simp
        simp only [hm, hf, hb, rrd, rd]
        have hck : ck 21 n 0 0 = decide (1 ≤ n ∧ n ≤ 20) := by rw [Bool.eq_iff_iff]; simp [ck, fl, rck]
        by_cases h1 : n < 256
        · simp only [h1, decide_true, if_true, Option.map_some, List.append_nil, Option.bind_some]
          have : ck 21 (g3 [n] 0) (g3 [n] 1) (g3 [n] 2) = decide (1 ≤ n ∧ n ≤ 20) := hck
          rw [this]
        · have h2 : ¬ (1 ≤ n ∧ n ≤ 20) := by omega
          simp [h1, h2]
  · have key : ∀ n : Nat, n ≤ 22 → n ≠ 21 → ((fl n).all fun c => isK c && c != 119) = true := by decide
    have hall : ∀ c ∈ fl k, isK c = true ∧ c ≠ 119 := fun c hc => by
      have := List.all_eq_true.1 (key k hk h21) c hc
      simpa using this
    rw [rrd_rd _ _ hall]
    cases hb : rd (fl k) ps with
    | none => rfl
    | some bs =>
      have hs : spl (jn (wl k) ps) = wl k :: ps ∨ True := Or.inr trivial
      obtain ⟨l, l1, l2, l3⟩ := rd_some _ _ _ hl hb
      have hbl : bs.length ≤ 3 := by rw [← l3]; exact Nat.le_trans (Nat.le_of_eq (byts_len _ _ l1)) (fl_ok k).2
      have hrange : ∀ x ∈ bs, 0 ≤ x ∧ x < 256 := by rw [← l3]; exact byts_lt _ _ l1
      have hg : ∀ j, 0 ≤ bs.getD j 0 ∧ bs.getD j 0 < 256 := fun j => by
        rw [List.getD_eq_getElem?_getD]
        cases e : bs[j]? with
        | none => simp
        | some v => exact hrange v (List.mem_of_getElem? e)
      have hb3 : By3 (bs.getD 0 0) (bs.getD 1 0) (bs.getD 2 0) := ⟨hg 0, hg 1, hg 2⟩
      have hz : ∃ z : List Int, [bs.getD 0 0, bs.getD 1 0, bs.getD 2 0] = bs ++ z ∧ (z.all (· == 0)) = true := by
        match bs, hbl with
        | [], _ => exact ⟨[0, 0, 0], rfl, rfl⟩
        | [_], _ => exact ⟨[0, 0], rfl, rfl⟩
        | [_, _], _ => exact ⟨[0], rfl, rfl⟩
        | [_, _, _], _ => exact ⟨[], rfl, rfl⟩
      obtain ⟨z, hz, hz2⟩ := hz
      have hs : sp (fl k) [bs.getD 0 0, bs.getD 1 0, bs.getD 2 0] = some l := by rw [hz, ← l3]; exact byts_sp _ _ _ l1 hz2
      have hf : flds k (bs.getD 0 0) (bs.getD 1 0) (bs.getD 2 0) = some l := by unfold flds; rw [if_pos hk, hs]
      have hck : ck k (g3 bs 0) (g3 bs 1) (g3 bs 2) = true := by
        show ck k (bs.getD 0 0) (bs.getD 1 0) (bs.getD 2 0) = true
        rw [← flds_ck hb3, hf]; rfl
      simp [hck]
theorem spl_count : ∀ s : List UInt8, (spl s).length ≤ s.length + 1
  | [] => by simp [spl]
  | c :: s => by
    obtain ⟨h', t', e⟩ := spl_ne s
    have ih := spl_count s
    rw [e] at ih
    unfold spl
    rw [e]
    split <;> simp at * <;> omega
theorem prs_no_at {s : List UInt8} {k : Nat} {pt : List (List UInt8)} (hk : k ≤ 22) (hs : spl s = wl k :: pt) (h : pat (wl k :: pt) k = none) : prs s = none :=
  prs_none (fun o ho => by
    rw [hs]
    by_cases e : o = k
    · rw [e, h]
    · exact pat_other hk ho e)
end Go.Proofs.YtcfoljdpffonhaaGreatDoor
