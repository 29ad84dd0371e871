/- Instructions: what is written is read, and nothing else is. No program in sight. -/
import Derived.Test.YtcfoljdpffonhaaGreatDoorJe
set_option linter.unusedVariables false
set_option linter.unusedSimpArgs false
namespace Go.Proofs.YtcfoljdpffonhaaGreatDoor
open Go.RowKit

/-- The bytes of some fields. -/
def byts : List UInt8 → List Int → List Int
  | c :: cs, n :: ns => byt c n ++ byts cs ns
  | _, _ => []
theorem rd_txs : ∀ (cs : List UInt8) (l : List Int), mays cs l → rd cs (txs cs l) = some (byts cs l)
  | [], [], _ => rfl
  | c :: cs, n :: ns, h => by
    simp only [txs, rd, byts]
    rw [pk_tx h.1]
    simp only [h.1, if_true]
    rw [rd_txs cs ns h.2]; rfl
  | [], _ :: _, h => h.elim
  | _ :: _, [], h => h.elim
theorem rd_some : ∀ (cs : List UInt8) (ps : List (List UInt8)) (bs : List Int), ps.length = cs.length → rd cs ps = some bs → ∃ l, mays cs l ∧ txs cs l = ps ∧ byts cs l = bs
  | [], [], bs, _, h => by simp only [rd, Option.some.injEq] at h; subst h; exact ⟨[], trivial, rfl, rfl⟩
  | c :: cs, p :: ps, bs, hl, h => by
    unfold rd at h
    split at h
    · rename_i n hn
      split at h
      · rename_i hm
        rw [Option.map_eq_some_iff] at h
        obtain ⟨b', hb', rfl⟩ := h
        obtain ⟨l, h1, h2, h3⟩ := rd_some cs ps b' (by simpa using hl) hb'
        exact ⟨n :: l, ⟨hm, h1⟩, by simp only [txs]; rw [tx_pk hm hn, h2], by simp only [byts]; rw [h3]⟩
      · cases h
    · cases h
  | [], _ :: _, _, hl, _ => by simp at hl
  | _ :: _, [], _, hl, _ => by simp at hl
theorem byt_len (c : UInt8) (n : Int) : (byt c n).length = kby c := by
  unfold byt
  split
  · rename_i h; rw [h]; rfl
  · rename_i h
    have : kby c = 1 := by unfold kby at h ⊢; split at h <;> simp_all
    rw [this]; rfl
theorem byt_num {c : UInt8} {n : Int} (hm : mayK c n = true) : num (byt c n) = n := by
  have := may_lt hm
  unfold byt
  split
  · simp only [num]; omega
  · rfl
theorem byts_sp : ∀ (cs : List UInt8) (l z : List Int), mays cs l → (z.all (· == 0)) = true → sp cs (byts cs l ++ z) = some l
  | [], [], z, _, hz => by
    have : sp [] z = some [] := by unfold sp; rw [if_pos hz]
    exact this
  | c :: cs, n :: ns, z, h, hz => by
    have hl := byt_len c n
    simp only [byts, sp, List.append_assoc]
    rw [List.take_left' hl, List.drop_left' hl, byt_num h.1, if_pos h.1, byts_sp cs ns z h.2 hz]; rfl
  | [], _ :: _, _, h, _ => h.elim
  | _ :: _, [], _, h, _ => h.elim
theorem byt_of {c : UInt8} {r : List Int} (hl : r.length = kby c) (hr : ∀ x ∈ r, 0 ≤ x ∧ x < 256) : byt c (num r) = r := by
  unfold byt
  split
  · rename_i h
    rw [h] at hl
    match r, hl with
    | [x, y], _ =>
      have h1 := hr x (by simp)
      have h2 := hr y (by simp)
      simp only [num]
      have e1 : (x * 256 + y) / 256 = x := by omega
      have e2 : (x * 256 + y) % 256 = y := by omega
      rw [e1, e2]
  · rename_i h
    have : kby c = 1 := by unfold kby at h ⊢; split at h <;> simp_all
    rw [this] at hl
    match r, hl with
    | [x], _ => rfl
theorem sp_byts : ∀ (cs : List UInt8) (rest l : List Int), sp cs rest = some l → tby cs ≤ rest.length → (∀ x ∈ rest, 0 ≤ x ∧ x < 256) → ∃ z, rest = byts cs l ++ z ∧ (z.all (· == 0)) = true
  | [], rest, l, h, _, _ => by
    unfold sp at h
    split at h
    · rename_i hz; cases h; exact ⟨rest, rfl, hz⟩
    · cases h
  | c :: cs, rest, l, h, ht, hr => by
    unfold sp at h
    split at h
    · rw [Option.map_eq_some_iff] at h
      obtain ⟨l', hl, rfl⟩ := h
      have ht' : kby c + tby cs ≤ rest.length := by simpa [tby] using ht
      obtain ⟨z, hz, hz2⟩ := sp_byts cs _ l' hl (by rw [List.length_drop]; omega) (fun x hx => hr x (List.mem_of_mem_drop hx))
      refine ⟨z, ?_, hz2⟩
      simp only [byts]
      rw [byt_of (by rw [List.length_take]; omega) (fun x hx => hr x (List.mem_of_mem_take hx)), List.append_assoc, ← hz, List.take_append_drop]
    · cases h
theorem zeros_getD (bs z : List Int) (hz : (z.all (· == 0)) = true) (k : Nat) : bs.getD k 0 = (bs ++ z).getD k 0 := by
  simp only [List.getD_eq_getElem?_getD]
  by_cases h : k < bs.length
  · rw [List.getElem?_append_left h]
  · rw [List.getElem?_append_right (by omega), List.getElem?_eq_none (by omega)]
    cases e : z[k - bs.length]? with
    | none => rfl
    | some v =>
      have := List.all_eq_true.1 hz v (List.mem_of_getElem? e)
      simp at this; subst this; rfl
theorem flds_some {op : Nat} {a b c : Int} {l : List Int} (h : flds op a b c = some l) : op ≤ 22 ∧ sp (fl op) [a, b, c] = some l := by
  unfold flds at h
  split at h
  · rename_i h2; exact ⟨h2, h⟩
  · cases h
theorem ck_flds {op : Nat} {a b c : Int} (hb : By3 a b c) (hk : ck op a b c = true) : ∃ l, flds op a b c = some l ∧ txo op a b c = txt op l := by
  have := flds_ck (op := op) hb
  rw [hk] at this
  obtain ⟨l, hl⟩ := Option.isSome_iff_exists.1 this
  exact ⟨l, hl, by unfold txo; rw [hl]⟩
theorem by3_all {a b c : Int} (hb : By3 a b c) : ∀ x ∈ [a, b, c], 0 ≤ x ∧ x < 256 := by
  intro x hx
  simp at hx
  rcases hx with rfl | rfl | rfl
  · exact hb.a
  · exact hb.b
  · exact hb.c
/-- What is written is read. -/
theorem prs_of {op : Nat} {a b c : Int} (hb : By3 a b c) (hk : ck op a b c = true) : ∃ bs, prs (txo op a b c) = some (op, bs) ∧ rv op (some bs) = inS op a b c := by
  obtain ⟨l, hl, ht⟩ := ck_flds hb hk
  obtain ⟨h22, hs⟩ := flds_some hl
  have hm := sp_mays _ _ _ hs
  obtain ⟨z, hz, hz2⟩ := sp_byts _ _ _ hs (by have := (fl_ok op).2; simpa using this) (by3_all hb)
  refine ⟨byts (fl op) l, ?_, ?_⟩
  · rw [ht]
    have hpat : ∀ o, pat (spl (txt op l)) o = if wl o = wl op ∧ (txs (fl op) l).length = (fl o).length then rd (fl o) (txs (fl op) l) else none := fun o => by
      unfold pat
      rw [spl_txt]
      have : ((wl op :: txs (fl op) l).length = 1 + (fl o).length) ↔ (txs (fl op) l).length = (fl o).length := by simp; omega
      simp only [List.headD_cons, List.tail_cons, this]
    refine prs_at (by omega) (fun o ho => ?_) ?_
    · rw [hpat, if_neg]
      rintro ⟨h1, _⟩
      have := wl_inj (by omega) h22 h1
      omega
    · rw [hpat, if_pos ⟨rfl, txs_len _ _ (mays_len _ _ hm)⟩]
      exact rd_txs _ _ hm
  · have g := fun k => zeros_getD (byts (fl op) l) z hz2 k
    unfold rv
    simp only [g, ← hz]
    rfl
theorem byts_len : ∀ (cs : List UInt8) (l : List Int), mays cs l → (byts cs l).length = tby cs
  | [], [], _ => rfl
  | c :: cs, n :: ns, h => by
    simp only [byts, List.length_append, byt_len, byts_len cs ns h.2]
    simp [tby]
  | [], _ :: _, h => h.elim
  | _ :: _, [], h => h.elim
theorem byt_lt {c : UInt8} {n : Int} (hm : mayK c n = true) : ∀ x ∈ byt c n, 0 ≤ x ∧ x < 256 := by
  have hb := may_lt hm
  unfold byt
  split
  · intro x hx
    simp at hx
    rcases hx with rfl | rfl <;> omega
  · rename_i h
    have h110 : ¬ (c == 110) = true := by intro h1; apply h; unfold kby; rw [if_pos h1]
    unfold mayK khi at hm
    simp only [Bool.and_eq_true, decide_eq_true_eq] at hm
    have h2 := hm.2
    rw [if_neg h110] at h2
    intro x hx
    simp at hx; subst hx
    refine ⟨hb.1, ?_⟩
    split at h2
    · omega
    · split at h2 <;> omega
theorem byts_lt : ∀ (cs : List UInt8) (l : List Int), mays cs l → ∀ x ∈ byts cs l, 0 ≤ x ∧ x < 256
  | [], [], _, x, hx => by simp [byts] at hx
  | c :: cs, n :: ns, h, x, hx => by
    simp only [byts, List.mem_append] at hx
    rcases hx with hx | hx
    · exact byt_lt h.1 x hx
    · exact byts_lt cs ns h.2 x hx
  | [], _ :: _, h, _, _ => h.elim
  | _ :: _, [], h, _, _ => h.elim
/-- What is read is written so. -/
theorem of_prs {s : List UInt8} {op : Nat} {bs : List Int} (h : prs s = some (op, bs)) : ∃ a b c : Int, By3 a b c ∧ rv op (some bs) = inS op a b c ∧ ck op a b c = true ∧ txo op a b c = s ∧ op ≤ 22 := by
  unfold prs at h
  obtain ⟨o, ho, hm⟩ := List.exists_of_findSome?_eq_some h
  rw [Option.map_eq_some_iff] at hm
  obtain ⟨b', hb', e⟩ := hm
  cases e
  have h22 : op ≤ 22 := by simp at ho; omega
  obtain ⟨p0, pt, hsp⟩ := spl_ne s
  rw [hsp] at hb'
  unfold pat at hb'
  split at hb'
  · rename_i hc
    obtain ⟨h1, h2⟩ := hc
    simp only [List.headD_cons, List.tail_cons, List.length_cons] at h1 h2 hb'
    obtain ⟨l, l1, l2, l3⟩ := rd_some _ _ _ (by omega) hb'
    have hbl : bs.length ≤ 3 := by rw [← l3]; exact Nat.le_trans (Nat.le_of_eq (byts_len _ _ l1)) (fl_ok op).2
    have hrange : ∀ x ∈ bs, 0 ≤ x ∧ x < 256 := by rw [← l3]; exact byts_lt _ _ l1
    have hg : ∀ k, 0 ≤ bs.getD k 0 ∧ bs.getD k 0 < 256 := fun k => by
      rw [List.getD_eq_getElem?_getD]
      cases e : bs[k]? with
      | none => simp
      | some v => exact hrange v (List.mem_of_getElem? e)
    have hb : By3 (bs.getD 0 0) (bs.getD 1 0) (bs.getD 2 0) := ⟨hg 0, hg 1, hg 2⟩
    have hz : ∃ z : List Int, [bs.getD 0 0, bs.getD 1 0, bs.getD 2 0] = bs ++ z ∧ (z.all (· == 0)) = true := by
      match bs, hbl with
      | [], _ => exact ⟨[0, 0, 0], rfl, rfl⟩
      | [_], _ => exact ⟨[0, 0], rfl, rfl⟩
      | [_, _], _ => exact ⟨[0], rfl, rfl⟩
      | [_, _, _], _ => exact ⟨[], rfl, rfl⟩
    obtain ⟨z, hz, hz2⟩ := hz
    have hs : sp (fl op) [bs.getD 0 0, bs.getD 1 0, bs.getD 2 0] = some l := by rw [hz, ← l3]; exact byts_sp _ _ _ l1 hz2
    have hf : flds op (bs.getD 0 0) (bs.getD 1 0) (bs.getD 2 0) = some l := by unfold flds; rw [if_pos h22, hs]
    refine ⟨_, _, _, hb, rfl, ?_, ?_, h22⟩
    · rw [← flds_ck hb, hf]; rfl
    · unfold txo
      rw [hf]
      show txt op l = s
      unfold txt
      rw [h1, l2]
      exact jn_spl s p0 pt hsp
  · cases hb'
theorem txo_inj {op op' : Nat} {a b c a' b' c' : Int} (hb : By3 a b c) (hb' : By3 a' b' c') (hk : ck op a b c = true) (hk' : ck op' a' b' c' = true) (h : txo op a b c = txo op' a' b' c') : op = op' ∧ a = a' ∧ b = b' ∧ c = c' := by
  obtain ⟨bs, h1, h2⟩ := prs_of hb hk
  obtain ⟨bs', h1', h2'⟩ := prs_of hb' hk'
  rw [h, h1'] at h1
  cases h1
  rw [h2'] at h2
  simpa using h2.symm
end Go.Proofs.YtcfoljdpffonhaaGreatDoor
