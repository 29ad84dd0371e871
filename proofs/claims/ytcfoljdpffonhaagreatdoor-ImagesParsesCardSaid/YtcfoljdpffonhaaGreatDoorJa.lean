/- Instructions as they are written, and as they are read. No program in sight. -/
import Derived.Test.YtcfoljdpffonhaaGreatDoorIb
import Derived.Lib.AtoiAll
import Derived.Lib.ItoaNum
import Derived.Lib.SplitLaws
set_option linter.unusedVariables false
set_option linter.unusedSimpArgs false
namespace Go.Proofs.YtcfoljdpffonhaaGreatDoor
open Go.RowKit

/-! ### Numerals. -/
theorem dec_digits : ∀ (u : Nat), ∀ c ∈ Lib.decDigits u, 48 ≤ c.toNat ∧ c.toNat ≤ 57 := by
  intro u
  induction u using Nat.strongRecOn with
  | _ u ih =>
    intro c hc
    rw [Lib.decDigits] at hc
    split at hc
    · rw [List.mem_singleton] at hc; subst hc
      have : (UInt8.ofNat (48 + u)).toNat = 48 + u := by simp; omega
      rw [this]; exact ⟨by omega, by omega⟩
    · rw [List.mem_append] at hc
      rcases hc with hc | hc
      · exact ih (u / 10) (by omega) c hc
      · rw [List.mem_singleton] at hc; subst hc
        have : (UInt8.ofNat (48 + u % 10)).toNat = 48 + u % 10 := by simp; omega
        rw [this]; exact ⟨by omega, by omega⟩
theorem dec_ne (u : Nat) : Lib.decDigits u ≠ [] := by
  rw [Lib.decDigits]; split <;> simp
theorem parse_dec (u : Nat) (hu : u < 9223372036854775808) (r : List UInt8) : Lib.parseUint10 0 (Lib.decDigits u ++ r) = Lib.parseUint10 u r := by
  induction u using Nat.strongRecOn generalizing r with
  | _ u ih =>
    rw [Lib.decDigits]
    split
    · rename_i h
      have e : (UInt8.ofNat (48 + u)).toNat = 48 + u := by simp; omega
      simp only [List.cons_append, List.nil_append, Lib.parseUint10, e]
      rw [if_pos (by omega), if_neg (by omega), if_neg (by omega)]
      congr 1; omega
    · rename_i h
      have e : (UInt8.ofNat (48 + u % 10)).toNat = 48 + u % 10 := by simp; omega
      rw [List.append_assoc, ih (u / 10) (by omega) (by omega)]
      simp only [List.cons_append, List.nil_append, Lib.parseUint10, e]
      rw [if_pos (by omega), if_neg (by omega), if_neg (by omega)]
      congr 1; omega
theorem atoi_dec (u : Nat) (hu : u < 9223372036854775808) : Lib.atoiAll (Lib.decDigits u) = .ok (u : Int) := by
  have hp := parse_dec u hu []
  rw [List.append_nil] at hp
  have hd := dec_digits u
  have hn := dec_ne u
  generalize Lib.decDigits u = l at *
  cases l with
  | nil => exact absurd rfl hn
  | cons c r =>
    have hc := hd c (by simp)
    unfold Lib.atoiAll Lib.parseMag
    simp only
    rw [if_neg (show ¬ (c.toNat = 43 ∨ c.toNat = 45) by omega), if_neg (by simp), hp]
    simp only [Lib.parseUint10]
    have h45 : ¬ c.toNat = 45 := by omega
    rw [if_neg (by omega), if_neg (by omega), if_neg h45]
theorem itoa_nat {n : Int} (h : 0 ≤ n) : Lib.itoa n = Lib.decDigits n.toNat := by unfold Lib.itoa; rw [if_neg (by omega)]
theorem atoi_itoa {n : Int} (h : 0 ≤ n) (h1 : n < 9223372036854775808) : Lib.atoiAll (Lib.itoa n) = .ok n := by
  rw [itoa_nat h, atoi_dec _ (by omega)]; congr 1; omega
/-- A numeral, none of whose digits is needless. -/
def nS (s : List UInt8) : Option Int :=
  match Lib.atoiAll s with
  | .ok v => if 0 ≤ v ∧ Lib.itoa v = s then some v else none
  | _ => none
theorem nS_itoa {n : Int} (h : 0 ≤ n) (h1 : n < 9223372036854775808) : nS (Lib.itoa n) = some n := by
  unfold nS; rw [atoi_itoa h h1]; simp [h]
theorem nS_some {s : List UInt8} {n : Int} (h : nS s = some n) : 0 ≤ n ∧ Lib.itoa n = s := by
  unfold nS at h
  split at h
  · split at h
    · rename_i h2; cases h; exact h2
    · cases h
  · cases h
/-- What number tells. -/
def nV (s : List UInt8) : Int :=
  match Lib.atoiAll s with
  | .ok v => v
  | .syntax => 0
  | .range => Lib.atoiSat s
def nB (s : List UInt8) : Bool := (nS s).isSome
theorem nV_of {s : List UInt8} {n : Int} (h : nS s = some n) : nV s = n := by
  unfold nS at h; unfold nV
  split at h
  · split at h
    · cases h; simp_all
    · cases h
  · cases h
theorem nS_vb (s : List UInt8) : nS s = if nB s then some (nV s) else none := by
  unfold nB
  cases h : nS s with
  | none => simp
  | some n => simp [nV_of h]
theorem atoi_lt {s : List UInt8} {v : Int} (h : Lib.atoiAll s = .ok v) : -9223372036854775808 ≤ v ∧ v ≤ 9223372036854775807 := by
  unfold Lib.atoiAll at h
  cases s with
  | nil => cases h
  | cons c r =>
    simp only at h
    split at h
    · cases h
    · cases h
    · split at h
      · cases h
      · split at h
        · cases h
        · cases h
          split <;> omega
theorem nV_lt (s : List UInt8) : -9223372036854775808 ≤ nV s ∧ nV s ≤ 9223372036854775807 := by
  unfold nV
  split
  · exact atoi_lt (by assumption)
  · omega
  · unfold Lib.atoiSat; split <;> omega

/-! ### Fields. -/
/-- A field as it is written. -/
def tx (c : UInt8) (n : Int) : List UInt8 := if c == 114 then 114 :: Lib.itoa n else if c == 115 then Lib.itoa (if n < 128 then n else n - 256) else Lib.itoa n
def pkS (n : Option Int) (neg : Bool) : Option Int := n.bind fun n => if neg then (if 1 ≤ n ∧ n ≤ 128 then some (256 - n) else none) else if n < 128 then some n else none
/-- A field as it is read. -/
def pk (c : UInt8) (s : List UInt8) : Option Int :=
  if c == 114 then (if Lib.hasPrefix s [114] then nS (Lib.trimPrefix s [114]) else none)
  else if c == 115 then pkS (nS (Lib.trimPrefix s [45])) (Lib.hasPrefix s [45])
  else nS s
theorem pre_cons (c : UInt8) (d : List UInt8) : Lib.hasPrefix (c :: d) [c] = true ∧ Lib.trimPrefix (c :: d) [c] = d := by
  have : Lib.hasPrefix (c :: d) [c] = true := by simp [Lib.hasPrefix]
  exact ⟨this, by simp [Lib.trimPrefix, this]⟩
theorem pre_some {c : UInt8} {s : List UInt8} (h : Lib.hasPrefix s [c] = true) : s = c :: Lib.trimPrefix s [c] := by
  cases s with
  | nil => simp [Lib.hasPrefix] at h
  | cons a d =>
    obtain rfl : c = a := by simp [Lib.hasPrefix] at h; exact h
    rw [(pre_cons c d).2]
theorem pre_none {c : UInt8} {s : List UInt8} (h : Lib.hasPrefix s [c] = false) : Lib.trimPrefix s [c] = s := by simp [Lib.trimPrefix, h]
theorem dec_pre (u : Nat) : Lib.hasPrefix (Lib.decDigits u) [45] = false := by
  rw [Bool.eq_false_iff]
  intro h
  have := pre_some h
  have hd := dec_digits u 45 (by rw [this]; simp)
  simp at hd
theorem tx_pk {c : UInt8} {n : Int} {s : List UInt8} (hm : mayK c n = true) (h : pk c s = some n) : tx c n = s := by
  unfold mayK at hm
  simp only [Bool.and_eq_true, decide_eq_true_eq] at hm
  unfold pk at h
  unfold tx
  split at h
  · rename_i hc
    rw [if_pos hc]
    split at h
    · rename_i hp
      rw [(nS_some h).2, ← pre_some hp]
    · cases h
  · rename_i hc
    rw [if_neg hc]
    split at h
    · rename_i hs
      rw [if_pos hs]
      unfold pkS at h
      rw [Option.bind_eq_some_iff] at h
      obtain ⟨k, hk, h⟩ := h
      have hk' := nS_some hk
      split at h
      · rename_i hp
        split at h
        · rename_i hr
          cases h
          rw [if_neg (by omega), pre_some hp, ← hk'.2]
          unfold Lib.itoa
          rw [if_pos (by omega), if_neg (by omega)]
          congr 2; omega
        · cases h
      · rename_i hp
        split at h
        · rename_i hr
          cases h
          rw [if_pos hr, hk'.2, pre_none (by simpa using hp)]
        · cases h
    · rename_i hs
      rw [if_neg hs]; exact (nS_some h).2
theorem pk_tx {c : UInt8} {n : Int} (hm : mayK c n = true) : pk c (tx c n) = some n := by
  have hkh : 0 ≤ n ∧ n < 65536 ∧ (c == 115 → n < 256) := by
    unfold mayK klo khi at hm
    simp only [Bool.and_eq_true, decide_eq_true_eq] at hm
    refine ⟨?_, ?_, ?_⟩
    · have := hm.1; split at this <;> omega
    · have := hm.2; (repeat split at this) <;> omega
    · intro hc
      have hc' : c = 115 := by simpa using hc
      subst hc'
      have := hm.2
      simp at this; exact this
  unfold pk tx
  by_cases h1 : c == 114
  · rw [if_pos h1, if_pos h1, if_pos (pre_cons _ _).1, (pre_cons _ _).2]
    exact nS_itoa hkh.1 (by omega)
  · rw [if_neg h1, if_neg h1]
    by_cases h2 : c == 115
    · have := hkh.2.2 h2
      rw [if_pos h2, if_pos h2]
      by_cases h3 : n < 128
      · rw [if_pos h3, itoa_nat hkh.1]
        have hp := dec_pre n.toNat
        rw [pre_none hp, hp, ← itoa_nat hkh.1, nS_itoa hkh.1 (by omega)]
        simp [pkS, h3]
      · rw [if_neg h3]
        have e : Lib.itoa (n - 256) = 45 :: Lib.itoa (256 - n) := by
          unfold Lib.itoa
          rw [if_pos (by omega), if_neg (by omega)]
          congr 2; omega
        rw [e, (pre_cons _ _).1, (pre_cons _ _).2, nS_itoa (by omega) (by omega)]
        simp [pkS]
        omega
    · rw [if_neg h2, if_neg h2]
      exact nS_itoa hkh.1 (by omega)
theorem itoa_sp (n : Int) : (32 : UInt8) ∉ Lib.itoa n := by
  unfold Lib.itoa
  have h := fun u (h : (32 : UInt8) ∈ Lib.decDigits u) => dec_digits u 32 h
  split
  · intro hc
    simp at hc
    have := h _ hc; simp at this
  · intro hc
    have := h _ hc; simp at this
theorem tx_sp (c : UInt8) (n : Int) : (32 : UInt8) ∉ tx c n := by
  unfold tx
  split
  · simp; exact itoa_sp n
  · split <;> exact itoa_sp _

/-! ### A text's parts. -/
def spl : List UInt8 → List (List UInt8)
  | [] => [[]]
  | c :: s => if c == 32 then [] :: spl s else match spl s with
    | h :: t => (c :: h) :: t
    | [] => [[c]]
def jn (w : List UInt8) (ps : List (List UInt8)) : List UInt8 := w ++ ps.flatMap (32 :: ·)
theorem spl_ne : ∀ s, ∃ h t, spl s = h :: t
  | [] => ⟨_, _, rfl⟩
  | c :: s => by
    obtain ⟨h, t, e⟩ := spl_ne s
    unfold spl
    split
    · exact ⟨_, _, rfl⟩
    · rw [e]; exact ⟨_, _, rfl⟩
theorem jn_spl : ∀ s h t, spl s = h :: t → jn h t = s
  | [], h, t, e => by unfold spl at e; cases e; rfl
  | c :: s, h, t, e => by
    obtain ⟨h', t', e'⟩ := spl_ne s
    have ih := jn_spl s h' t' e'
    unfold spl at e
    split at e
    · rename_i hc
      have hc' : c = 32 := by simpa using hc
      subst hc'
      cases e
      rw [e', ← ih]; simp [jn]
    · rw [e'] at e
      cases e
      rw [← ih]; simp [jn]
theorem spl_word : ∀ (w r : List UInt8), (32 : UInt8) ∉ w → spl (w ++ 32 :: r) = w :: spl r
  | [], r, _ => by simp [spl]
  | c :: w, r, h => by
    have h1 : ¬ (c == 32) = true := by intro hc; apply h; simp at hc; simp [hc]
    have ih := spl_word w r (fun hc => h (by simp [hc]))
    rw [List.cons_append, spl, if_neg h1, ih]
theorem spl_one : ∀ (w : List UInt8), (32 : UInt8) ∉ w → spl w = [w]
  | [], _ => rfl
  | c :: w, h => by
    have h1 : ¬ (c == 32) = true := by intro hc; apply h; simp at hc; simp [hc]
    rw [spl, if_neg h1, spl_one w (fun hc => h (by simp [hc]))]
theorem spl_jn : ∀ (ps : List (List UInt8)) (w : List UInt8), (32 : UInt8) ∉ w → (∀ p ∈ ps, (32 : UInt8) ∉ p) → spl (jn w ps) = w :: ps
  | [], w, h, _ => by simp [jn, spl_one w h]
  | p :: ps, w, h, hp => by
    have ih := spl_jn ps p (hp p (by simp)) (fun q hq => hp q (by simp [hq]))
    have e : jn w (p :: ps) = w ++ 32 :: jn p ps := by simp [jn]
    rw [e, spl_word w _ h, ih]
theorem spl_parts : ∀ (s : List UInt8), ∀ p ∈ spl s, (32 : UInt8) ∉ p
  | [], p, h => by simp [spl] at h; subst h; simp
  | c :: s, p, h => by
    obtain ⟨h', t', e'⟩ := spl_ne s
    have ih := spl_parts s
    unfold spl at h
    split at h
    · simp at h
      rcases h with rfl | h
      · simp
      · exact ih p h
    · rename_i hc
      rw [e'] at h
      simp at h
      rcases h with rfl | h
      · have := ih h' (by simp [e'])
        simp
        exact ⟨fun h => hc (by simp [← h]), this⟩
      · exact ih p (by simp [e', h])
theorem index_one (s : List UInt8) : (Lib.index s [32] = -1 ∧ (32 : UInt8) ∉ s) ∨ ∃ w r, s = w ++ 32 :: r ∧ (32 : UInt8) ∉ w ∧ Lib.index s [32] = w.length := by
  induction s with
  | nil => left; simp [Lib.index]
  | cons c s ih =>
    unfold Lib.index
    by_cases hc : c = 32
    · right; subst hc; exact ⟨[], s, rfl, by simp, by simp⟩
    · have hp : ([32] : List UInt8).isPrefixOf (c :: s) = false := by simp [List.isPrefixOf]; exact fun h => absurd h.symm hc
      rw [if_neg (by rw [hp]; simp)]
      rcases ih with ⟨h1, h2⟩ | ⟨w, r, h1, h2, h3⟩
      · left
        rw [h1]
        refine ⟨rfl, ?_⟩
        simp
        exact ⟨fun h => hc h.symm, h2⟩
      · right
        refine ⟨c :: w, r, by simp [h1], by simp; exact ⟨fun h => hc h.symm, h2⟩, ?_⟩
        rw [h3, if_neg (by simp)]
        simp
theorem split_spl (s : List UInt8) : Lib.split s [32] = spl s := by
  generalize hk : Lib.count s [32] = k
  unfold Lib.split
  rw [hk]
  induction k generalizing s with
  | zero =>
    rcases index_one s with ⟨h1, h2⟩ | ⟨w, r, h1, h2, h3⟩
    · rw [spl_one s h2]; rfl
    · rw [Lib.count_hit (by simp) h3] at hk; omega
  | succ k ih =>
    rcases index_one s with ⟨h1, h2⟩ | ⟨w, r, h1, h2, h3⟩
    · rw [Lib.count_miss h1] at hk; omega
    · have hd : s.drop (w.length + 1) = r := by subst h1; simp
      have hc := Lib.count_hit (sub := [32]) (by simp) h3
      rw [List.length_singleton, hd] at hc
      rw [Lib.splitK, if_neg (by rw [h3]; simp), h3]
      simp only [Int.toNat_natCast, Nat.add_zero, List.length_singleton]
      rw [hd, ih r (by omega)]
      have ht : s.take w.length = w := by subst h1; simp
      rw [ht, h1, spl_word w r h2]

/-! ### Instructions. -/
def txs : List UInt8 → List Int → List (List UInt8)
  | c :: cs, n :: ns => tx c n :: txs cs ns
  | _, _ => []
def txt (op : Nat) (l : List Int) : List UInt8 := jn (wl op) (txs (fl op) l)
def byt (c : UInt8) (n : Int) : List Int := if kby c = 2 then [n / 256, n % 256] else [n]
/-- Fields, as they are read. -/
def rd : List UInt8 → List (List UInt8) → Option (List Int)
  | [], _ => some []
  | _ :: _, [] => none
  | c :: cs, p :: ps => match pk c p with
    | some n => if mayK c n then (rd cs ps).map (byt c n ++ ·) else none
    | none => none
def pat (ps : List (List UInt8)) (o : Nat) : Option (List Int) := if wl o = ps.headD [] ∧ ps.length = 1 + (fl o).length then rd (fl o) ps.tail else none
def prs (s : List UInt8) : Option (Nat × List Int) := (List.range 23).findSome? fun o => (pat (spl s) o).map fun b => (o, b)
theorem wl_sp (o : Nat) : (32 : UInt8) ∉ wl o := by
  have key : ∀ n : Nat, n ≤ 22 → (32 : UInt8) ∉ wl n := by decide
  by_cases h : o ≤ 22
  · exact key o h
  · have : wl o = [] := by
      match o, h with
      | n + 23, _ => rfl
    simp [this]
theorem wl_inj {a b : Nat} (ha : a ≤ 22) (hb : b ≤ 22) (h : wl a = wl b) : a = b := by
  have key : ∀ n : Nat, n ≤ 22 → ∀ m : Nat, m ≤ 22 → wl n = wl m → n = m := by decide
  exact key a ha b hb h
theorem txs_sp : ∀ (cs : List UInt8) (l : List Int), ∀ p ∈ txs cs l, (32 : UInt8) ∉ p
  | c :: cs, n :: ns, p, h => by
    simp [txs] at h
    rcases h with rfl | h
    · exact tx_sp c n
    · exact txs_sp cs ns p h
  | [], _, p, h => by simp [txs] at h
  | _ :: _, [], p, h => by simp [txs] at h
theorem txs_len : ∀ (cs : List UInt8) (l : List Int), l.length = cs.length → (txs cs l).length = cs.length
  | c :: cs, n :: ns, h => by simp [txs]; exact txs_len cs ns (by simpa using h)
  | [], _, h => by simp [txs]
  | _ :: _, [], h => by simp at h
theorem spl_txt (op : Nat) (l : List Int) : spl (txt op l) = wl op :: txs (fl op) l := spl_jn _ _ (wl_sp op) (txs_sp _ _)
end Go.Proofs.YtcfoljdpffonhaaGreatDoor
