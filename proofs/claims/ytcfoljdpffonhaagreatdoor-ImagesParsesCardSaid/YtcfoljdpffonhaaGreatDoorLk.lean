/- Images: lines: plain; parted: walked. -/
import Derived.Test.YtcfoljdpffonhaaGreatDoorLj
set_option linter.unusedVariables false
set_option linter.unusedSimpArgs false
namespace Go.Proofs.YtcfoljdpffonhaaGreatDoor
open Go.RowKit Go.Joins Go.Shelf
attribute [local go_sem] Oper.semAt_some

def lns : List UInt8 → List (List UInt8)
  | [] => [[]]
  | c :: s => if c == 10 then [] :: lns s else match lns s with
    | h :: t => (c :: h) :: t
    | [] => [[c]]
theorem lns_ne : ∀ s, ∃ h t, lns s = h :: t
  | [] => ⟨_, _, rfl⟩
  | c :: s => by
    obtain ⟨h, t, e⟩ := lns_ne s
    unfold lns
    split
    · exact ⟨_, _, rfl⟩
    · rw [e]; exact ⟨_, _, rfl⟩
theorem lns_word : ∀ (w r : List UInt8), (10 : UInt8) ∉ w → lns (w ++ 10 :: r) = w :: lns r
  | [], r, _ => by simp [lns]
  | c :: w, r, h => by
    have h1 : ¬ (c == 10) = true := by intro hc; apply h; simp at hc; simp [hc]
    have ih := lns_word w r (fun hc => h (by simp [hc]))
    rw [List.cons_append, lns, if_neg h1, ih]
theorem lns_one : ∀ (w : List UInt8), (10 : UInt8) ∉ w → lns w = [w]
  | [], _ => rfl
  | c :: w, h => by
    have h1 : ¬ (c == 10) = true := by intro hc; apply h; simp at hc; simp [hc]
    rw [lns, if_neg h1, lns_one w (fun hc => h (by simp [hc]))]
theorem lns_parts : ∀ (s : List UInt8), ∀ p ∈ lns s, (10 : UInt8) ∉ p
  | [], p, h => by simp [lns] at h; subst h; simp
  | c :: s, p, h => by
    obtain ⟨h', t', e'⟩ := lns_ne s
    have ih := lns_parts s
    unfold lns at h
    split at h
    · simp at h
      rcases h with rfl | h
      · simp
      · exact ih p h
    · rename_i hc
      rw [e'] at h
      simp at h
      rcases h with rfl | h
      · have := ih h' (by simp [e'])
        simp
        exact ⟨fun h => hc (by simp [← h]), this⟩
      · exact ih p (by simp [e', h])
theorem index_ten (s : List UInt8) : (Lib.index s [10] = -1 ∧ (10 : UInt8) ∉ s) ∨ ∃ w r, s = w ++ 10 :: r ∧ (10 : UInt8) ∉ w ∧ Lib.index s [10] = w.length := by
  induction s with
  | nil => left; simp [Lib.index]
  | cons c s ih =>
    unfold Lib.index
    by_cases hc : c = 10
    · right; subst hc; exact ⟨[], s, rfl, by simp, by simp⟩
    · have hp : ([10] : List UInt8).isPrefixOf (c :: s) = false := by simp [List.isPrefixOf]; exact fun h => absurd h.symm hc
      rw [if_neg (by rw [hp]; simp)]
      rcases ih with ⟨h1, h2⟩ | ⟨w, r, h1, h2, h3⟩
      · left
        rw [h1]
        refine ⟨rfl, ?_⟩
        simp
        exact ⟨fun h => hc h.symm, h2⟩
      · right
        refine ⟨c :: w, r, by simp [h1], by simp; exact ⟨fun h => hc h.symm, h2⟩, ?_⟩
        rw [h3, if_neg (by simp)]
        simp
theorem split_lns (s : List UInt8) : Lib.split s [10] = lns s := by
  generalize hk : Lib.count s [10] = k
  unfold Lib.split
  rw [hk]
  induction k generalizing s with
  | zero =>
    rcases index_ten s with ⟨h1, h2⟩ | ⟨w, r, h1, h2, h3⟩
    · rw [lns_one s h2]; rfl
    · rw [Lib.count_hit (by simp) h3] at hk; omega
  | succ k ih =>
    rcases index_ten s with ⟨h1, h2⟩ | ⟨w, r, h1, h2, h3⟩
    · rw [Lib.count_miss h1] at hk; omega
    · have hd : s.drop (w.length + 1) = r := by subst h1; simp
      have hc := Lib.count_hit (sub := [10]) (by simp) h3
      rw [List.length_singleton, hd] at hc
      rw [Lib.splitK, if_neg (by rw [h3]; simp), h3]
      simp only [Int.toNat_natCast, Nat.add_zero, List.length_singleton]
      rw [hd, ih r (by omega)]
      have ht : s.take w.length = w := by subst h1; simp
      rw [ht, h1, lns_word w r h2]

theorem lns_len : ∀ (s : List UInt8), ∀ p ∈ lns s, p.length ≤ s.length
  | [], p, h => by simp [lns] at h; subst h; simp
  | c :: s, p, h => by
    obtain ⟨h', t', e'⟩ := lns_ne s
    have ih := lns_len s
    unfold lns at h
    split at h
    · simp at h
      rcases h with rfl | h
      · simp
      · have := ih p h; simp; omega
    · rw [e'] at h
      simp at h
      rcases h with rfl | h
      · have := ih h' (by simp [e']); simp; omega
      · have := ih p (by simp [e', h]); simp; omega
theorem splitB_lns (s : List UInt8) : (Lib.splitB ⟨#[10]⟩ 0 (Lib.countB ⟨s.toArray⟩ ⟨#[10]⟩) ⟨s.toArray⟩).map Value.string = (lns s).map strv := by
  have h := Lib.splitB_data ⟨#[10]⟩ 0 (Lib.countB ⟨s.toArray⟩ ⟨#[10]⟩) ⟨s.toArray⟩
  have h2 : Lib.splitK [10] 0 (Lib.countB ⟨s.toArray⟩ ⟨#[10]⟩) s = lns s := split_lns s
  have h3 : (Lib.splitB ⟨#[10]⟩ 0 (Lib.countB ⟨s.toArray⟩ ⟨#[10]⟩) ⟨s.toArray⟩).map (·.data.toList) = lns s := h.trans h2
  rw [← h3, List.map_map]
  refine List.map_congr_left (fun x _ => ?_)
  show Value.string x = strv x.data.toList
  rw [strv, ← ba_ext x]
theorem lines_c {w0 w : World} {r : List Thing} (L : Lf w0) (s : List UInt8) (hs : s.length < 4294967281) (H : Hp w0 w r) :
    Calls Tryz.prog 66 #[strv s, strv [10]] w fun e w' => ∃ B, e = .returned (.slice (some ⟨B, 0, none⟩) (lns s).length (lns s).length) ∧ Hp w0 w' (Blk B (.cells ((lns s).map strv).toArray 9 (0, 0)) :: r) := by
  obtain ⟨m, hm⟩ := (L.hp H).max
  refine (Tryz.strings_Split ⟨s.toArray⟩ ⟨#[10]⟩ m w hs hm (by decide)).mono ?_
  rintro e w' ⟨rfl, rfl⟩
  have hl : Lib.countB ⟨s.toArray⟩ ⟨#[10]⟩ + 1 = (lns s).length := by
    have h1 := Lib.splitB_all ⟨#[10]⟩ (by decide) 0 _ ⟨s.toArray⟩ rfl
    have h2 := congrArg List.length (splitB_lns s)
    simp only [List.length_map] at h2
    omega
  rw [hl, splitB_lns]
  exact ⟨w.heap.size, rfl, blk_new H _⟩

/-! ### Lines. -/
theorem lns_sum : ∀ s : List UInt8, ((lns s).map List.length).sum ≤ s.length ∧ (lns s).length ≤ s.length + 1
  | [] => by simp [lns]
  | c :: s => by
    obtain ⟨h, t, e⟩ := lns_ne s
    have ih := lns_sum s
    unfold lns
    split
    · simp; omega
    · rw [e] at ih ⊢
      simp at ih ⊢; omega
def skip (l : List UInt8) : Bool := l.headD 35 == 35
/-- The reader behind all lines, or the first one that is none. -/
def parseL : Rs → List (List UInt8) → Nat → Rs ⊕ Nat
  | t, [], _ => .inl t
  | t, l :: ls, i => if skip l then parseL t ls (i + 1) else if (lineP t l).2 then parseL (lineP t l).1 ls (i + 1) else .inr i
def rs0 : Rs := ⟨0, [], [], false⟩
theorem lineP_len (t : Rs) (l : List UInt8) : (lineP t l).1.d.length ≤ t.d.length + l.length ∧ (lineP t l).1.c.length ≤ t.c.length + 1 := by
  have h := cut_len l
  have h2 := hbs_le (Lib.cut l [10]).2.1
  have h3 := hbs_le (Lib.cut l [32]).2.1
  unfold lineP
  split
  · split <;> simp
  · split
    · split
      · simp only
        split
        · rw [List.length_append]; exact ⟨by omega, by omega⟩
        · exact ⟨by omega, by omega⟩
      · simp
    · simp
end Go.Proofs.YtcfoljdpffonhaaGreatDoor
