/- The plain law of lists of sleepers: who wakes when, in place of ticks behind one another. No program in sight. -/
import Derived.Test.YtllfkgdmneabiaaDoorSep
set_option linter.unusedVariables false
set_option linter.unusedSimpArgs false
namespace Go.Proofs.YtllfkgdmneabiaaDoor
open Go.RowKit Go.Shelf

/-- Who sleeps, and how many ticks are left. -/
def ab : Int → List (Int × Int) → List (Int × Int)
  | _, [] => []
  | c, x :: r => (x.1, c + x.2) :: ab (c + x.2) r
/-- Somebody goes behind all that wake by then. -/
def ins : List (Int × Int) → Int → Int → List (Int × Int)
  | [], who, t => [(who, t)]
  | y :: r, who, t => if y.2 > t then (who, t) :: y :: r else y :: ins r who t

theorem ab_fst : ∀ (xs : List (Int × Int)) (c : Int), (ab c xs).map Prod.fst = xs.map Prod.fst
  | [], _ => rfl
  | x :: r, c => by simp [ab, ab_fst r]
theorem ab_len (xs : List (Int × Int)) (c : Int) : (ab c xs).length = xs.length := by simpa using congrArg List.length (ab_fst xs c)

theorem put_gt (x : Int × Int) (r : List (Int × Int)) (who t : Int) (h : x.2 > t) : put (x :: r) who t = (who, t) :: (x.1, x.2 - t) :: r := by
  simp [put, plc, h, tot, dec]
theorem put_le (x : Int × Int) (r : List (Int × Int)) (who t : Int) (h : ¬ x.2 > t) : put (x :: r) who t = x :: put r who (t - x.2) := by
  have e : plc (x :: r) t = plc r (t - x.2) + 1 := by simp only [plc, if_neg h]
  unfold put
  rw [e]
  simp only [List.take_succ_cons, List.drop_succ_cons, tot, List.cons_append]
  rw [Int.sub_sub]
theorem ab_put : ∀ (xs : List (Int × Int)) (c t who : Int), ab c (put xs who (t - c)) = ins (ab c xs) who t
  | [], c, t, who => by simp [put, plc, tot, dec, ab, ins]; omega
  | x :: r, c, t, who => by
    by_cases h : x.2 > t - c
    · rw [put_gt x r who _ h]
      have h2 : c + x.2 > t := by omega
      simp only [ab, ins, if_pos h2]
      have e1 : c + (t - c) = t := by omega
      have e2 : t + (x.2 - (t - c)) = c + x.2 := by omega
      rw [e1, e2]
    · rw [put_le x r who _ h]
      have h2 : ¬ (c + x.2 > t) := by omega
      simp only [ab, ins, if_neg h2]
      rw [← ab_put r (c + x.2) t who, Int.sub_sub]

/-- Sleepers: by when they wake; each one but once. -/
structure Ok (l : List (Int × Int)) : Prop where
  srt : l.Pairwise (fun a b => a.2 ≤ b.2)
  bd : ∀ y ∈ l, 1 ≤ y.2 ∧ y.2 ≤ 1073741824
  nd : (l.map Prod.fst).Nodup

theorem good_ab : ∀ (xs : List (Int × Int)) (c : Int), c ≤ 1073741824 → (ab c xs).Pairwise (fun a b => a.2 ≤ b.2) → (∀ y ∈ ab c xs, c ≤ y.2 ∧ y.2 ≤ 1073741824) → (∀ x ∈ xs, 0 ≤ x.2) ∧ c + tot xs ≤ 1073741824
  | [], c, hc, _, _ => ⟨fun _ h => by simp at h, by simp [tot]; exact hc⟩
  | x :: r, c, hc, hp, hb => by
    simp only [ab, List.pairwise_cons] at hp
    have h0 := hb (x.1, c + x.2) (by simp [ab])
    simp only at h0
    obtain ⟨i1, i2⟩ := good_ab r (c + x.2) (by omega) hp.2 (fun y hy => ⟨hp.1 y hy, (hb y (by simp [ab]; exact Or.inr hy)).2⟩)
    refine ⟨fun y hy => ?_, by simp only [tot]; omega⟩
    rcases List.mem_cons.1 hy with rfl | hy
    · omega
    · exact i1 y hy
theorem good_of {xs l : List (Int × Int)} (e : ab 0 xs = l) (h : Ok l) : Good xs := by
  subst e
  obtain ⟨h1, h2⟩ := good_ab xs 0 (by omega) h.srt (fun y hy => by have := h.bd y hy; omega)
  exact ⟨h1, by omega⟩

theorem ins_mem : ∀ {l : List (Int × Int)} {who t : Int} {y : Int × Int}, y ∈ ins l who t ↔ y = (who, t) ∨ y ∈ l
  | [], who, t, y => by simp [ins]
  | x :: r, who, t, y => by
    unfold ins
    split
    · simp
    · simp only [List.mem_cons, ins_mem (l := r)]
      constructor
      · rintro (h | h | h) <;> simp [h]
      · rintro (h | h | h) <;> simp [h]
theorem ins_nd : ∀ {l : List (Int × Int)} {who t : Int}, (l.map Prod.fst).Nodup → who ∉ l.map Prod.fst → ((ins l who t).map Prod.fst).Nodup
  | [], who, t, _, _ => by simp [ins]
  | x :: r, who, t, h, hn => by
    simp only [List.map_cons, List.nodup_cons, List.mem_cons, not_or] at h hn
    unfold ins
    split
    · simp only [List.map_cons, List.nodup_cons, List.mem_cons, not_or]
      exact ⟨⟨hn.1, hn.2⟩, h.1, h.2⟩
    · simp only [List.map_cons, List.nodup_cons]
      refine ⟨fun hm => ?_, ins_nd h.2 hn.2⟩
      obtain ⟨y, hy, e⟩ := List.mem_map.1 hm
      rcases ins_mem.1 hy with rfl | hy
      · exact hn.1 e
      · exact h.1 (List.mem_map.2 ⟨y, hy, e⟩)
theorem ins_srt : ∀ {l : List (Int × Int)} {who t : Int}, l.Pairwise (fun a b => a.2 ≤ b.2) → (ins l who t).Pairwise (fun a b => a.2 ≤ b.2)
  | [], who, t, _ => by simp [ins]
  | x :: r, who, t, h => by
    have h' := List.pairwise_cons.1 h
    unfold ins
    split
    · rename_i hgt
      refine List.pairwise_cons.2 ⟨fun y hy => ?_, h⟩
      rcases List.mem_cons.1 hy with rfl | hy
      · simp only; omega
      · have := h'.1 y hy; simp only; omega
    · rename_i hgt
      refine List.pairwise_cons.2 ⟨fun y hy => ?_, ins_srt h'.2⟩
      rcases ins_mem.1 hy with rfl | hy
      · simp only; omega
      · exact h'.1 y hy
theorem ok_ins {l : List (Int × Int)} {who t : Int} (h : Ok l) (hn : who ∉ l.map Prod.fst) (h1 : 1 ≤ t) (h2 : t ≤ 1073741824) : Ok (ins l who t) :=
  ⟨ins_srt h.srt, fun y hy => by rcases ins_mem.1 hy with rfl | hy; exact ⟨h1, h2⟩; exact h.bd y hy, ins_nd h.nd hn⟩

theorem fi_neg {xs : List (Int × Int)} {who : Int} (h : who ∉ xs.map Prod.fst) : fi xs who < 0 := by
  unfold fi
  rw [List.findIdx?_eq_none_iff.2 (fun x hx => by simp; intro e; exact h (List.mem_map.2 ⟨x, hx, e⟩))]
  show (-1 : Int) < 0
  omega
theorem fi_pos {xs : List (Int × Int)} {who : Int} (h : who ∈ xs.map Prod.fst) : ∃ k, ∃ hk : k < xs.length, fi xs who = k ∧ xs[k].1 = who ∧ ∀ j (hj : j < k), xs[j].1 ≠ who := by
  cases e : xs.findIdx? (fun x => x.1 == who) with
  | none =>
    obtain ⟨x, hx, ex⟩ := List.mem_map.1 h
    have := List.findIdx?_eq_none_iff.1 e x hx
    simp [ex] at this
  | some k =>
    obtain ⟨hk, h1, h2⟩ := List.findIdx?_eq_some_iff_getElem.1 e
    refine ⟨k, hk, by unfold fi; rw [e], by simpa using h1, fun j hj => by simpa using h2 j hj⟩

/-- Who wakes at the next tick; who sleeps behind it. -/
def wake (l : List (Int × Int)) : List Int := (l.filter (fun y => y.2 == 1)).map Prod.fst
def less (l : List (Int × Int)) : List (Int × Int) := (l.filter (fun y => y.2 != 1)).map (fun y => (y.1, y.2 - 1))

theorem ab_shift : ∀ (xs : List (Int × Int)) (c d : Int), ab (c - d) xs = (ab c xs).map (fun y => (y.1, y.2 - d))
  | [], _, _ => rfl
  | x :: r, c, d => by
    simp only [ab, List.map_cons]
    rw [show c - d + x.2 = c + x.2 - d by omega, ab_shift r]
theorem ab_dec (xs : List (Int × Int)) (c d : Int) : ab c (dec xs d) = (ab c xs).map (fun y => (y.1, y.2 - d)) := by
  cases xs with
  | nil => rfl
  | cons x r =>
    simp only [dec, ab, List.map_cons]
    rw [show c + (x.2 - d) = c + x.2 - d by omega, ab_shift r]
theorem ab_ge : ∀ (xs : List (Int × Int)) (c : Int), (∀ x ∈ xs, 0 ≤ x.2) → ∀ y ∈ ab c xs, c ≤ y.2
  | [], _, _, y, hy => by simp [ab] at hy
  | x :: r, c, h, y, hy => by
    have h0 := h x (by simp)
    rcases List.mem_cons.1 hy with rfl | hy
    · simp only; omega
    · have := ab_ge r (c + x.2) (fun x hx => h x (by simp [hx])) y hy
      omega
theorem wk_ab : ∀ (ys : List (Int × Int)), (∀ x ∈ ys, 0 ≤ x.2) → (ys.take (wk ys)).map Prod.fst = ((ab 0 ys).filter (fun y => y.2 == 0)).map Prod.fst ∧ ab 0 (ys.drop (wk ys)) = (ab 0 ys).filter (fun y => y.2 != 0)
  | [], _ => ⟨rfl, rfl⟩
  | x :: r, h => by
    have h0 := h x (by simp)
    have hr : ∀ y ∈ r, 0 ≤ y.2 := fun y hy => h y (by simp [hy])
    by_cases hx : x.2 = 0
    · have e : wk (x :: r) = wk r + 1 := by simp [wk, hx]
      obtain ⟨i1, i2⟩ := wk_ab r hr
      rw [e]
      simp only [ab, hx, List.take_succ_cons, List.drop_succ_cons, List.map_cons, Int.add_zero]
      simp [i1, i2]
    · have e : wk (x :: r) = 0 := by simp [wk, hx]
      rw [e]
      have hall : ∀ y ∈ ab 0 (x :: r), y.2 ≠ 0 := by
        intro y hy
        rcases List.mem_cons.1 hy with rfl | hy
        · simp only; omega
        · have := ab_ge r (0 + x.2) hr y hy
          omega
      have f1 : (ab 0 (x :: r)).filter (fun y => y.2 == 0) = [] := List.filter_eq_nil_iff.2 (fun y hy => by simpa using hall y hy)
      have f2 : (ab 0 (x :: r)).filter (fun y => y.2 != 0) = ab 0 (x :: r) := List.filter_eq_self.2 (fun y hy => by simpa using hall y hy)
      rw [f1, f2]
      exact ⟨rfl, rfl⟩
theorem ab_tick {xs l : List (Int × Int)} (e : ab 0 xs = l) (h : Ok l) : ((dec xs 1).take (wk (dec xs 1))).map Prod.fst = wake l ∧ ab 0 ((dec xs 1).drop (wk (dec xs 1))) = less l := by
  have hg := good_of e h
  have hd : ∀ x ∈ dec xs 1, 0 ≤ x.2 := by
    cases xs with
    | nil => intro x hx; simp [dec] at hx
    | cons x r =>
      intro y hy
      rcases List.mem_cons.1 hy with rfl | hy
      · have := h.bd (x.1, 0 + x.2) (by rw [← e]; simp [ab])
        simp only at this ⊢
        omega
      · exact hg.1 y (by simp [hy])
  obtain ⟨h1, h2⟩ := wk_ab _ hd
  rw [ab_dec, e] at h1 h2
  refine ⟨h1.trans ?_, h2.trans ?_⟩
  · simp only [List.filter_map, List.map_map, wake]
    congr 1
    refine List.filter_congr fun y hy => ?_
    simp only [Function.comp]
    rw [Bool.eq_iff_iff]; simp; omega
  · simp only [List.filter_map, less]
    congr 1
    refine List.filter_congr fun y hy => ?_
    simp only [Function.comp]
    rw [Bool.eq_iff_iff]; simp; omega
theorem ok_less {l : List (Int × Int)} (h : Ok l) : Ok (less l) := by
  refine ⟨?_, ?_, ?_⟩
  · exact List.Pairwise.map _ (fun a b (hab : a.2 ≤ b.2) => by simp only; omega) (h.srt.filter _)
  · intro y hy
    obtain ⟨x, hx, rfl⟩ := List.mem_map.1 hy
    obtain ⟨hx, hn⟩ := List.mem_filter.1 hx
    have := h.bd x hx
    have hn : x.2 ≠ 1 := by simpa using hn
    simp only; omega
  · have : (less l).map Prod.fst = (l.filter (fun y => y.2 != 1)).map Prod.fst := by simp [less, List.map_map, Function.comp_def]
    rw [this]
    exact h.nd.sublist (List.filter_sublist.map _)

/-- How many ticks are left to somebody. -/
def lf (l : List (Int × Int)) (who : Int) : Int × Int := match l.find? (fun y => y.1 == who) with
  | some y => (y.2, 0)
  | none => (0, 1)
theorem ab_find : ∀ (xs : List (Int × Int)) (c who : Int), (ab c xs).find? (fun y => y.1 == who) = (xs.findIdx? (fun x => x.1 == who)).map (fun k => (who, c + cum xs k))
  | [], _, _ => rfl
  | x :: r, c, who => by
    by_cases h : x.1 = who
    · simp [ab, List.findIdx?_cons, h, cum, tot]
    · have h' : (x.1 == who) = false := by simpa using h
      simp only [ab, List.find?_cons, List.findIdx?_cons, h', ab_find r]
      cases r.findIdx? (fun x => x.1 == who) with
      | none => rfl
      | some k => simp [cum, tot]; omega
theorem ab_left {xs l : List (Int × Int)} (e : ab 0 xs = l) (who : Int) : lft xs who = lf l who := by
  subst e
  unfold lf lft
  rw [ab_find]
  cases xs.findIdx? (fun x => x.1 == who) with
  | none => rfl
  | some k => simp

/-- All but somebody. -/
def but (l : List (Int × Int)) (who : Int) : List (Int × Int) := l.filter (fun y => y.1 != who)
theorem ok_but {l : List (Int × Int)} (h : Ok l) (who : Int) : Ok (but l who) :=
  ⟨h.srt.filter _, fun y hy => h.bd y (List.mem_filter.1 hy).1, h.nd.sublist (List.filter_sublist.map _)⟩
theorem ab_rem : ∀ (xs : List (Int × Int)) (c : Int) (k : Nat) (hk : k < xs.length), (xs.map Prod.fst).Nodup → ab c (rem xs k hk) = but (ab c xs) xs[k].1
  | [], c, k, hk, _ => by simp at hk
  | x :: r, c, 0, hk, hn => by
    simp only [List.map_cons, List.nodup_cons] at hn
    have e : rem (x :: r) 0 hk = dec r (-x.2) := by simp [rem]
    have hne : ∀ y ∈ ab (c + x.2) r, y.1 ≠ x.1 := fun y hy he => hn.1 (by rw [← ab_fst r (c + x.2)]; exact List.mem_map.2 ⟨y, hy, he⟩)
    rw [e, ab_dec]
    simp only [but, ab, List.getElem_cons_zero, List.filter_cons, bne_self_eq_false, Bool.false_eq_true, if_false]
    rw [List.filter_eq_self.2 (fun y hy => by simpa using hne y hy), show c + x.2 = c - -x.2 by omega, ab_shift]
  | x :: r, c, k + 1, hk, hn => by
    simp only [List.map_cons, List.nodup_cons] at hn
    have hk' : k < r.length := by simpa using hk
    have e : rem (x :: r) (k + 1) hk = x :: rem r k hk' := by simp [rem]
    have hne : x.1 ≠ r[k].1 := fun he => hn.1 (List.mem_map.2 ⟨r[k], List.getElem_mem hk', he.symm⟩)
    rw [e]
    simp only [but, ab, List.getElem_cons_succ, List.filter_cons]
    rw [if_pos (by simpa using hne), ab_rem r (c + x.2) k hk' hn.2]
    rfl
end Go.Proofs.YtllfkgdmneabiaaDoor
