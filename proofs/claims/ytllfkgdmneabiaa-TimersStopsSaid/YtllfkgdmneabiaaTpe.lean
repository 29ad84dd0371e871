/- When one alarm comes, among others. -/
import Derived.Test.YtllfkgdmneabiaaTmh
import Derived.Test.YtllfkgdmneabiaaTac
set_option linter.unusedVariables false
set_option linter.unusedSimpArgs false
namespace Go.Proofs.Ytllfkgdmneabiaa
open Go.RowKit Go.Shelf Go.Maps
attribute [local go_sem] Oper.semAt_some

/-- A block as it is. -/
def Blk (b : Nat) (o : Obj) : Thing where
  at_ w S := w.heap[b]? = some o ∧ S = fun k => k = b
  lt := by rintro w S ⟨h, rfl⟩ k rfl; exact blk_lt h
  keeps := by
    rintro w w' S T ⟨h, rfl⟩ ht hn
    exact ⟨(ht.block b (blk_lt h) (hn b rfl)).trans h, rfl⟩
theorem blk_new {w0 w : World} {r : List Thing} (h : Hp w0 w r) (o : Obj) : Hp w0 (w.alloc o) (Blk w.heap.size o :: r) :=
  h.add ((Tch.refl _ w).alloc _) (U := fun k => k = w.heap.size) ⟨blk_alloc_new w _, rfl⟩ (fun k hk => by subst hk; exact Nat.le_refl _)
theorem blk_get {w0 w : World} {r : List Thing} {b : Nat} {o : Obj} (h : Hp w0 w (Blk b o :: r)) : w.heap[b]? = some o := by
  obtain ⟨S, ⟨h1, _⟩, _⟩ := h.lay
  exact h1

/-- How many ticks are left behind so many. -/
def lv (p q t : Nat) : Int := if t < p + 1 then (p : Int) + 1 - t else if 0 < q then (q : Int) - (((t - (p + 1)) % q : Nat) : Int) else 0
theorem lv_lt {p q t : Nat} (h : t < p + 1) : lv p q t = (p : Int) + 1 - t := by unfold lv; rw [if_pos h]
theorem lv_ge {p q t : Nat} (h : p + 1 ≤ t) (hq : 0 < q) : lv p q t = (q : Int) - (((t - (p + 1)) % q : Nat) : Int) := by unfold lv; rw [if_neg (by omega), if_pos hq]
theorem lv_none {p q t : Nat} (h : p + 1 ≤ t) (hq : ¬ 0 < q) : lv p q t = 0 := by unfold lv; rw [if_neg (by omega), if_neg hq]
theorem lv_nn (p q t : Nat) : 0 ≤ lv p q t ∧ (lv p q t = 0 → q = 0) := by
  by_cases h : t < p + 1
  · rw [lv_lt h]; omega
  · by_cases hq : 0 < q
    · rw [lv_ge (by omega) hq]; have := Nat.mod_lt (t - (p + 1)) hq; omega
    · rw [lv_none (by omega) hq]; omega
theorem mod_step (a q : Nat) (hq : 0 < q) : (a % q = q - 1 → (a + 1) % q = 0) ∧ (a % q ≠ q - 1 → (a + 1) % q = a % q + 1) := by
  have h1 := Nat.mod_lt a hq
  have h2 : (a + 1) % q = (a % q + 1) % q := (Nat.mod_add_mod a q 1).symm
  constructor
  · intro h; rw [h2, h, show q - 1 + 1 = q by omega, Nat.mod_self]
  · intro h; rw [h2, Nat.mod_eq_of_lt (by omega)]
theorem lv_step (p q t : Nat) : lv p q (t + 1) = if 1 < lv p q t then lv p q t - 1 else if lv p q t = 1 then (q : Int) else 0 := by
  by_cases h : t < p
  · rw [lv_lt (show t + 1 < p + 1 by omega), lv_lt (show t < p + 1 by omega), if_pos (by omega)]; omega
  · by_cases h1 : t = p
    · subst h1
      rw [lv_lt (show t < t + 1 by omega), if_neg (by omega), if_pos (by omega)]
      by_cases hq : 0 < q
      · rw [lv_ge (by omega) hq, Nat.sub_self, Nat.zero_mod]; omega
      · rw [lv_none (by omega) hq]; omega
    · by_cases hq : 0 < q
      · obtain ⟨a, rfl⟩ : ∃ a, t = a + (p + 1) := ⟨t - (p + 1), by omega⟩
        rw [lv_ge (by omega) hq, lv_ge (by omega) hq, show a + (p + 1) + 1 - (p + 1) = a + 1 by omega, show a + (p + 1) - (p + 1) = a by omega]
        obtain ⟨s1, s2⟩ := mod_step a q hq
        have h1 := Nat.mod_lt a hq
        by_cases h3 : a % q = q - 1
        · rw [s1 h3, if_neg (by omega), if_pos (by omega)]; omega
        · rw [s2 h3, if_pos (by omega)]; omega
      · rw [lv_none (by omega) hq, lv_none (by omega) hq]; simp
/-- It comes just at the ticks that are told. -/
theorem lv_due (p q t : Nat) : lv p q t = 1 ↔ (t = p ∨ (0 < q ∧ p < t ∧ (t - p) % q = 0)) := by
  by_cases h : t < p + 1
  · rw [lv_lt h]; omega
  · by_cases hq : 0 < q
    · obtain ⟨a, rfl⟩ : ∃ a, t = a + (p + 1) := ⟨t - (p + 1), by omega⟩
      rw [lv_ge (by omega) hq, show a + (p + 1) - (p + 1) = a by omega, show a + (p + 1) - p = a + 1 by omega]
      obtain ⟨s1, s2⟩ := mod_step a q hq
      have h1 := Nat.mod_lt a hq
      constructor
      · intro h2; exact Or.inr ⟨hq, by omega, s1 (by omega)⟩
      · rintro (h2 | ⟨_, _, h2⟩)
        · omega
        · by_cases h3 : a % q = q - 1
          · omega
          · have := s2 h3; omega
    · rw [lv_none (by omega) hq]; omega

/-- One among the alarms. -/
structure At5 (L : List (Int × Int)) (F : Int → Int) (p q t : Nat) : Prop where
  f5 : F 5 = q
  pos : 0 < lv p q t → (5, lv p q t) ∈ L
  zero : lv p q t = 0 → (5 : Int) ∉ L.map Prod.fst
theorem at5_left {L : List (Int × Int)} {F : Int → Int} {p q t : Nat} (h : At5 L F p q t) (ha : Al L F) : (lf L 5).1 = lv p q t := by
  by_cases h0 : lv p q t = 0
  · rw [lf_out (h.zero h0), h0]
  · have h1 := h.pos (by have := (lv_nn p q t).1; omega)
    have := lf_in ha.ok h1
    simp only at this
    rw [this]
theorem at5_wake {L : List (Int × Int)} {F : Int → Int} {p q t : Nat} (h : At5 L F p q t) (ha : Al L F) : (5 : Int) ∈ wake L ↔ lv p q t = 1 := by
  rw [mem_wake]
  by_cases h0 : lv p q t = 0
  · constructor
    · intro hm; exact absurd (List.mem_map.2 ⟨_, hm, rfl⟩) (h.zero h0)
    · intro e; omega
  · have h1 := h.pos (by have := (lv_nn p q t).1; omega)
    constructor
    · intro hm; exact (uniq ha.ok hm h1).symm
    · intro e; rw [e] at h1; exact h1
theorem at5_tk {L : List (Int × Int)} {F : Int → Int} {p q t : Nat} (h : At5 L F p q t) (ha : Al L F) : At5 (tk F L) F p q (t + 1) := by
  obtain ⟨k1, k2, k3, k4⟩ := tk_other ha 5
  have hn := lv_nn p q t
  have f5 := h.f5
  refine ⟨f5, fun hp => ?_, fun hz => ?_⟩
  · rw [lv_step] at hp ⊢
    by_cases h1 : 1 < lv p q t
    · rw [if_pos h1]; exact k1 _ (h.pos (by omega)) h1
    · rw [if_neg h1] at hp ⊢
      by_cases h2 : lv p q t = 1
      · rw [if_pos h2] at hp ⊢
        have := h.pos (by omega)
        rw [h2] at this
        rw [← f5] at hp ⊢
        exact k2 this hp
      · rw [if_neg h2] at hp; omega
  · rw [lv_step] at hz
    by_cases h1 : 1 < lv p q t
    · rw [if_pos h1] at hz; omega
    · rw [if_neg h1] at hz
      by_cases h2 : lv p q t = 1
      · rw [if_pos h2] at hz
        have := h.pos (by omega)
        rw [h2] at this
        exact k3 this (by omega)
      · exact k4 (h.zero (by omega))
/-- What others do. -/
structure Others (L L' : List (Int × Int)) (F F' : Int → Int) (id : Int) : Prop where
  f : ∀ y, y ≠ id → F' y = F y
  l : ∀ y s, y ≠ id → ((y, s) ∈ L' ↔ (y, s) ∈ L)
theorem Others.refl (L : List (Int × Int)) (F : Int → Int) (id : Int) : Others L L F F id := ⟨fun _ _ => rfl, fun _ _ _ => Iff.rfl⟩
theorem at5_others {L L' : List (Int × Int)} {F F' : Int → Int} {id : Int} {p q t : Nat} (h : At5 L F p q t) (ho : Others L L' F F' id) (hi : id ≠ 5) : At5 L' F' p q t := by
  have h5 : (5 : Int) ≠ id := fun e => hi e.symm
  refine ⟨(ho.f 5 h5).trans h.f5, fun hp => (ho.l 5 _ h5).2 (h.pos hp), fun hz hm => ?_⟩
  obtain ⟨⟨a, b⟩, hy, e⟩ := List.mem_map.1 hm
  simp only at e; subst e
  exact h.zero hz (List.mem_map.2 ⟨_, (ho.l 5 b h5).1 hy, rfl⟩)
theorem others_start (L : List (Int × Int)) (F : Int → Int) (id n e : Int) : Others L (ins (but L id) id n) F (upd F id e) id := by
  refine ⟨fun y hy => by simp [upd, hy], fun y s hy => ?_⟩
  rw [ins_mem, but_mem]
  constructor
  · rintro (h | h)
    · injection h with h1 h2; exact absurd h1 hy
    · exact h.1
  · intro h; exact Or.inr ⟨h, hy⟩
theorem others_stop (L : List (Int × Int)) (F : Int → Int) (id : Int) : Others L (but L id) F (upd F id 0) id := by
  refine ⟨fun y hy => by simp [upd, hy], fun y s hy => ?_⟩
  rw [but_mem]
  exact ⟨fun h => h.1, fun h => ⟨h, hy⟩⟩

theorem start_any {w0 w : World} {r : List Thing} {b lb mb m : Nat} {l : List (Int × Int)} {f : Int → Int} (id n e : Int) (h : Hp w0 w (Als b lb mb :: Slp lb l :: Mp mb m f :: r)) (ha : Al l f) (hl : l.length < 9999) (hm : m < 99999) (hw : (Lit.int .i64 id).wf = true) :
    Calls Try.prog 7 #[.pointer (some ⟨b, 0, none⟩), .int .i64 id, .int .i64 n, .int .i64 e] w fun x w' => ∃ c l' f' m', x = .returned (.int .i64 c) ∧ Hp w0 w' (Als b lb mb :: Slp lb l' :: Mp mb m' f' :: r) ∧ Al l' f' ∧ l'.length ≤ l.length + 1 ∧ m' ≤ m + 1 ∧ Others l l' f f' id := by
  by_cases h0 : 0 ≤ id
  · by_cases hb : badS id n e
    · exact (start_range id n e h h0 hb).mono fun x w' ⟨h1, h2⟩ => ⟨_, _, _, _, h1, h2, ha, by omega, by omega, Others.refl _ _ _⟩
    · unfold badS at hb
      refine (start_ok id n e h ha hl hm h0 hw (by omega) (by omega) (by omega) (by omega)).mono fun x w' ⟨h1, h2⟩ => ⟨_, _, _, _, h1, h2, al_start ha ⟨h0, hw⟩ (by omega) (by omega) (by omega) (by omega), ?_, by omega, others_start _ _ _ _ _⟩
      rw [ins_len]; have := but_le l id; omega
  · exact (start_arg id n e h (by omega)).mono fun x w' ⟨h1, h2⟩ => ⟨_, _, _, _, h1, h2, ha, by omega, by omega, Others.refl _ _ _⟩
theorem stop_any {w0 w : World} {r : List Thing} {b lb mb m : Nat} {l : List (Int × Int)} {f : Int → Int} (id : Int) (h : Hp w0 w (Als b lb mb :: Slp lb l :: Mp mb m f :: r)) (ha : Al l f) (hl : l.length < 9999) (hw : (Lit.int .i64 id).wf = true) :
    Calls Try.prog 8 #[.pointer (some ⟨b, 0, none⟩), .int .i64 id] w fun x w' => ∃ c l' f', x = .returned (.int .i64 c) ∧ Hp w0 w' (Als b lb mb :: Slp lb l' :: Mp mb m f' :: r) ∧ Al l' f' ∧ l'.length ≤ l.length ∧ Others l l' f f' id := by
  by_cases hi : id ∈ l.map Prod.fst
  · exact (stop_ok id h ha hl hw hi).mono fun x w' ⟨h1, h2⟩ => ⟨_, _, _, h1, h2, al_stop ha id, but_le l id, others_stop _ _ _⟩
  · exact (stop_state id h hl hi).mono fun x w' ⟨h1, h2⟩ => ⟨_, _, _, h1, h2, ha, by omega, Others.refl _ _ _⟩

/-- How often it is among the first ones. -/
def cn (ws : List Int) (j : Nat) : Nat := (ws.take j).count 5
theorem cn_succ (ws : List Int) (j : Nat) (hj : j < ws.length) : cn ws (j + 1) = if ws[j] = 5 then cn ws j + 1 else cn ws j := by
  unfold cn
  rw [List.take_succ_eq_append_getElem hj, List.count_append]
  by_cases h : ws[j] = 5
  · rw [if_pos h]; simp [h]
  · rw [if_neg h]; simp [h]
theorem cn_le (ws : List Int) (j : Nat) : cn ws j ≤ j := by
  unfold cn; exact Nat.le_trans List.count_le_length (by rw [List.length_take]; omega)
theorem cn_all {L : List (Int × Int)} (h : Ok L) : cn (wake L) (wake L).length = if (5 : Int) ∈ wake L then 1 else 0 := by
  unfold cn
  rw [List.take_length]
  exact (wake_nd h).count
end Go.Proofs.Ytllfkgdmneabiaa
