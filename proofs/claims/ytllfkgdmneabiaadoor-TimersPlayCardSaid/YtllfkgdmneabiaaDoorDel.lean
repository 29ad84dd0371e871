/- Lists of the package deltas in memory: a slice of pairs, a list that some call made; what slices.Insert and slices.Delete make of them; who is found. -/
import Derived.Test.YtllfkgdmneabiaaDoorIns
import Derived.BigQuiet
import Derived.Deep.QuietTactic
set_option linter.unusedVariables false
set_option linter.unusedSimpArgs false
namespace Go.Proofs.YtllfkgdmneabiaaDoor
open Go.RowKit Go.Lib

/-- The cells of pairs. -/
def pc (xs : List (Int × Int)) : List Value := xs.flatMap fun x => [.int .i64 x.1, .int .i64 x.2]
theorem pc_nil : pc [] = [] := rfl
theorem pc_cons (x : Int × Int) (r : List (Int × Int)) : pc (x :: r) = .int .i64 x.1 :: .int .i64 x.2 :: pc r := rfl
theorem pc_append (a b : List (Int × Int)) : pc (a ++ b) = pc a ++ pc b := by simp [pc]
theorem pc_length : ∀ xs : List (Int × Int), (pc xs).length = xs.length * 2
  | [] => rfl
  | x :: r => by rw [pc_cons, List.length_cons, List.length_cons, pc_length r, List.length_cons]; omega
theorem pc_drop : ∀ (xs : List (Int × Int)) (i : Nat), (pc xs).drop (i * 2) = pc (xs.drop i)
  | xs, 0 => by simp
  | [], i + 1 => by simp [pc_nil]
  | x :: r, i + 1 => by rw [pc_cons, show (i + 1) * 2 = i * 2 + 1 + 1 by omega, List.drop_succ_cons, List.drop_succ_cons, List.drop_succ_cons, pc_drop r i]
theorem pc_take : ∀ (xs : List (Int × Int)) (i : Nat), (pc xs).take (i * 2) = pc (xs.take i)
  | xs, 0 => by simp [pc_nil]
  | [], i + 1 => by simp [pc_nil]
  | x :: r, i + 1 => by rw [pc_cons, show (i + 1) * 2 = i * 2 + 1 + 1 by omega, List.take_succ_cons, List.take_succ_cons, List.take_succ_cons, pc_cons, pc_take r i]
theorem pc_get0 (xs : List (Int × Int)) (i : Nat) (h : i < xs.length) : (pc xs)[i * 2]? = some (.int .i64 xs[i].1) := by
  have := congrArg (fun l => l[0]?) (pc_drop xs i)
  rw [List.drop_eq_getElem_cons h, pc_cons] at this
  simpa using this
theorem pc_get1 (xs : List (Int × Int)) (i : Nat) (h : i < xs.length) : (pc xs)[i * 2 + 1]? = some (.int .i64 xs[i].2) := by
  have := congrArg (fun l => l[1]?) (pc_drop xs i)
  rw [List.drop_eq_getElem_cons h, pc_cons] at this
  simpa using this
theorem pc_one (xs : List (Int × Int)) : ∀ v ∈ pc xs, v.oneCell' = true := by
  intro v hv
  simp only [pc, List.mem_flatMap] at hv
  obtain ⟨x, _, h⟩ := hv
  simp at h
  rcases h with rfl | rfl <;> rfl

/-- A slice of pairs: no block, or in block g alone. -/
def PS (w : World) (v : Value) : Option Nat → List (Int × Int) → Prop
  | none, xs => v = .slice none 0 0 ∧ xs = []
  | some g, xs => ∃ off cap cur, v = .slice (some ⟨g, off, none⟩) xs.length cap ∧ xs.length ≤ cap ∧ cap ≤ 9223372036854775807 ∧ w.heap[g]? = some (.cells cur 70 (0, 0)) ∧ off + cap * 2 ≤ cur.size ∧ 0 < cur.size ∧
      ∀ j u, (pc xs)[j]? = some u → cur[off + j]? = some u

theorem PS.lt {w : World} {v : Value} {g : Nat} {xs : List (Int × Int)} (h : PS w v (some g) xs) : g < w.heap.size := by
  obtain ⟨off, cap, cur, _, _, _, hh, _⟩ := h
  exact blk_lt hh
theorem PS.keeps {S : Nat → Prop} {w w' : World} {v : Value} {go : Option Nat} {xs : List (Int × Int)} (h : PS w v go xs) (ht : Tch S w w') (hn : ∀ g, go = some g → ¬ S g) : PS w' v go xs := by
  cases go with
  | none => exact h
  | some g =>
    obtain ⟨off, cap, cur, a1, a2, a3, hh, a4⟩ := h
    exact ⟨off, cap, cur, a1, a2, a3, ht.keeps hh (hn g rfl), a4⟩

/-- What slices.Insert leaves. -/
def InsPost (w : World) (go : Option Nat) (ys : List (Int × Int)) (e : Ending) (w' : World) : Prop :=
  ∃ v' go', e = .returned v' ∧ PS w' v' go' ys ∧ Tch (fun k => go = some k) w w' ∧ (go' = go ∨ go' = some w.heap.size)

theorem pc_mid (xs : List (Int × Int)) (i : Nat) (x : Int × Int) : pc (xs.take i ++ x :: xs.drop i) = (pc xs).take (i * 2) ++ ([.int .i64 x.1, .int .i64 x.2] ++ (pc xs).drop (i * 2)) := by
  rw [pc_append, pc_cons, pc_take, pc_drop]; rfl

theorem insert_ps (w : World) (v : Value) (go : Option Nat) (xs : List (Int × Int)) (x : Int × Int) (i vb : Nat) (hP : PS w v go xs) (hi : i ≤ xs.length) (hlen : xs.length < 100000)
    (hv : w.heap[vb]? = some (.cells #[.int .i64 x.1, .int .i64 x.2] 70 (0, 0))) (hne : ∀ g, go = some g → vb ≠ g) :
    Calls Tryd.prog 55 #[v, .int .i64 i, .slice (some ⟨vb, 0, none⟩) 1 1] w (InsPost w go (xs.take i ++ x :: xs.drop i)) := by
  have hvs : ∀ j u, ([.int .i64 x.1, .int .i64 x.2] : List Value)[j]? = some u → w.cell? ⟨vb, j, none⟩ = some u := fun j u h => by rw [cell_blk hv]; simpa using h
  have h1v : ∀ u ∈ ([.int .i64 x.1, .int .i64 x.2] : List Value), u.oneCell' = true := by simp [Value.oneCell']
  have hgrow : ∀ (n c : Nat), n = xs.length → (pc (xs.take i ++ x :: xs.drop i)).length = (n + 1) * 2 := fun n c h => by rw [pc_length]; simp; omega
  cases go with
  | none =>
    obtain ⟨rfl, rfl⟩ := hP
    obtain rfl : i = 0 := by simpa using hi
    refine (insert_end_grow none 0 0 vb [] [.int .i64 x.1, .int .i64 x.2] w (by omega) (by omega) (by omega) rfl rfl (fun _ => rfl) (fun _ h => by cases h) hvs h1v).mono ?_
    rintro e w' ⟨rfl, rfl⟩
    refine ⟨_, some w.heap.size, rfl, ⟨0, _, _, rfl, grownCap_ge w _ _ _, ?_, blk_alloc_new w.drew _, ?_, ?_, ?_⟩, (Tch.refl _ _).drew.alloc _, Or.inr rfl⟩
    · have := grownCap_le_maxLen w (0 + 1) 0 70 (by unfold maxLen; omega)
      unfold maxLen at this; omega
    · have := grownCap_ge w (0 + 1) 0 70
      simp [Builtin.zeroCells, Value.cells]; omega
    · simp [Builtin.zeroCells, Value.cells]; omega
    · intro j u hj
      simp only [List.take_nil, List.drop_nil, List.nil_append] at hj
      rw [Nat.zero_add, Array.getElem?_append_left (by have := (List.getElem?_eq_some_iff.1 hj).1; simpa [pc_cons, pc_nil] using this)]
      simpa [pc_cons, pc_nil] using hj
  | some g =>
    obtain ⟨off, cap, cur, rfl, hcap, h63, hh, hfit, hpos, hcs⟩ := hP
    have hne' := hne g rfl
    have hcell : ∀ j u, (pc xs)[j]? = some u → w.cell? ⟨g, off + j, none⟩ = some u := fun j u h => by rw [cell_blk hh]; exact hcs j u h
    have hsp : ∀ j, j < cap * 2 → (w.cell? ⟨g, off + j, none⟩).isSome = true := fun j hj => by rw [cell_blk hh, Array.getElem?_eq_getElem (by omega)]; rfl
    by_cases hroom : xs.length + 1 ≤ cap
    · by_cases hlt : i < xs.length
      · refine (insert_shift g off xs.length cap i vb (pc xs) [.int .i64 x.1, .int .i64 x.2] w hlt hroom h63 hne' (pc_length xs) rfl hcell (fun j hj => hsp j (by omega)) (fun j => free_blk hh j) hvs (pc_one xs) h1v
          _ _ _ _ (shape_blk hv) (shape_blk hh) (by omega) (fun j => free_blk hv j)).mono ?_
        rintro e w' ⟨rfl, rfl⟩
        refine ⟨_, some g, rfl, ⟨off, cap, _, by simp; omega, by simp; omega, h63, blk_setCells _ (blk_setCells _ (show w.drew.heap[g]? = _ from hh) _) _, by rw [laid_size, laid_size]; exact hfit, by rw [laid_size, laid_size]; exact hpos, ?_⟩, ((Tch.refl (fun k => some g = some k) _).drew.setCells (fun _ => rfl) _).setCells (fun _ => rfl) _, Or.inl rfl⟩
        intro j u hj
        have hdl : ((pc xs).drop (i * 2)).length = (xs.length - i) * 2 := by rw [List.length_drop, pc_length]; omega
        have htl : ((pc xs).take (i * 2)).length = i * 2 := by rw [List.length_take, pc_length]; omega
        have hjl := (List.getElem?_eq_some_iff.1 hj).1
        rw [pc_mid, List.length_append, List.length_append, htl, hdl] at hjl
        simp only [List.length_cons, List.length_nil] at hjl
        rw [pc_mid] at hj
        rw [laid_get _ _ _ _ (by rw [laid_size]; simp; omega)]
        by_cases c1 : j < i * 2
        · rw [if_neg (by omega), laid_get _ _ _ _ (by rw [hdl]; omega), if_neg (by omega)]
          rw [List.getElem?_append_left (by omega), List.getElem?_take, if_pos c1] at hj
          exact hcs j u hj
        · rw [List.getElem?_append_right (by omega), htl] at hj
          by_cases c2 : j < (i + 1) * 2
          · rw [if_pos (by simp; omega), show off + j - (off + i * 2) = j - i * 2 by omega]
            rwa [List.getElem?_append_left (by simp; omega)] at hj
          · rw [if_neg (by simp; omega), laid_get _ _ _ _ (by rw [hdl]; omega), if_pos (by rw [hdl]; omega)]
            rw [List.getElem?_append_right (by simp; omega)] at hj
            simp only [List.length_cons, List.length_nil] at hj
            rwa [show off + j - (off + (i + 1) * 2) = j - i * 2 - (0 + 1 + 1) by omega]
      · obtain rfl : i = xs.length := by omega
        refine (insert_end_room g off xs.length cap vb [.int .i64 x.1, .int .i64 x.2] w hroom h63 rfl (fun j hj => by rw [Nat.add_assoc]; exact hsp _ (by omega)) (fun j => free_blk hh j) hvs h1v).mono ?_
        rintro e w' ⟨rfl, rfl⟩
        refine ⟨_, some g, rfl, ⟨off, cap, _, by simp, by simp; omega, h63, blk_setCells _ hh _, by rw [laid_size]; exact hfit, by rw [laid_size]; exact hpos, ?_⟩, (Tch.refl (fun k => some g = some k) _).setCells (fun _ => rfl) _, Or.inl rfl⟩
        intro j u hj
        have hjl := (List.getElem?_eq_some_iff.1 hj).1
        simp only [List.take_length, List.drop_length, pc_append, pc_cons, pc_nil, List.length_append, List.length_cons, List.length_nil, pc_length] at hj hjl
        rw [laid_get _ _ _ _ (by simp; omega)]
        by_cases c1 : j < xs.length * 2
        · rw [if_neg (by omega)]
          rw [List.getElem?_append_left (by rw [pc_length]; omega)] at hj
          exact hcs j u hj
        · rw [if_pos (by simp; omega)]
          rw [List.getElem?_append_right (by rw [pc_length]; omega), pc_length] at hj
          rwa [show off + j - (off + xs.length * 2) = j - xs.length * 2 by omega]
    · obtain rfl : cap = xs.length := by omega
      by_cases hlt : i < xs.length
      · refine (insert_grow g off xs.length xs.length i vb (pc xs) [.int .i64 x.1, .int .i64 x.2] w hlt (by omega) (by omega) (by omega) (pc_length xs) rfl hcell hvs (pc_one xs) h1v).mono ?_
        rintro e w' ⟨rfl, rfl⟩
        have hge := grownCap_ge w (xs.length + 1) xs.length 70
        have hle := grownCap_le_maxLen w (xs.length + 1) xs.length 70 (by unfold maxLen; omega)
        unfold maxLen at hle
        obtain ⟨G, hG⟩ : ∃ G, G = grownCap w (xs.length + 1) xs.length 70 := ⟨_, rfl⟩
        rw [← hG] at hge hle ⊢
        have hdl : ((pc xs).drop (i * 2)).length = (xs.length - i) * 2 := by rw [List.length_drop, pc_length]; omega
        have htl : ((pc xs).take (i * 2)).length = i * 2 := by rw [List.length_take, pc_length]; omega
        obtain ⟨ROW, hROW⟩ : ∃ ROW : Array Value, ROW = ((pc xs).take (i * 2)).toArray ++ Builtin.zeroCells (Value.agg #[.int .i64 0, .int .i64 0]).cells (xs.length + 1 - i) ++ Builtin.zeroCells (Value.agg #[.int .i64 0, .int .i64 0]).cells (G - (xs.length + 1)) := ⟨_, rfl⟩
        rw [← hROW]
        have hRs : ROW.size = G * 2 := by rw [hROW]; simp [Builtin.zeroCells, Value.cells, pc_length]; omega
        have H1 : (w.alloc (.cells ROW 70)).drew.heap[w.heap.size]? = some (.cells ROW 70 (0, 0)) := blk_alloc_new w _
        have H2 := blk_setCells [.int .i64 x.1, .int .i64 x.2] H1 (i * 2)
        have H3 : ((w.alloc (.cells ROW 70)).drew.setCells w.heap.size (i * 2) [.int .i64 x.1, .int .i64 x.2]).drew.heap[w.heap.size]? = some (.cells (laid ROW (i * 2) [.int .i64 x.1, .int .i64 x.2]) 70 (0, 0)) := H2
        have H4 := blk_setCells ((pc xs).drop (i * 2)) H3 ((i + 1) * 2)
        refine ⟨_, some w.heap.size, rfl, ⟨0, G, _, by simp; omega, by simp; omega, by omega, H4, by rw [laid_size, laid_size, hRs]; omega, by rw [laid_size, laid_size, hRs]; omega, ?_⟩,
          ((((Tch.refl _ _).alloc _).drew.setCells (fun h => absurd h (Nat.lt_irrefl _)) _).drew.setCells (fun h => absurd h (Nat.lt_irrefl _)) _), Or.inr rfl⟩
        intro j u hj
        have hjl := (List.getElem?_eq_some_iff.1 hj).1
        rw [pc_mid, List.length_append, List.length_append, htl, hdl] at hjl
        simp only [List.length_cons, List.length_nil] at hjl
        rw [pc_mid] at hj
        rw [Nat.zero_add, laid_get _ _ _ _ (by rw [laid_size, hRs, hdl]; omega)]
        by_cases c1 : j < i * 2
        · rw [if_neg (by omega), laid_get _ _ _ _ (by rw [hRs]; simp; omega), if_neg (by omega)]
          rw [List.getElem?_append_left (by omega)] at hj
          rw [hROW, Array.getElem?_append_left (by simp [htl]; omega), Array.getElem?_append_left (by simp [htl]; omega)]
          simpa using hj
        · rw [List.getElem?_append_right (by omega), htl] at hj
          by_cases c2 : j < (i + 1) * 2
          · rw [if_neg (by omega), laid_get _ _ _ _ (by rw [hRs]; simp; omega), if_pos (by simp; omega)]
            rwa [List.getElem?_append_left (by simp; omega)] at hj
          · rw [if_pos (by rw [hdl]; omega)]
            rw [List.getElem?_append_right (by simp; omega)] at hj
            simp only [List.length_cons, List.length_nil] at hj
            rwa [show j - (i + 1) * 2 = j - i * 2 - (0 + 1 + 1) by omega]
      · obtain rfl : i = xs.length := by omega
        refine (insert_end_grow (some ⟨g, off, none⟩) xs.length xs.length vb (pc xs) [.int .i64 x.1, .int .i64 x.2] w (by omega) (by omega) (by omega) (pc_length xs) rfl (fun h => by cases h) (fun a h j u hj => by cases h; rw [Addr.add_lit]; exact hcell j u hj) hvs h1v).mono ?_
        rintro e w' ⟨rfl, rfl⟩
        have hge := grownCap_ge w (xs.length + 1) xs.length 70
        have hle := grownCap_le_maxLen w (xs.length + 1) xs.length 70 (by unfold maxLen; omega)
        unfold maxLen at hle
        obtain ⟨G, hG⟩ : ∃ G, G = grownCap w (xs.length + 1) xs.length 70 := ⟨_, rfl⟩
        rw [← hG] at hge hle ⊢
        refine ⟨_, some w.heap.size, rfl, ⟨0, G, _, by simp, by simp; omega, by omega, blk_alloc_new w.drew _, ?_, ?_, ?_⟩, (Tch.refl _ _).drew.alloc _, Or.inr rfl⟩
        · simp [Builtin.zeroCells, Value.cells, pc_length]; omega
        · simp [Builtin.zeroCells, Value.cells, pc_length]; omega
        · intro j u hj
          have hjl := (List.getElem?_eq_some_iff.1 hj).1
          simp only [List.take_length, List.drop_length, pc_append, pc_cons, pc_nil, List.length_append, List.length_cons, List.length_nil, pc_length] at hj hjl
          rw [Nat.zero_add, Array.getElem?_append_left (by simp [pc_length]; omega)]
          simpa using hj

/-- What slices.Delete leaves. -/
def DelPost (w : World) (g : Nat) (ys : List (Int × Int)) (e : Ending) (w' : World) : Prop :=
  ∃ v', e = .returned v' ∧ PS w' v' (some g) ys ∧ Tch (fun k => k = g) w w'

theorem delete_ps (w : World) (v : Value) (g : Nat) (xs : List (Int × Int)) (i : Nat) (hP : PS w v (some g) xs) (hi : i < xs.length) :
    Calls Tryd.prog 53 #[v, .int .i64 i, .int .i64 ((i : Int) + 1)] w (DelPost w g (xs.take i ++ xs.drop (i + 1))) := by
  obtain ⟨off, cap, cur, rfl, hcap, h63, hh, hfit, hpos, hcs⟩ := hP
  refine (delete_one g off xs.length cap i (pc xs) w hi hcap h63 (pc_length xs) (fun j u h => by rw [cell_blk hh]; exact hcs j u h) (fun j => free_blk hh j) (pc_one xs)).mono ?_
  rintro e w' ⟨rfl, rfl⟩
  refine ⟨_, rfl, ⟨off, cap, _, by simp; omega, by simp; omega, h63, blk_setCells _ (blk_setCells _ (show w.drew.heap[g]? = _ from hh) _) _, by rw [laid_size, laid_size]; exact hfit, by rw [laid_size, laid_size]; exact hpos, ?_⟩, ((Tch.refl (fun k => k = g) _).drew.setCells (fun _ => rfl) _).setCells (fun _ => rfl) _⟩
  intro j u hj
  have hdl : ((pc xs).drop ((i + 1) * 2)).length = (xs.length - (i + 1)) * 2 := by rw [List.length_drop, pc_length]; omega
  have hjl := (List.getElem?_eq_some_iff.1 hj).1
  rw [pc_length, List.length_append, List.length_take, List.length_drop] at hjl
  rw [pc_append, ← pc_take, ← pc_drop] at hj
  have htl : ((pc xs).take (i * 2)).length = i * 2 := by rw [List.length_take, pc_length]; omega
  rw [laid_get _ _ _ _ (by rw [laid_size]; simp; omega), if_neg (by simp; omega), laid_get _ _ _ _ (by rw [hdl]; omega)]
  by_cases c1 : j < i * 2
  · rw [if_neg (by omega)]
    rw [List.getElem?_append_left (by omega), List.getElem?_take, if_pos c1] at hj
    exact hcs j u hj
  · rw [if_pos (by rw [hdl]; omega)]
    rw [List.getElem?_append_right (by omega), htl] at hj
    rwa [show off + j - (off + i * 2) = j - i * 2 by omega]

end Go.Proofs.YtllfkgdmneabiaaDoor
