/- List.All and Tick. -/
import Derived.Test.YtllfkgdmneabiaaDoorRem
import Derived.WalkKit
set_option linter.unusedVariables false
set_option linter.unusedSimpArgs false
namespace Go.Proofs.YtllfkgdmneabiaaDoor
open Go.RowKit Go.Shelf
attribute [local go_sem] Oper.semAt_some

theorem info_int : (Tryd.prog.info? 3).map (fun i => (i.zero, i.size, i.bytes)) = some (some (.int .i64 0), 1, 8) := by kernel_rfl


/-- How many wake. -/
def wk : List (Int × Int) → Nat
  | [] => 0
  | x :: r => if x.2 = 0 then wk r + 1 else 0
theorem wk_le : ∀ ys : List (Int × Int), wk ys ≤ ys.length
  | [] => Nat.le_refl _
  | x :: r => by unfold wk; split <;> simp [wk_le r]
theorem wk_zero : ∀ (ys : List (Int × Int)) (k : Nat) (h : k < ys.length), k < wk ys → ys[k].2 = 0
  | [], _, h, _ => by simp at h
  | x :: r, 0, _, h => by unfold wk at h; split at h <;> first | assumption | omega
  | x :: r, k + 1, h, h2 => by
    unfold wk at h2; split at h2
    · simpa using wk_zero r k (by simpa using h) (by omega)
    · omega
theorem wk_at : ∀ (ys : List (Int × Int)) (h : wk ys < ys.length), ys[wk ys].2 ≠ 0
  | [], h => by simp at h
  | x :: r, h => by
    by_cases h0 : x.2 = 0
    · have e : wk (x :: r) = wk r + 1 := by simp [wk, h0]
      simp only [e, List.getElem_cons_succ]
      exact wk_at r (by rw [e] at h; simpa using h)
    · have e : wk (x :: r) = 0 := by simp [wk, h0]
      simpa [e] using h0

theorem wk_step (ys rest : List (Int × Int)) (y : Int × Int) (k : Nat) (h : ys.drop k = y :: rest) (h0 : y.2 = 0) (hk : k ≤ wk ys) : k + 1 ≤ wk ys ∧ ys.drop (k + 1) = rest ∧ (ys.map fun x => Value.int .i64 x.1).take (k + 1) = (ys.map fun x => Value.int .i64 x.1).take k ++ [.int .i64 y.1] := by
  have hl : k < ys.length := by
    have := congrArg List.length h
    simp at this; omega
  rw [List.drop_eq_getElem_cons hl] at h
  obtain ⟨h1, h2⟩ := List.cons.inj h
  subst h1
  refine ⟨?_, h2, ?_⟩
  · rcases Nat.lt_or_eq_of_le hk with h' | h'
    · omega
    · subst h'; exact absurd h0 (wk_at ys hl)
  · rw [List.take_succ_eq_append_getElem (by simpa using hl)]; simp
theorem wk_stop (ys rest : List (Int × Int)) (y : Int × Int) (k : Nat) (h : ys.drop k = y :: rest) (h0 : y.2 ≠ 0) (hk : k ≤ wk ys) : k = wk ys := by
  have hl : k < ys.length := by
    have := congrArg List.length h
    simp at this; omega
  rw [List.drop_eq_getElem_cons hl] at h
  obtain ⟨h1, h2⟩ := List.cons.inj h
  subst h1
  rcases Nat.lt_or_eq_of_le hk with h' | h'
  · exact absurd (wk_zero ys k hl h') h0
  · exact h'
theorem wk_end (ys : List (Int × Int)) (k : Nat) (h : ys.drop k = []) (hk : k ≤ wk ys) : k = wk ys := by
  have := wk_le ys
  have h2 : ys.length ≤ k := by simpa using h
  omega

theorem DL.of_heap {w w' : World} {b g : Nat} {xs : List (Int × Int)} (h : DL w b (some g) xs) (h1 : w'.heap[b]? = w.heap[b]?) (h2 : w'.heap[g]? = w.heap[g]?) : DL w' b (some g) xs := by
  obtain ⟨v, a1, a2⟩ := h.ex
  exact ⟨⟨v, h1.trans a1, a2.of_heap h2⟩, h.apart⟩
theorem PS.tail {w : World} {g off cap n : Nat} {x : Int × Int} {r : List (Int × Int)} (h : PS w (.slice (some ⟨g, off, none⟩) n cap) (some g) (x :: r)) : PS w (.slice (some ⟨g, off + 2, none⟩) (n - 1) (cap - 1)) (some g) r := by
  obtain ⟨off', cap', cur, e, a2, a3, hh, a4, a5, a6⟩ := h
  simp at e
  obtain ⟨rfl, rfl, rfl⟩ := e
  simp at a2
  refine ⟨off + 2, cap - 1, cur, by simp, by omega, by omega, hh, by omega, a5, fun j u hj => ?_⟩
  have := a6 (2 + j) u (by rw [pc_cons, show 2 + j = j + 1 + 1 by omega]; simpa using hj)
  rw [← this]; congr 1; omega

theorem PS.tail0 {w : World} {g off cap n : Nat} {x : Int × Int} {r : List (Int × Int)} (h : PS w (.slice (some ⟨g, off, none⟩) n cap) (some g) (x :: r)) (hc : cap - 1 = 0) : PS w (.slice (some ⟨g, off, none⟩) r.length 0) (some g) r := by
  obtain ⟨off', cap', cur, e, a2, a3, hh, a4, a5, a6⟩ := h
  simp at e
  obtain ⟨rfl, rfl, rfl⟩ := e
  simp at a2
  have hr : r = [] := List.length_eq_zero_iff.1 (by omega)
  subst hr
  exact ⟨off, 0, cur, rfl, by simp, by omega, hh, by omega, a5, fun j u hj => by simp [pc] at hj⟩
/-- How long the list is, as it lies. -/
def ml (b : Nat) (w : World) : Nat := match w.cell? ⟨b, 0, none⟩ with | some (.slice _ n _) => n | _ => 0

/-- What Tick leaves. -/
def TickPost (w : World) (b : Nat) (go : Option Nat) (ws : List Int) (ys : List (Int × Int)) (e : Ending) (w' : World) : Prop :=
  ∃ v, e = .returned v ∧ w'.ownsRow w.heap.size 3 1 v ws.length (ws.map (Value.int .i64)) ∧ DL w' b go ys ∧ Tch (fun k => k = b ∨ go = some k) w w' ∧ (ws = [] → v = .slice none 0 0)

theorem tick_none (w : World) (b : Nat) (go : Option Nat) (h : DL w b go []) :
    Calls Tryd.prog 23 #[.pointer (some ⟨b, 0, none⟩)] w (TickPost w b go [] []) := by
  have H := Lib.hid h
  obtain ⟨v, q1, q2⟩ := h.ex
  obtain ⟨a, c, rfl⟩ := q2.isSlice
  have e0 : w.cell? ⟨b, 0, none⟩ = some (.slice a 0 c) := by rw [cell_blk q1]; rfl
  clear h q1 q2
  go_enter Tryd.func23, Tryd.ntmps23
  go_wp2_with fail
  refine (there_c _ _ _ _ H.out).mono ?_; rintro e w' ⟨rfl, rfl⟩
  go_wp2
  go_ret
  exact ⟨_, rfl, World.ownsRow_nil _ _ _ _, H.out, Tch.refl _ _, fun _ => rfl⟩

set_option maxHeartbeats 1000000 in
set_option maxRecDepth 20000 in
theorem tick_some (w : World) (b g : Nat) (x : Int × Int) (r : List (Int × Int)) (h : DL w b (some g) (x :: r)) (hg : Good (x :: r)) (hlen : (x :: r).length < 99999) :
    Calls Tryd.prog 23 #[.pointer (some ⟨b, 0, none⟩)] w (TickPost w b (some g) (((dec (x :: r) 1).take (wk (dec (x :: r) 1))).map Prod.fst) ((dec (x :: r) 1).drop (wk (dec (x :: r) 1)))) := by
  have H := Lib.hid h
  obtain ⟨i0, hi, hz0, hz1, hz2⟩ := info_parts info_int
  obtain ⟨v, q1, q2⟩ := h.ex
  have hgb := h.apart g rfl
  obtain ⟨g', off, cap, hgo, rfl, e1, e2⟩ := q2.cells 0 (by simp)
  cases hgo
  simp only [Nat.zero_mul, Nat.add_zero, List.getElem_cons_zero] at e1 e2
  have e0 : w.cell? ⟨b, 0, none⟩ = some (.slice (some ⟨g, off, none⟩) (r.length + 1) cap) := by rw [cell_blk q1]; rfl
  have f1 : w.frozen? ⟨g, off + 1, none⟩ = false := by
    obtain ⟨o', c', cu, y1, y2, y3, y4, y5, y6, _⟩ := q2
    exact free_blk y4 _
  have hx := get_bd _ hg 0 (by simp)
  simp only [List.getElem_cons_zero] at hx
  have hw1 : IntKind.i64.wrap (x.2 - 1) = x.2 - 1 := by rw [IntKind.wrap_i64]; omega
  have hn : ¬ ((r.length : Int) + 1 = 0) := by omega
  have Hq1 := Lib.hid q1
  have HP := Lib.hid q2
  clear h q1 q2 hx
  go_enter Tryd.func23, Tryd.ntmps23
  go_wp2_with fail
  refine (there_c _ _ _ _ H.out).mono ?_; rintro e w' ⟨rfl, rfl⟩
  go_wp2
  have HT0 : Hid (Tch (fun k => k = b ∨ some g = some k) w (w.setCell ⟨g, off + 1, none⟩ (.int .i64 (x.2 - 1)))) := (Tch.refl _ w).setCell (p := ⟨g, off + 1, none⟩) (fun _ => Or.inr rfl) _
  have HD0 : Hid (DL (w.setCell ⟨g, off + 1, none⟩ (.int .i64 (x.2 - 1))) b (some g) (dec (x :: r) 1)) := by
    have hp := PS.store1 (k := 0) HP.out (by simp) (x.2 - 1)
    simp only [Nat.zero_mul, Nat.add_zero] at hp
    exact ⟨⟨_, (blk_setCell_other _ _ (Ne.symm hgb)).trans Hq1.out, hp⟩, fun g' e => by cases e; exact hgb⟩
  have hyl : (dec (x :: r) 1).length < 99999 := hlen
  have hbl := blk_lt Hq1.out
  have hgl := HP.out.lt
  clear e0 e1 e2 f1 hw1 hn Hq1 HP H hg hlen
  generalize dec (x :: r) 1 = ys at *
  generalize (w.setCell ⟨g, off + 1, none⟩ (.int .i64 (x.2 - 1))) = W0 at *
  go_loopw [2] (fun v wr => ∃ (k : Nat) (rest : List (Int × Int)), k ≤ wk ys ∧ ys.drop k = rest ∧ wr.ownsRow w.heap.size 3 1 v k ((ys.map fun x => .int .i64 x.1).take k) ∧ DL wr b (some g) rest ∧ Tch (fun k => k = b ∨ some g = some k) w wr ∧ (k = 0 → v = .slice none 0 0))
    (fun _ wr => ml b wr)
  case atStart => exact ⟨0, ys, Nat.zero_le _, rfl, World.ownsRow_nil _ _ _ _, HD0.out, HT0.out, fun _ => rfl⟩
  case round =>
    obtain ⟨k, rest, hk, hdr, hown, hD, hT, hnil⟩ := hrel
    have HD := Lib.hid hD
    obtain ⟨v0, q1, q2⟩ := hD.ex
    have Hq1 := Lib.hid q1
    clear hD
    cases rest with
    | nil =>
      obtain ⟨a0, c0, rfl⟩ := q2.isSlice
      have e0 : wr.cell? ⟨b, 0, none⟩ = some (.slice a0 0 c0) := by rw [cell_blk q1]; rfl
      clear q1 q2
      have hke := wk_end ys k hdr hk
      go_wp2
      go_ret
      refine ⟨_, rfl, ?_, by rw [← hke, hdr]; exact HD.out, hT, fun h => hnil (by have h2 := congrArg List.length h; rw [← hke, List.length_map, List.length_take, Nat.min_eq_left (by rw [hke]; exact wk_le ys)] at h2; exact h2)⟩
      rw [← hke, List.length_map, List.length_take, List.map_map, List.map_take, Nat.min_eq_left (by rw [hke]; exact wk_le ys)]
      exact hown
    | cons y rest =>
      obtain ⟨g', off', cap', hgo, rfl, e1, e2⟩ := q2.cells 0 (by simp)
      cases hgo
      simp only [Nat.zero_mul, Nat.add_zero, List.getElem_cons_zero] at e1 e2
      have e0 : wr.cell? ⟨b, 0, none⟩ = some (.slice (some ⟨g, off', none⟩) (rest.length + 1) cap') := by rw [cell_blk q1]; rfl
      have HP := Lib.hid q2
      have b1 : 0 < (rest.length : Int) + 1 := by omega
      clear q1 q2
      by_cases h0 : y.2 = 0
      · rw [h0] at e2
        have hs := wk_step ys rest y k hdr h0 hk
        have f0 : wr.frozen? ⟨b, 0, none⟩ = false := free_blk Hq1.out 0
        go_wp2_with (at_builtin; refine wpList_append_own _ rfl (.tmp 40) (.tmp 48) 43 rfl w.heap.size 3 i0 (.int .i64 0) 1 8 Tryd.underlying43 hi hz0 hz1 hz2 rfl (by decide) _ _ _ rfl (hown.alloc _) ⟨wr.heap.size, 0, none⟩ 1 1 [.int .i64 y.1] rfl rfl ?c1 ?c2 ?c3 ?c4 ?c5 ?_)
        case c1 =>
          intro j u hj
          match j, hj with
          | 0, hj => simp at hj; subst hj; simp [Addr.add]
        case c2 => intro u hu; simp at hu; subst hu; rfl
        case c3 => have := wk_le ys; unfold maxLen; omega
        case c4 => have := wk_le ys; omega
        case c5 => have := hT.size; simp; omega
        intro v' w1 hown' hgrow _
        have HB1 : ∀ (o c : Nat), PS wr (.slice (some ⟨g, o, none⟩) rest.length c) (some g) rest → ((w1.setCell ⟨b, 0, none⟩ (.slice (some ⟨g, o, none⟩) rest.length c)).ownsRow w.heap.size 3 1 v' (k + 1) ((ys.map fun x => .int .i64 x.1).take (k + 1)) ∧
            DL (w1.setCell ⟨b, 0, none⟩ (.slice (some ⟨g, o, none⟩) rest.length c)) b (some g) rest ∧ Tch (fun k => k = b ∨ some g = some k) w (w1.setCell ⟨b, 0, none⟩ (.slice (some ⟨g, o, none⟩) rest.length c))) ∧
            ml b (w1.setCell ⟨b, 0, none⟩ (.slice (some ⟨g, o, none⟩) rest.length c)) = rest.length := by
          intro o c hP
          have hsz := hT.size
          have hne : ∀ j, j < w.heap.size → w1.heap[j]? = wr.heap[j]? := fun j hj => (hgrow.block j (by simp; omega) (fun e => by have := (hown.lt j e.symm).1; omega)).trans (Below.heap_alloc _ _ _ (by omega))
          have hb2 := blk_setCell ((hne b hbl).trans Hq1.out) 0 (.slice (some ⟨g, o, none⟩) rest.length c)
          refine ⟨⟨?_, ⟨⟨.slice (some ⟨g, o, none⟩) rest.length c, by rw [hb2]; simp, ?_⟩, fun g' e => by cases e; exact hgb⟩, ?_⟩, ?_⟩
          · rw [hs.2.2]
            exact hown'.kept (grownBy_setCell' _ _ _) (by cases hv : v'.ownBlock with | none => exact Or.inl rfl | some q => exact Or.inr (fun e => by cases e; have := (hown'.lt b hv).1; omega))
          · exact hP.of_heap ((blk_setCell_other _ _ hgb).trans (hne g hgl))
          · exact ((hT.alloc _).grown hgrow (fun q e h => by have := (hown.lt q e).1; omega)).setCell (p := ⟨b, 0, none⟩) (fun _ => Or.inl rfl) _
          · unfold ml; rw [cell_blk hb2]; rfl
        have HB2 := HB1 _ _ HP.out.tail
        have HB3 := fun h => HB1 _ _ (HP.out.tail0 h)
        have HM : ml b wr = rest.length + 1 := by unfold ml; rw [e0]
        have HX := Lib.hid (And.intro HB2 (And.intro HB3 HM))
        clear HB1 HB2 HB3 HM
        have d0 : w1.cell? ⟨b, 0, none⟩ = some (.slice (some ⟨g, off', none⟩) (rest.length + 1) cap') := by
          have hsz := hT.size
          rw [cell_blk ((hgrow.block b (by simp; omega) (fun e => by have := (hown.lt b e.symm).1; omega)).trans ((Below.heap_alloc _ _ _ (by omega)).trans Hq1.out))]; rfl
        have d1 : w1.frozen? ⟨b, 0, none⟩ = false := by
          have hsz := hT.size
          exact free_blk ((hgrow.block b (by simp; omega) (fun e => by have := (hown.lt b e.symm).1; omega)).trans ((Below.heap_alloc _ _ _ (by omega)).trans Hq1.out)) 0
        clear hown' hgrow hown hT e0 e1 e2 f0 hz0 hz1 hz2 hi
        go_wp2
        all_goals go_roundw
        all_goals first
          | exact ⟨k + 1, hs.1, HX.out.1.1.1, by rw [hs.2.1]; exact HX.out.1.1.2.1, HX.out.1.1.2.2.mono (fun _ _ h => by simpa using h), by omega⟩
          | exact ⟨k + 1, hs.1, (HX.out.2.1 (by first | assumption | omega)).1.1, by rw [hs.2.1]; exact (HX.out.2.1 (by first | assumption | omega)).1.2.1, (HX.out.2.1 (by first | assumption | omega)).1.2.2.mono (fun _ _ h => by simpa using h), by omega⟩
          | (rw [HX.out.2.2, HX.out.1.2]; omega)
          | (rw [HX.out.2.2, (HX.out.2.1 (by first | assumption | omega)).2]; omega)
      · have hke := wk_stop ys rest y k hdr h0 hk
        go_wp2
        go_ret
        refine ⟨_, rfl, ?_, by rw [← hke, hdr]; exact HD.out, hT, fun h => hnil (by have h2 := congrArg List.length h; rw [← hke, List.length_map, List.length_take, Nat.min_eq_left (by rw [hke]; exact wk_le ys)] at h2; exact h2)⟩
        rw [← hke, List.length_map, List.length_take, List.map_map, List.map_take, Nat.min_eq_left (by rw [hke]; exact wk_le ys)]
        exact hown
end Go.Proofs.YtllfkgdmneabiaaDoor
