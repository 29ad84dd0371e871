/- List.Remove, Tick and All. -/
import Derived.Test.YtllfkgdmneabiaaDoorSto
set_option linter.unusedVariables false
set_option linter.unusedSimpArgs false
namespace Go.Proofs.YtllfkgdmneabiaaDoor
open Go.RowKit Go.Shelf
attribute [local go_sem] Oper.semAt_some

theorem calls_of_wp_np {P : Program} {f : FuncId} {fn : Func} {c : Code} {args : Array Value} {w : World} {R : Ending → World → Prop} (hf : P.funcs[f]? = some fn) (hb : fn.body = some c)
    (h : c.wp P (NP (bodyPost P fn R)) { tmps := args ++ Array.replicate (fn.ntmps - args.size) undef, defers := [] } w) : Calls P f args w R :=
  calls_of_wp hf hb (wp_mono h fun e a w h => by cases e <;> first | exact h | exact h.elim)

/-- Somebody is removed from a place. -/
def rem (xs : List (Int × Int)) (k : Nat) (h : k < xs.length) : List (Int × Int) := xs.take k ++ dec (xs.drop (k + 1)) (-xs[k].2)

/-- What Remove leaves. -/
def RemPost (w : World) (b g : Nat) (ys : List (Int × Int)) (e : Ending) (w' : World) : Prop :=
  e = .returned (.int .i64 0) ∧ DL w' b (some g) ys ∧ Tch (fun k => k = b ∨ k = g) w w'

set_option maxHeartbeats 400000 in
theorem remove_arg (w : World) (b : Nat) (go : Option Nat) (xs : List (Int × Int)) (who : Int) (h : DL w b go xs) (hlen : xs.length < 99999) (hf : fi xs who < 0) :
    Calls Tryd.prog 20 #[.pointer (some ⟨b, 0, none⟩), .int .i64 who] w fun e w' => e = .returned (.int .i64 1) ∧ Tch Nil w w' := by
  have H := Lib.hid h
  clear h
  go_enter Tryd.func20, Tryd.ntmps20
  go_wp2_with fail
  refine (there_c _ _ _ _ H.out).mono ?_; rintro e w' ⟨rfl, rfl⟩
  go_wp2_with fail
  refine (find_c _ _ _ _ _ H.out (by omega)).mono ?_; rintro e w1 ⟨rfl, ht⟩
  go_wp2
  go_ret
  exact ⟨rfl, ht⟩

theorem rem_end (w W2 w2 : World) (b g : Nat) (v0 v2 : Value) (ys : List (Int × Int)) (hb : W2.heap[b]? = some (.cells #[v0, .bool true] 67 (0, 0))) (hgb : g ≠ b)
    (hT : Tch (fun k => k = b ∨ k = g) w W2) (hp : PS w2 v2 (some g) ys) (ht : Tch (fun k => k = g) W2 w2) :
    DL (w2.setCell ⟨b, 0, none⟩ v2) b (some g) ys ∧ Tch (fun k => k = b ∨ k = g) w (w2.setCell ⟨b, 0, none⟩ v2) := by
  have h1 := ht.keeps hb (fun e => hgb e.symm)
  have h2 := blk_setCell h1 0 v2
  refine ⟨⟨⟨v2, by rw [h2]; simp, hp.of_heap (blk_setCell_other _ _ hgb)⟩, fun g' e => by cases e; exact hgb⟩, ?_⟩
  exact (hT.trans ht (fun _ _ h => Or.inr h)).setCell (p := ⟨b, 0, none⟩) (fun _ => Or.inl rfl) _

set_option maxHeartbeats 4000000 in
theorem remove_ok (w : World) (b g : Nat) (xs : List (Int × Int)) (who : Int) (k : Nat) (hk : k < xs.length) (h : DL w b (some g) xs) (hg : Good xs) (hlen : xs.length < 99999) (hf : fi xs who = k) :
    Calls Tryd.prog 20 #[.pointer (some ⟨b, 0, none⟩), .int .i64 who] w (RemPost w b g (rem xs k hk)) := by
  have H := Lib.hid h
  clear h
  refine calls_of_wp_np Tryd.func20 rfl ?_
  simp only [Tryd.ntmps20, List.size_toArray, List.length_cons, List.length_nil, Nat.reduceAdd, Nat.reduceSub, Array.replicate_succ, Array.replicate_zero, List.push_toArray, List.append_toArray, List.nil_append, List.cons_append]
  go_wp2_with fail
  refine (there_c _ _ _ _ H.out).mono ?_; rintro e w' ⟨rfl, rfl⟩
  go_wp2_with fail
  refine (find_c _ _ _ _ _ H.out (by omega)).mono ?_; rintro e w1 ⟨rfl, ht⟩
  rw [hf]
  have HT := Lib.hid ht
  have H1 := Lib.hid (H.out.keeps ht id (fun _ _ => id))
  obtain ⟨v, q1, q2⟩ := H1.out.ex
  obtain ⟨g', off, cap, hgo, hv, e1, e2⟩ := q2.cells k hk
  cases hgo
  subst hv
  have e0 : w1.cell? ⟨b, 0, none⟩ = some (.slice (some ⟨g, off, none⟩) xs.length cap) := by rw [cell_blk q1]; rfl
  have Hq1 := Lib.hid q1
  have HP := Lib.hid q2
  have b0 : 0 ≤ (k : Int) := by omega
  have hw0 : IntKind.i64.wrap ((k : Int) + 1) = (k : Int) + 1 := by rw [IntKind.wrap_i64]; omega
  clear ht q1 q2
  have hgb := H1.out.apart g rfl
  have f0 : ∀ (W : World) (v : Value), W.heap[b]? = some (.cells #[v, .bool true] 67 (0, 0)) → (∃ u, W.cell? ⟨b, 0, none⟩ = some u) ∧ W.frozen? ⟨b, 0, none⟩ = false := fun W v h => ⟨⟨v, by rw [cell_blk h]; rfl⟩, free_blk h 0⟩
  by_cases hlt : k + 1 < xs.length
  · have c1 : ((k : Int) + 1) < (xs.length : Int) := by omega
    obtain ⟨g', off', cap', hgo, hv, _, e3⟩ := HP.out.cells (k + 1) hlt
    cases hgo
    cases hv
    have e4 : w1.cell? ⟨g, off + (k * 2 + 2) + 1, none⟩ = some (.int .i64 xs[k + 1].2) := by rw [show k * 2 + 2 = (k + 1) * 2 by omega]; exact e3
    have x1 := get_bd xs hg (k + 1) hlt
    have x2 := get_bd xs hg k hk
    have hw2 : IntKind.i64.wrap (xs[k + 1].2 + xs[k].2) = xs[k + 1].2 + xs[k].2 := by rw [IntKind.wrap_i64]; omega
    have f1 : w1.frozen? ⟨g, off + (k + 1) * 2 + 1, none⟩ = false := by
      obtain ⟨o', c', cu, y1, y2, y3, y4, y5, y6, _⟩ := HP.out
      exact free_blk y4 _
    have hn1 : ((k : Int) + 1).toNat = k + 1 := by omega
    clear x1 x2
    go_wp2_with fail
    go_region
    go_wp2_with fail
    have hq := (blk_setCell_other (w := w1) ⟨g, off + (k + 1) * 2 + 1, none⟩ (.int .i64 (xs[k + 1].2 + xs[k].2)) (Ne.symm hgb)).trans Hq1.out
    have hds := dec_set xs (k + 1) hlt (-xs[k].2)
    rw [Int.sub_neg] at hds
    have htk : (xs.set (k + 1) (xs[k + 1].1, xs[k + 1].2 + xs[k].2)).take k = xs.take k := by rw [List.take_set_of_le (by omega)]
    obtain ⟨W2, hW2, q3, p3, t3⟩ : ∃ W2 : World, W2 = (w1.setCell ⟨g, off + (k + 1) * 2 + 1, none⟩ (.int .i64 (xs[k + 1].2 + xs[k].2))).drew ∧ W2.heap[b]? = some (.cells #[.slice (some ⟨g, off, none⟩) xs.length cap, .bool true] 67 (0, 0)) ∧
        PS W2 (.slice (some ⟨g, off, none⟩) xs.length cap) (some g) (xs.set (k + 1) (xs[k + 1].1, xs[k + 1].2 + xs[k].2)) ∧ Tch (fun k => k = b ∨ k = g) w W2 :=
      ⟨(w1.setCell ⟨g, off + (k + 1) * 2 + 1, none⟩ (.int .i64 (xs[k + 1].2 + xs[k].2))).drew, rfl, hq, (PS.store1 HP.out hlt _).of_heap rfl, ((HT.out.mono (fun _ _ f => f.elim)).setCell (p := ⟨g, off + (k + 1) * 2 + 1, none⟩) (fun _ => Or.inr rfl) _).drew⟩
    rw [← hW2]
    clear hW2 hq
    refine (delete_ps _ _ _ _ k p3 (by rw [List.length_set]; exact hk)).mono ?_; rintro e w2 ⟨v2, rfl, hp, ht⟩
    obtain ⟨a2, c2, rfl⟩ := hp.isSlice
    have X := Lib.hid (rem_end w _ w2 b g _ _ _ q3 hgb t3 hp ht)
    obtain ⟨⟨u2, y1⟩, y2⟩ := f0 w2 _ (ht.keeps q3 (fun e => hgb e.symm))
    clear hp ht
    have hr : (xs.set (k + 1) (xs[k + 1].1, xs[k + 1].2 + xs[k].2)).take k ++ (xs.set (k + 1) (xs[k + 1].1, xs[k + 1].2 + xs[k].2)).drop (k + 1) = rem xs k hk := by unfold rem; rw [hds.2, htk]
    rw [hr] at X ⊢
    generalize (rem xs k hk).length = n2 at X ⊢
    go_wp2
    simp only [NP]
    refine bodyPost_ret (v := .int .i64 0) (by simp [results, Tryd.f20, go_sem]) rfl ⟨rfl, X.out⟩
  · have c1 : ¬ ((k : Int) + 1) < (xs.length : Int) := by omega
    go_wp2_with fail
    refine (delete_ps _ _ _ _ _ HP.out hk).mono ?_; rintro e w2 ⟨v2, rfl, hp, ht⟩
    obtain ⟨a2, c2, rfl⟩ := hp.isSlice
    have X := Lib.hid (rem_end w w1 w2 b g _ _ _ Hq1.out hgb (HT.out.mono (fun _ _ f => f.elim)) hp ht)
    obtain ⟨⟨u2, y1⟩, y2⟩ := f0 w2 _ (ht.keeps Hq1.out (fun e => hgb e.symm))
    clear hp ht
    have hr : xs.take k ++ xs.drop (k + 1) = rem xs k hk := by unfold rem; rw [List.drop_eq_nil_of_le (by omega)]; rfl
    rw [hr] at X ⊢
    generalize (rem xs k hk).length = n2 at X ⊢
    go_wp2
    simp only [NP]
    refine bodyPost_ret (v := .int .i64 0) (by simp [results, Tryd.f20, go_sem]) rfl ⟨rfl, X.out⟩
end Go.Proofs.YtllfkgdmneabiaaDoor
