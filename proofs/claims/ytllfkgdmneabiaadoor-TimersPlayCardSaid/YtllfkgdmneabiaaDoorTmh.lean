/- The calls on alarms. -/
import Derived.Test.YtllfkgdmneabiaaDoorHq
import Derived.Test.YtllfkgdmneabiaaDoorOwn
import Derived.Test.YtllfkgdmneabiaaDoorTmp
import Derived.Maps.OwnOps
import Derived.Maps.OwnSet
import Derived.WalkArith
set_option linter.unusedVariables false
set_option linter.unusedSimpArgs false
namespace Go.Proofs.YtllfkgdmneabiaaDoor
open Go.RowKit Go.Shelf Go.Maps
attribute [local go_sem] Oper.semAt_some

theorem lawi : Keyed Tryd.prog 3 := int_keyed Tryd.underlying3
theorem zeroi (w : World) : (zeroValue 2).run Tryd.prog w = .ok (.int .i64 0) w := by kernel_rfl

/-- A map of numbers: what is at each key; 0: nothing. -/
def Mp (b n : Nat) (f : Int → Int) : Thing where
  at_ w S := (∃ D : DataW Unit, w.ownsMap Tryd.prog 3 (plainElem Tryd.prog 2) b n D ∧ ∀ k : Int, D.atKey (.int .i64 k) (.lit (.int .i64 0)) = .lit (.int .i64 (f k))) ∧ S = fun k => k = b
  lt := by rintro w S ⟨⟨D, h, _⟩, rfl⟩ k rfl; exact h.lt
  keeps := by
    rintro w w' S T ⟨⟨D, h, hd⟩, rfl⟩ ht hn
    have hlt := h.lt
    obtain ⟨es, clock, hb, F, hs, hD⟩ := h
    exact ⟨⟨D, ⟨es, clock, (ht.block b hlt (hn b rfl)).trans hb, F, hs, hD⟩, hd⟩, rfl⟩
/-- What alarms are made of. -/
def Als (b lb mb : Nat) : Thing where
  at_ w S := w.heap[b]? = some (.cells #[.pointer (some ⟨lb, 0, none⟩), .map (some mb)] 53 (0, 0)) ∧ S = fun k => k = b
  lt := by rintro w S ⟨h, rfl⟩ k rfl; exact blk_lt h
  keeps := by
    rintro w w' S T ⟨h, rfl⟩ ht hn
    exact ⟨(ht.block b (blk_lt h) (hn b rfl)).trans h, rfl⟩

theorem mp_new {w0 w : World} {r : List Thing} (h : Hp w0 w r) : Hp w0 (w.alloc (.map #[] 0)) (Mp w.heap.size 0 (fun _ => 0) :: r) :=
  h.add ((Tch.refl _ w).alloc _) (U := fun k => k = w.heap.size) ⟨⟨_, World.ownsMap_made _ _ _ _, fun _ => rfl⟩, rfl⟩ (fun k hk => by subst hk; exact Nat.le_refl _)
theorem als_new {w0 w : World} {r : List Thing} (h : Hp w0 w r) (lb mb : Nat) : Hp w0 (w.alloc (.cells #[.pointer (some ⟨lb, 0, none⟩), .map (some mb)] 53)) (Als w.heap.size lb mb :: r) :=
  h.add ((Tch.refl _ w).alloc _) (U := fun k => k = w.heap.size) ⟨blk_alloc_new w _, rfl⟩ (fun k hk => by subst hk; exact Nat.le_refl _)
theorem als_cells {w0 w : World} {r : List Thing} {b lb mb : Nat} (h : Hp w0 w (Als b lb mb :: r)) : w.cell? ⟨b, 0, none⟩ = some (.pointer (some ⟨lb, 0, none⟩)) ∧ w.cell? ⟨b, 1, none⟩ = some (.map (some mb)) := by
  obtain ⟨S, ⟨h1, _⟩, _⟩ := h.lay
  exact ⟨by rw [cell_blk h1]; rfl, by rw [cell_blk h1]; rfl⟩
theorem mp_get {w0 w : World} {r : List Thing} {b n : Nat} {f : Int → Int} (h : Hp w0 w (Mp b n f :: r)) : ∃ D : DataW Unit, w.ownsMap Tryd.prog 3 (plainElem Tryd.prog 2) b n D ∧ ∀ k : Int, D.atKey (.int .i64 k) (.lit (.int .i64 0)) = .lit (.int .i64 (f k)) := by
  obtain ⟨S, ⟨h1, _⟩, _⟩ := h.lay
  exact h1
theorem tch_of_grown {w w' : World} {b : Nat} (h : w.grownBy w' (some b)) : Tch (fun k => k = b) w w' :=
  ⟨h.os, h.tape, h.output, h.size, fun k hk hn => h.block k hk (fun e => hn (by injection e))⟩
theorem mp_turn {w0 w w' : World} {r : List Thing} {b n n' : Nat} {f f' : Int → Int} {D' : DataW Unit} (h : Hp w0 w (Mp b n f :: r)) (hg : w.grownBy w' (some b)) (ho : w'.ownsMap Tryd.prog 3 (plainElem Tryd.prog 2) b n' D') (hat : ∀ k : Int, D'.atKey (.int .i64 k) (.lit (.int .i64 0)) = .lit (.int .i64 (f' k))) : Hp w0 w' (Mp b n' f' :: r) := by
  obtain ⟨S, ⟨h1, rfl⟩, h2, h3⟩ := h.lay
  exact Hp.step (t' := Mp b n' f') (S := fun k => k = b) (S' := fun k => k = b) h.below (fun k hk => (h2 k hk).1) h3 (tch_of_grown hg) ⟨⟨D', ho, hat⟩, rfl⟩ (fun k hk => Or.inl hk)
theorem at_put {n : Nat} {b : Nat} {w : World} {D : DataW Unit} (h : w.ownsMap Tryd.prog 3 (plainElem Tryd.prog 2) b n D) {f : Int → Int} (hat : ∀ k : Int, D.atKey (.int .i64 k) (.lit (.int .i64 0)) = .lit (.int .i64 (f k))) (id e : Int) (k : Int) :
    (D.put (.int .i64 id) (.lit (.int .i64 e))).atKey (.int .i64 k) (.lit (.int .i64 0)) = .lit (.int .i64 (upd f id e k)) := by
  by_cases hk : k = id
  · subst hk; rw [atKey_put_same (k := .int .i64 k) h.isMap trivial]; simp [upd]
  · rw [atKey_put_other (fun h => hk (by injection h)), hat]; simp [upd, hk]
theorem at_del {D : DataW Unit} {f : Int → Int} (hat : ∀ k : Int, D.atKey (.int .i64 k) (.lit (.int .i64 0)) = .lit (.int .i64 (f k))) (id : Int) (k : Int) :
    (D.del (.int .i64 id)).atKey (.int .i64 k) (.lit (.int .i64 0)) = .lit (.int .i64 (upd f id 0 k)) := by
  by_cases hk : k = id
  · subst hk; rw [atKey_del_same]; simp [upd]
  · rw [atKey_del_other (fun h => hk (by injection h)), hat]; simp [upd, hk]

set_option maxHeartbeats 1000000 in
theorem new_al {w0 w : World} {r : List Thing} (h : Hp w0 w r) :
    Calls Tryd.prog 5 #[] w fun e w' => ∃ b lb mb, e = .returned (.pointer (some ⟨b, 0, none⟩)) ∧ Hp w0 w' (Als b lb mb :: Slp lb [] :: Mp mb 0 (fun _ => 0) :: r) := by
  go_enter Tryd.func5, Tryd.ntmps5
  go_wp2_with fail
  refine (new_h h).mono ?_; rintro e w1 ⟨lb, rfl, H1⟩
  have hmm := @run_makeMap Tryd.prog
  go_wp2
  go_ret
  have H2 := als_new (mp_new H1).up1 lb w1.heap.size
  rw [show (w1.alloc (.map #[] 0)).heap.size = w1.heap.size + 1 from Array.size_push _] at H2
  exact ⟨_, lb, _, rfl, H2⟩
set_option maxHeartbeats 400000 in
theorem there_al (w : World) (b lb : Nat) (h : w.cell? ⟨b, 0, none⟩ = some (.pointer (some ⟨lb, 0, none⟩))) :
    Calls Tryd.prog 19 #[.pointer (some ⟨b, 0, none⟩)] w fun e w' => e = .returned (.bool true) ∧ w = w' := by
  go_enter Tryd.func19, Tryd.ntmps19
  go_wp2
  go_ret
  exact ⟨rfl, rfl⟩
set_option maxHeartbeats 400000 in
theorem there_no (w : World) :
    Calls Tryd.prog 19 #[.pointer none] w fun e w' => e = .returned (.bool false) ∧ w = w' := by
  go_enter Tryd.func19, Tryd.ntmps19
  go_wp2
  go_ret
  exact ⟨rfl, rfl⟩

/-- Whoever it is, they do not sleep any more. -/
theorem remove_any {w0 w : World} {r : List Thing} {b : Nat} {l : List (Int × Int)} (who : Int) (h : Hp w0 w (Slp b l :: r)) (ho : Ok l) (hl : l.length < 99999) :
    Calls Tryd.prog 20 #[.pointer (some ⟨b, 0, none⟩), .int .i64 who] w fun e w' => ∃ c, e = .returned (.int .i64 c) ∧ Hp w0 w' (Slp b (but l who) :: r) := by
  by_cases hm : who ∈ l.map Prod.fst
  · exact (remove_h who h ho hl hm).mono fun e w' ⟨h1, h2⟩ => ⟨0, h1, h2⟩
  · exact (remove_arg_h who h hl hm).mono fun e w' ⟨h1, h2⟩ => ⟨1, h1, by rw [but_id hm]; exact h2⟩

set_option maxHeartbeats 2000000 in
theorem start_ok {w0 w : World} {r : List Thing} {b lb mb m : Nat} {l : List (Int × Int)} {f : Int → Int} (id n e : Int) (h : Hp w0 w (Als b lb mb :: Slp lb l :: Mp mb m f :: r)) (ha : Al l f) (hl : l.length < 9999) (hm : m < 99999)
    (h0 : 0 ≤ id) (hw : (Lit.int .i64 id).wf = true) (h1 : 1 ≤ n) (h2 : n ≤ 1073741824) (h3 : 0 ≤ e) (h4 : e ≤ 1073741824) :
    Calls Tryd.prog 7 #[.pointer (some ⟨b, 0, none⟩), .int .i64 id, .int .i64 n, .int .i64 e] w fun x w' => x = .returned (.int .i64 0) ∧ Hp w0 w' (Als b lb mb :: Slp lb (ins (but l id) id n) :: Mp mb (m + 1) (upd f id e) :: r) := by
  obtain ⟨e0, e1⟩ := als_cells h
  have c0 : ¬ id < 0 := by omega
  have c1 : ¬ n < 1 := by omega
  have c2 : ¬ n > 1073741824 := by omega
  have c3 : ¬ e < 0 := by omega
  have c4 : ¬ e > 1073741824 := by omega
  go_enter Tryd.func7, Tryd.ntmps7
  go_wp2_with fail
  refine (there_al w b lb e0).mono ?_; rintro x w' ⟨rfl, rfl⟩
  go_wp2_with fail
  refine (remove_any id (h.pull 1 rfl) ha.ok (by omega)).mono ?_; rintro x w1 ⟨c, rfl, H1⟩
  clear e0 e1
  obtain ⟨e0, e1⟩ := als_cells (H1.pull 1 rfl)
  obtain ⟨D, hD, hat⟩ := mp_get (H1.pull 2 rfl)
  go_wp2_with (at_mapUpdate; refine wpList_mapUpdate_own _ rfl _ _ _ 51 rfl 3 2 lawi Tryd.underlying51 _ mb m D rfl hD (by unfold maxLen; omega) _ _ _ rfl rfl (keyOf_int_mk Tryd.underlying3 hw) _ [] (plainElem_int Tryd.underlying2 (WalkArith.wf_i64 (by omega))) ?_)
  intro w2 hown hgrow
  have H2 := mp_turn (H1.pull 2 rfl) hgrow hown (at_put hD hat id e)
  clear e0 e1 hown hgrow hD hat H1 h
  obtain ⟨e0, e1⟩ := als_cells (H2.pull 2 rfl)
  go_wp2_with fail
  refine (put_h id n (H2.pull 1 rfl) (ok_but ha.ok _) (by have := but_le l id; omega) (but_notin _ _) h0 h1 h2).mono ?_; rintro x w3 ⟨rfl, H3⟩
  go_wp2
  go_ret
  exact ⟨rfl, H3.pull 2 rfl |>.pull 1 rfl |>.up1⟩
set_option maxHeartbeats 1000000 in
theorem start_arg {w0 w : World} {r : List Thing} {b lb mb : Nat} (id n e : Int) (h : Hp w0 w (Als b lb mb :: r)) (h0 : id < 0) :
    Calls Tryd.prog 7 #[.pointer (some ⟨b, 0, none⟩), .int .i64 id, .int .i64 n, .int .i64 e] w fun x w' => x = .returned (.int .i64 1) ∧ Hp w0 w' (Als b lb mb :: r) := by
  obtain ⟨e0, e1⟩ := als_cells h
  go_enter Tryd.func7, Tryd.ntmps7
  go_wp2_with fail
  refine (there_al w b lb e0).mono ?_; rintro x w' ⟨rfl, rfl⟩
  go_wp2
  go_ret
  exact ⟨rfl, h⟩
set_option maxHeartbeats 1000000 in
theorem start_range {w0 w : World} {r : List Thing} {b lb mb : Nat} (id n e : Int) (h : Hp w0 w (Als b lb mb :: r)) (h0 : 0 ≤ id) (hb : badS id n e) :
    Calls Tryd.prog 7 #[.pointer (some ⟨b, 0, none⟩), .int .i64 id, .int .i64 n, .int .i64 e] w fun x w' => x = .returned (.int .i64 4) ∧ Hp w0 w' (Als b lb mb :: r) := by
  obtain ⟨e0, e1⟩ := als_cells h
  have c0 : ¬ id < 0 := by omega
  unfold badS at hb
  go_enter Tryd.func7, Tryd.ntmps7
  go_wp2_with fail
  refine (there_al w b lb e0).mono ?_; rintro x w' ⟨rfl, rfl⟩
  by_cases d1 : n < 1
  · go_wp2
    go_ret
    exact ⟨rfl, h⟩
  · by_cases d2 : n > 1073741824
    · go_wp2
      go_ret
      exact ⟨rfl, h⟩
    · by_cases d3 : e < 0
      · go_wp2
        go_ret
        exact ⟨rfl, h⟩
      · have d4 : e > 1073741824 := by omega
        go_wp2
        go_ret
        exact ⟨rfl, h⟩
set_option maxHeartbeats 1000000 in
theorem start_no (w : World) (id n e : Int) :
    Calls Tryd.prog 7 #[.pointer none, .int .i64 id, .int .i64 n, .int .i64 e] w fun x w' => x = .returned (.int .i64 2) ∧ w = w' := by
  go_enter Tryd.func7, Tryd.ntmps7
  go_wp2_with fail
  refine (there_no w).mono ?_; rintro x w' ⟨rfl, rfl⟩
  go_wp2
  go_ret
  exact ⟨rfl, rfl⟩

set_option maxHeartbeats 1000000 in
theorem stop_ok {w0 w : World} {r : List Thing} {b lb mb m : Nat} {l : List (Int × Int)} {f : Int → Int} (id : Int) (h : Hp w0 w (Als b lb mb :: Slp lb l :: Mp mb m f :: r)) (ha : Al l f) (hl : l.length < 9999) (hw : (Lit.int .i64 id).wf = true) (hi : id ∈ l.map Prod.fst) :
    Calls Tryd.prog 9 #[.pointer (some ⟨b, 0, none⟩), .int .i64 id] w fun x w' => x = .returned (.int .i64 0) ∧ Hp w0 w' (Als b lb mb :: Slp lb (but l id) :: Mp mb m (upd f id 0) :: r) := by
  obtain ⟨e0, e1⟩ := als_cells h
  go_enter Tryd.func9, Tryd.ntmps9
  go_wp2_with fail
  refine (there_al w b lb e0).mono ?_; rintro x w' ⟨rfl, rfl⟩
  go_wp2_with fail
  refine (remove_h id (h.pull 1 rfl) ha.ok (by omega) hi).mono ?_; rintro x w1 ⟨rfl, H1⟩
  clear e0 e1
  obtain ⟨e0, e1⟩ := als_cells (H1.pull 1 rfl)
  obtain ⟨D, hD, hat⟩ := mp_get (H1.pull 2 rfl)
  go_wp2_with (at_delete; refine wpList_delete_own _ rfl _ _ 51 3 rfl 2 lawi Tryd.underlying51 _ mb m D rfl hD _ _ rfl (keyOf_int_mk Tryd.underlying3 hw) ?_)
  intro w2 hown hturn
  have H2 := mp_turn (H1.pull 2 rfl) hturn.grown hown (at_del hat id)
  go_wp2
  go_ret
  exact ⟨rfl, H2.pull 1 rfl |>.pull 2 rfl⟩
set_option maxHeartbeats 1000000 in
theorem stop_state {w0 w : World} {r : List Thing} {b lb mb : Nat} {l : List (Int × Int)} (id : Int) (h : Hp w0 w (Als b lb mb :: Slp lb l :: r)) (hl : l.length < 9999) (hi : id ∉ l.map Prod.fst) :
    Calls Tryd.prog 9 #[.pointer (some ⟨b, 0, none⟩), .int .i64 id] w fun x w' => x = .returned (.int .i64 7) ∧ Hp w0 w' (Als b lb mb :: Slp lb l :: r) := by
  obtain ⟨e0, e1⟩ := als_cells h
  go_enter Tryd.func9, Tryd.ntmps9
  go_wp2_with fail
  refine (there_al w b lb e0).mono ?_; rintro x w' ⟨rfl, rfl⟩
  go_wp2_with fail
  refine (remove_arg_h id (h.pull 1 rfl) (by omega) hi).mono ?_; rintro x w1 ⟨rfl, H1⟩
  go_wp2
  go_ret
  exact ⟨rfl, H1.up1⟩
set_option maxHeartbeats 1000000 in
theorem left_al {w0 w : World} {r : List Thing} {b lb mb : Nat} {l : List (Int × Int)} (id : Int) (h : Hp w0 w (Als b lb mb :: Slp lb l :: r)) (ho : Ok l) (hl : l.length < 9999) :
    Calls Tryd.prog 15 #[.pointer (some ⟨b, 0, none⟩), .int .i64 id] w fun x w' => x = .returned (.int .i64 (lf l id).1) ∧ Hp w0 w' (Als b lb mb :: Slp lb l :: r) := by
  obtain ⟨e0, e1⟩ := als_cells h
  go_enter Tryd.func15, Tryd.ntmps15
  go_wp2_with fail
  refine (there_al w b lb e0).mono ?_; rintro x w' ⟨rfl, rfl⟩
  go_wp2_with fail
  refine (left_h id (h.pull 1 rfl) ho (by omega)).mono ?_; rintro x w1 ⟨rfl, H1⟩
  go_wp2
  go_ret
  exact ⟨rfl, H1.up1⟩
set_option maxHeartbeats 1000000 in
theorem left_no (w : World) (id : Int) :
    Calls Tryd.prog 15 #[.pointer none, .int .i64 id] w fun x w' => x = .returned (.int .i64 0) ∧ w = w' := by
  go_enter Tryd.func15, Tryd.ntmps15
  go_wp2_with fail
  refine (there_no w).mono ?_; rintro x w' ⟨rfl, rfl⟩
  go_wp2
  go_ret
  exact ⟨rfl, rfl⟩

theorem ints_cell {w0 w : World} {r : List Thing} {v : Value} {zs : List Int} (h : Hp w0 w (Ints v zs :: r)) (j : Nat) (hj : j < zs.length) : ∃ g off c, v = .slice (some ⟨g, off, none⟩) zs.length c ∧ w.cell? ⟨g, off + j, none⟩ = some (.int .i64 zs[j]) := by
  obtain ⟨S, h1, _⟩ := h.lay
  rcases h1 with ⟨rfl, rfl, _⟩ | ⟨g, off, c, o, e, _, h2, _⟩
  · simp at hj
  · exact ⟨g, off, c, e, h2 j hj⟩
theorem ints_slice {w0 w : World} {r : List Thing} {v : Value} {zs : List Int} (h : Hp w0 w (Ints v zs :: r)) : ∃ a c, v = .slice a zs.length c := by
  obtain ⟨S, h1, _⟩ := h.lay
  rcases h1 with ⟨rfl, rfl, _⟩ | ⟨g, off, c, o, e, _, h2, _⟩
  · exact ⟨_, _, rfl⟩
  · exact ⟨_, _, e⟩

/-- What may come again. -/
structure Ag (l : List (Int × Int)) (zs : List Int) (f : Int → Int) : Prop where
  ok : Ok l
  fb : ∀ x, 0 ≤ f x ∧ f x ≤ 1073741824
  nd : zs.Nodup
  apart : ∀ x ∈ zs, x ∉ l.map Prod.fst
  zw : ∀ x ∈ zs, 0 ≤ x ∧ (Lit.int .i64 x).wf = true
theorem ag_of {l : List (Int × Int)} {f : Int → Int} (h : Al l f) : Ag (less l) (wake l) f :=
  ⟨ok_less h.ok, h.fb, wake_nd h.ok, wake_apart h.ok, fun x hx => h.nn _ (mem_wake.1 hx)⟩
theorem ag_step {l : List (Int × Int)} {zs : List Int} {f : Int → Int} (h : Ag l zs f) (k : Nat) (hk : k < zs.length) : Ok (again f l (zs.take k)) ∧ zs[k] ∉ (again f l (zs.take k)).map Prod.fst ∧ again f l (zs.take (k + 1)) = if 0 < f zs[k] then ins (again f l (zs.take k)) zs[k] (f zs[k]) else again f l (zs.take k) := by
  refine ⟨ok_again h.fb h.ok (h.nd.sublist (List.take_sublist _ _)) (fun x hx => h.apart x (List.mem_of_mem_take hx)), fun hm => ?_, ?_⟩
  · rcases again_fst hm with h1 | h1
    · exact h.apart _ (List.getElem_mem hk) h1
    · obtain ⟨i, hi, e⟩ := List.getElem_of_mem h1
      rw [List.length_take] at hi
      rw [List.getElem_take] at e
      have := (List.getElem_inj h.nd).1 e
      omega
  · rw [List.take_succ_eq_append_getElem hk, again_snoc]

set_option maxHeartbeats 4000000 in
theorem again_al {w0 w : World} {r : List Thing} {b lb mb m : Nat} {l : List (Int × Int)} {f : Int → Int} {v : Value} {zs : List Int} (h : Hp w0 w (Ints v zs :: Als b lb mb :: Slp lb l :: Mp mb m f :: r)) (ha : Ag l zs f) (hl : l.length < 9999) (hz : zs.length < 9999) :
    Calls Tryd.prog 24 #[.pointer (some ⟨b, 0, none⟩), v] w fun x w' => x = .returned (.tuple #[]) ∧ Hp w0 w' (Ints v zs :: Als b lb mb :: Slp lb (again f l zs) :: Mp mb m f :: r) := by
  obtain ⟨av, cv, rfl⟩ := ints_slice h
  have hA := Lib.hid ha
  go_enter Tryd.func24, Tryd.ntmps24
  go_wp2_with fail
  go_loopw [9] (fun i wr => ∃ k : Nat, k ≤ zs.length ∧ i = .int .i64 k ∧ Hp w0 wr (Ints (.slice av zs.length cv) zs :: Als b lb mb :: Slp lb (again f l (zs.take k)) :: Mp mb m f :: r)) (fun i _ => zs.length - (intOf i).toNat)
  case atStart => exact ⟨0, Nat.zero_le _, rfl, h⟩
  case round =>
    obtain ⟨k, hk, rfl, H⟩ := hrel
    by_cases hlt : k < zs.length
    · obtain ⟨e0, e1⟩ := als_cells (H.pull 1 rfl)
      obtain ⟨D, hD, hat⟩ := mp_get (H.pull 3 rfl)
      obtain ⟨g, off, c, e2, e3⟩ := ints_cell H k hlt
      cases e2
      obtain ⟨s1, s2, s3⟩ := ag_step hA.out k hlt
      have s4 := hA.out.zw _ (List.getElem_mem hlt)
      have s5 := hA.out.fb zs[k]
      have s6 := again_len f (zs.take k) l
      rw [List.length_take] at s6
      have HS := Lib.hid s3
      clear s3
      have c1 : (k : Int) < (zs.length : Int) := by omega
      generalize again f l (zs.take k) = l1 at *
      generalize zs[k] = id at *
      by_cases hp : 0 < f id
      · have c2 : f id > 0 := hp
        go_wp2_with (at_lookup; refine wpList_lookup_own_int _ rfl _ _ 51 rfl 3 2 .i64 lawi Tryd.underlying51 Tryd.underlying2 (zeroi _) mb m D rfl hD _ _ rfl (keyOf_int_mk Tryd.underlying3 s4.2) ?_; intro n hn hwn; obtain rfl : n = f id := by rw [hat id] at hn; injection hn with h; injection h with h1 h2; exact h2.symm)
        refine (put_h id (f id) (H.pull 2 rfl) s1 (by omega) s2 s4.1 (by omega) s5.2).mono ?_; rintro x w1 ⟨rfl, H1⟩
        go_wp2
        go_roundw
        case rel => exact ⟨k + 1, by omega, by go_num, by rw [HS.out, if_pos hp]; exact H1.pull 2 rfl |>.pull 2 rfl⟩
        case measure => simp [intOf]; omega
      · have c2 : ¬ f id > 0 := hp
        go_wp2_with (first | (at_lookup; refine wpList_lookup_own_int _ rfl _ _ 51 rfl 3 2 .i64 lawi Tryd.underlying51 Tryd.underlying2 (zeroi _) mb m D rfl hD _ _ rfl (keyOf_int_mk Tryd.underlying3 s4.2) ?_; intro n hn hwn; obtain rfl : n = f id := by rw [hat id] at hn; injection hn with h; injection h with h1 h2; exact h2.symm) | (at_delete; refine wpList_delete_own _ rfl _ _ 51 3 rfl 2 lawi Tryd.underlying51 _ mb m D rfl hD _ _ rfl (keyOf_int_mk Tryd.underlying3 s4.2) ?_; intro w2 hown hturn))
        have hf : upd f id 0 = f := by
          funext x; unfold upd; split
          · rename_i e; subst e; omega
          · rfl
        have H2 := mp_turn (H.pull 3 rfl) hturn.grown hown (at_del hat id)
        rw [hf] at H2
        go_wp2
        go_roundw
        case rel => exact ⟨k + 1, by omega, by go_num, by rw [HS.out, if_neg hp]; exact H2.pull 3 rfl |>.pull 3 rfl |>.pull 3 rfl⟩
        case measure => simp [intOf]; omega
    · have hke : k = zs.length := by omega
      subst hke
      have c1 : ¬ (zs.length : Int) < (zs.length : Int) := by omega
      rw [List.take_length] at H
      go_wp2
      exact bodyPost_end (results_none rfl _ _ _) rfl ⟨rfl, H⟩
set_option maxHeartbeats 1000000 in
theorem tick_al {w0 w : World} {r : List Thing} {b lb mb m : Nat} {l : List (Int × Int)} {f : Int → Int} (h : Hp w0 w (Als b lb mb :: Slp lb l :: Mp mb m f :: r)) (ha : Al l f) (hl : l.length < 9000) :
    Calls Tryd.prog 11 #[.pointer (some ⟨b, 0, none⟩)] w fun x w' => ∃ v, x = .returned v ∧ Hp w0 w' (Ints v (wake l) :: Als b lb mb :: Slp lb (tk f l) :: Mp mb m f :: r) ∧ (wake l = [] → v = .slice none 0 0) := by
  obtain ⟨e0, e1⟩ := als_cells h
  have hwl := wl_len l
  go_enter Tryd.func11, Tryd.ntmps11
  go_wp2_with fail
  refine (there_al w b lb e0).mono ?_; rintro x w' ⟨rfl, rfl⟩
  go_wp2_with fail
  refine (tick_h (h.pull 1 rfl) ha.ok (by omega)).mono ?_; rintro x w1 ⟨v, rfl, H1, hv⟩
  clear e0 e1
  go_wp2_with fail
  refine (again_al (H1.pull 2 rfl |>.pull 1 rfl) (ag_of ha) (by omega) (by omega)).mono ?_; rintro x w2 ⟨rfl, H2⟩
  go_wp2
  go_ret
  exact ⟨v, rfl, H2, hv⟩
theorem oi_cell {w0 w : World} {r : List Thing} {v : Value} {zs : List Int} (h : Hp w0 w (OwnI v zs :: r)) (j : Nat) (hj : j < zs.length) : ∃ g c, v = .slice (some ⟨g, 0, none⟩) zs.length c ∧ w.cell? ⟨g, j, none⟩ = some (.int .i64 zs[j]) :=
  own_cell h j _ (by simp [hj])
set_option maxHeartbeats 4000000 in
theorem again_ol {w0 w : World} {r : List Thing} {b lb mb m : Nat} {l : List (Int × Int)} {f : Int → Int} {v : Value} {zs : List Int} (h : Hp w0 w (OwnI v zs :: Als b lb mb :: Slp lb l :: Mp mb m f :: r)) (ha : Ag l zs f) (hl : l.length < 9999) (hz : zs.length < 9999) :
    Calls Tryd.prog 24 #[.pointer (some ⟨b, 0, none⟩), v] w fun x w' => x = .returned (.tuple #[]) ∧ Hp w0 w' (OwnI v zs :: Als b lb mb :: Slp lb (again f l zs) :: Mp mb m f :: r) := by
  obtain ⟨av, cv, rfl⟩ := own_slice h
  have hA := Lib.hid ha
  go_enter Tryd.func24, Tryd.ntmps24
  go_wp2_with fail
  go_loopw [9] (fun i wr => ∃ k : Nat, k ≤ zs.length ∧ i = .int .i64 k ∧ Hp w0 wr (OwnI (.slice av zs.length cv) zs :: Als b lb mb :: Slp lb (again f l (zs.take k)) :: Mp mb m f :: r)) (fun i _ => zs.length - (intOf i).toNat)
  case atStart => exact ⟨0, Nat.zero_le _, rfl, h⟩
  case round =>
    obtain ⟨k, hk, rfl, H⟩ := hrel
    by_cases hlt : k < zs.length
    · obtain ⟨e0, e1⟩ := als_cells (H.pull 1 rfl)
      obtain ⟨D, hD, hat⟩ := mp_get (H.pull 3 rfl)
      obtain ⟨g, c, e2, e3⟩ := oi_cell H k hlt
      obtain ⟨rfl, -, rfl⟩ := Value.slice.inj e2
      clear e2
      obtain ⟨s1, s2, s3⟩ := ag_step hA.out k hlt
      have s4 := hA.out.zw _ (List.getElem_mem hlt)
      have s5 := hA.out.fb zs[k]
      have s6 := again_len f (zs.take k) l
      rw [List.length_take] at s6
      have HS := Lib.hid s3
      clear s3
      have c1 : (k : Int) < (zs.length : Int) := by omega
      generalize again f l (zs.take k) = l1 at *
      generalize zs[k] = id at *
      by_cases hp : 0 < f id
      · have c2 : f id > 0 := hp
        go_wp2_with (at_lookup; refine wpList_lookup_own_int _ rfl _ _ 51 rfl 3 2 .i64 lawi Tryd.underlying51 Tryd.underlying2 (zeroi _) mb m D rfl hD _ _ rfl (keyOf_int_mk Tryd.underlying3 s4.2) ?_; intro n hn hwn; obtain rfl : n = f id := by rw [hat id] at hn; injection hn with h; injection h with h1 h2; exact h2.symm)
        refine (put_h id (f id) (H.pull 2 rfl) s1 (by omega) s2 s4.1 (by omega) s5.2).mono ?_; rintro x w1 ⟨rfl, H1⟩
        go_wp2
        go_roundw
        case rel => exact ⟨k + 1, by omega, by go_num, by rw [HS.out, if_pos hp]; exact H1.pull 2 rfl |>.pull 2 rfl⟩
        case measure => simp [intOf]; omega
      · have c2 : ¬ f id > 0 := hp
        go_wp2_with (first | (at_lookup; refine wpList_lookup_own_int _ rfl _ _ 51 rfl 3 2 .i64 lawi Tryd.underlying51 Tryd.underlying2 (zeroi _) mb m D rfl hD _ _ rfl (keyOf_int_mk Tryd.underlying3 s4.2) ?_; intro n hn hwn; obtain rfl : n = f id := by rw [hat id] at hn; injection hn with h; injection h with h1 h2; exact h2.symm) | (at_delete; refine wpList_delete_own _ rfl _ _ 51 3 rfl 2 lawi Tryd.underlying51 _ mb m D rfl hD _ _ rfl (keyOf_int_mk Tryd.underlying3 s4.2) ?_; intro w2 hown hturn))
        have hf : upd f id 0 = f := by
          funext x; unfold upd; split
          · rename_i e; subst e; omega
          · rfl
        have H2 := mp_turn (H.pull 3 rfl) hturn.grown hown (at_del hat id)
        rw [hf] at H2
        go_wp2
        go_roundw
        case rel => exact ⟨k + 1, by omega, by go_num, by rw [HS.out, if_neg hp]; exact H2.pull 3 rfl |>.pull 3 rfl |>.pull 3 rfl⟩
        case measure => simp [intOf]; omega
    · have hke : k = zs.length := by omega
      subst hke
      have c1 : ¬ (zs.length : Int) < (zs.length : Int) := by omega
      rw [List.take_length] at H
      go_wp2
      exact bodyPost_end (results_none rfl _ _ _) rfl ⟨rfl, H⟩
set_option maxHeartbeats 1000000 in
theorem tick_ol {w0 w : World} {r : List Thing} {b lb mb m : Nat} {l : List (Int × Int)} {f : Int → Int} (h : Hp w0 w (Als b lb mb :: Slp lb l :: Mp mb m f :: r)) (ha : Al l f) (hl : l.length < 9000) :
    Calls Tryd.prog 11 #[.pointer (some ⟨b, 0, none⟩)] w fun x w' => ∃ v, x = .returned v ∧ Hp w0 w' (OwnI v (wake l) :: Als b lb mb :: Slp lb (tk f l) :: Mp mb m f :: r) := by
  obtain ⟨e0, e1⟩ := als_cells h
  have hwl := wl_len l
  go_enter Tryd.func11, Tryd.ntmps11
  go_wp2_with fail
  refine (there_al w b lb e0).mono ?_; rintro x w' ⟨rfl, rfl⟩
  go_wp2_with fail
  refine (tick_o (h.pull 1 rfl) ha.ok (by omega)).mono ?_; rintro x w1 ⟨v, rfl, H1⟩
  clear e0 e1
  go_wp2_with fail
  refine (again_ol (H1.pull 2 rfl |>.pull 1 rfl) (ag_of ha) (by omega) (by omega)).mono ?_; rintro x w2 ⟨rfl, H2⟩
  go_wp2
  go_ret
  exact ⟨v, rfl, H2⟩
end Go.Proofs.YtllfkgdmneabiaaDoor
