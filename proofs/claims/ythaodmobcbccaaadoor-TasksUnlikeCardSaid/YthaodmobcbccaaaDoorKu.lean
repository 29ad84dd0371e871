/- A task as a line: the program's text, region by region. -/
import Derived.Test.YthaodmobcbccaaaDoorKt
import Derived.Lib.AppendStr
import Derived.Laws.IdiomStrings
import Derived.Laws.EntriesVeiled
import Derived.StillTailTactics
set_option linter.unusedVariables false
set_option linter.unusedSimpArgs false
namespace Go.Proofs.YthaodmobcbccaaaDoor
open Go.RowKit Go.Shelf
attribute [local go_sem] Oper.semAt_some

set_option maxHeartbeats 1000000 in
set_option maxRecDepth 20000 in
theorem appu_c (B : Nat) (w : World) (v : Value) (cs : List UInt8) (u : Nat) (hu : u < 18446744073709551616) (n : Nat) (hl : cs.length = n) (ho : w.ownsRow B 5 1 v n (Lib.byteCells cs)) (hB : B ≤ w.heap.size) (hc : n < 10000) (ht : Tb B w) :
    Calls Tryd.prog 19 #[v, .int .u64 u, .int .i64 10] w fun e w' => ∃ v' n', e = .returned v' ∧ w'.ownsRow B 5 1 v' n' (Lib.byteCells (cs ++ Lib.decDigits u)) ∧ (cs ++ Lib.decDigits u).length = n' ∧ n' ≤ n + 20 ∧ Below B w w' := by
  have H := Tryd.internal_strconv_AppendUint_10 B n u hu v (Lib.byteCells cs) w ho hB (by omega) (ht.here)
  go_enter Tryd.func19, Tryd.ntmps19
  go_wp2_with fail
  refine H.mono ?_; rintro e w' ⟨v', rfl, ho', hb, _⟩
  go_wp2
  go_ret
  exact ⟨v', n + (Lib.decDigits u).length, rfl, by rw [Lib.byteCells_append]; exact ho', by rw [List.length_append, hl], by have := dec_len u hu; omega, hb⟩

/-- The text so far: in a box at Bb. -/
structure Bf (w : World) (Bb : Nat) (v : Value) (n : Nat) (cs : List UInt8) : Prop where
  box : w.heap[Bb]? = some (.cells #[v] 37 (0, 0))
  own : w.ownsRow (Bb + 1) 5 1 v n (Lib.byteCells cs)
  len : cs.length = n
theorem Bf.lt {w : World} {Bb n : Nat} {v : Value} {cs : List UInt8} (h : Bf w Bb v n cs) : Bb < w.heap.size := (Array.getElem?_eq_some_iff.1 h.box).1
theorem Bf.cell {w : World} {Bb n : Nat} {v : Value} {cs : List UInt8} (h : Bf w Bb v n cs) : w.cell? ⟨Bb, 0, none⟩ = some v := by rw [cell_blk h.box]; rfl
/-- A new text is stored. -/
theorem Bf.store {w : World} {Bb n' : Nat} {v v' : Value} {cs' : List UInt8} (hb : w.heap[Bb]? = some (.cells #[v] 37 (0, 0))) (ho : w.ownsRow (Bb + 1) 5 1 v' n' (Lib.byteCells cs')) (hl : cs'.length = n') : Bf (w.setCell ⟨Bb, 0, none⟩ v') Bb v' n' cs' := by
  refine ⟨?_, ?_, hl⟩
  · rw [show (w.setCell ⟨Bb, 0, none⟩ v').heap[Bb]? = some (.cells (#[v].setIfInBounds 0 v') 37 (0, 0)) by simp [World.setCell, Array.getElem?_modify, hb]]; rfl
  · refine ho.kept (row := some Bb) ⟨rfl, rfl, rfl, by simp [World.setCell], fun j hj hne => Below.heap_setCell _ _ _ _ (fun e => hne (by rw [e]))⟩ ?_
    by_cases hn : v'.ownBlock = none
    · exact Or.inl hn
    · exact Or.inr (fun e => by have := (ho.lt Bb e).1; omega)
theorem Bf.alloc {w : World} {Bb n : Nat} {v : Value} {cs : List UInt8} (h : Bf w Bb v n cs) (o : Obj) : Bf (w.alloc o) Bb v n cs :=
  ⟨((Below.refl w.heap.size w).alloc (Nat.le_refl _) o).block Bb h.lt |>.trans h.box, h.own.alloc o, h.len⟩
/-- What a step on the text leaves: the box as it was, a new row. -/
theorem Bf.next {w w' : World} {Bb n n' : Nat} {v v' : Value} {cs cs' : List UInt8} (h : Bf w Bb v n cs) (hb : Below (Bb + 1) w w') (ho : w'.ownsRow (Bb + 1) 5 1 v' n' (Lib.byteCells cs')) (hl : cs'.length = n') : ∃ a c, v' = .slice a n' c ∧ w'.cell? ⟨Bb, 0, none⟩ = some v ∧ w'.frozen? ⟨Bb, 0, none⟩ = false ∧ Bf (w'.setCell ⟨Bb, 0, none⟩ v') Bb v' n' cs' ∧ Below Bb w (w'.setCell ⟨Bb, 0, none⟩ v') := by
  obtain ⟨a, c, rfl⟩ := own_shape ho
  have hbx := (hb.block Bb (Nat.lt_succ_self _)).trans h.box
  exact ⟨a, c, rfl, by rw [cell_blk hbx]; rfl, frz hbx 0, Bf.store hbx ho hl, (hb.mono (Nat.le_succ _)).setCell (Nat.le_refl _) _⟩

/-- Numbers go to the text. -/
theorem put_j {wx : World} {Bb n A c : Nat} {v : Value} {cs : List UInt8} (xs : List Int) (h : Bf wx Bb v n cs) (hn : n ≤ 1000) (ht : ∀ x, Below Bb wx x → Tb Bb x) (hA : A = wx.heap.size) (hwf : ∀ x ∈ xs, -9223372036854775808 ≤ x ∧ x < 9223372036854775808) (hxl : xs.length < 100) :
    Calls Tryd.prog 17 #[.slice (some ⟨A, 0, none⟩) xs.length c, .pointer (some ⟨Bb, 0, none⟩)] (wx.alloc (.cells (xs.map (Value.int .i64)).toArray 2)) fun e w' => e = .returned (.tuple #[]) ∧ ∃ v' n', Bf w' Bb v' n' (cs ++ nums xs) ∧ n' ≤ n + 22 * xs.length ∧ Below Bb wx w' := by
  subst hA
  have hB := h.alloc (.cells (xs.map (Value.int .i64)).toArray 2)
  have hG : Below Bb wx (wx.alloc (.cells (xs.map (Value.int .i64)).toArray 2)) := (Below.refl _ _).alloc (Nat.le_of_lt h.lt) _
  refine (put_c Bb _ Bb wx.heap.size c xs v cs (Nat.le_refl _) (ht _ hG) hB.box (by rw [hB.len]; exact hB.own) (MapKept.heap_alloc wx _).1 (by have := h.lt; omega) hwf hxl (by rw [h.len]; omega)).mono ?_
  rintro e w' ⟨rfl, v', hbx, ho, hb⟩
  refine ⟨rfl, v', _, ⟨hbx, ho, rfl⟩, ?_, hG.trans hb⟩
  have := nums_len hwf
  rw [List.length_append, h.len]; omega
/-- The text is told. -/
theorem conv_j {w : World} {Bb n : Nat} {v : Value} {cs : List UInt8} (h : Bf w Bb v n cs) (h0 : 0 < n) : (convert 37 9 v).run Tryd.prog w = .ok (str cs) w := by
  rcases h.own with ⟨e0, ⟨rfl, rfl⟩ | ⟨g, cap, cur, rfl, h2, h3, h4⟩⟩
  · omega
  · have hl := h.len
    subst hl
    refine run_convert_bytes_back w _ _ _ _ cap cs Tryd.underlying37 Tryd.underlying5 Tryd.underlying9 (fun j hj => ?_)
    exact h.own.cells (g := g) rfl j (.int .u8 (cs[j].toNat : Int)) (by simp [Lib.byteCells, hj])

set_option maxHeartbeats 8000000 in
set_option maxRecDepth 20000 in
theorem text_c (B0 : Nat) (w : World) (t : Tk) (hwf : TkWf t) (hB : B0 ≤ w.heap.size) (ht : Tb B0 w) :
    Calls Tryd.prog 9 #[.agg t.cells] w fun e w' => e = .returned (str (text t)) ∧ Below w.heap.size w w' := by
  obtain ⟨i0, hi, hz0, hz1, hz2⟩ := info_parts info_u8
  have HT := Lib.hid (show text t = if chk t then txt t else [] from rfl)
  have HX := Lib.hid (show txt t = Lib.itoa t.h ++ sw t.st ++ hw t.hd ++ num t.ba ++ num t.ra ++ mid t ++ num t.an ++ num t.la ++ num t.va from rfl)
  have HM := Lib.hid (show mid t = if t.st = 2 then num t.wh ++ num t.wH ++ num t.wV ++ num t.wM ++ num t.lf else [32, 45] from rfl)
  have hck := Lib.hid (fun w => check_c w t)
  have hst := @chk_st t
  have TB := Lib.hid ht
  have e_ba := Lib.hid (wfi64 hwf.ba)
  have e_ra := Lib.hid (wfi64 hwf.ra)
  have e_lf := Lib.hid (wfi64 hwf.lf)
  have e_an := Lib.hid (wfi64 hwf.an)
  have e_la := Lib.hid (wfi64 hwf.la)
  have e_wH := Lib.hid (i64_of32 hwf.wH)
  have e_wV := Lib.hid (i64_of32 hwf.wV)
  have e_wM := Lib.hid (i64_of32 hwf.wM)
  have e_va := Lib.hid (i64_of32 hwf.va)
  have e_wh := Lib.hid (i64_of8 hwf.wh)
  have c_wH := wrap_of (i64_of32 hwf.wH)
  have c_wV := wrap_of (i64_of32 hwf.wV)
  have c_wM := wrap_of (i64_of32 hwf.wM)
  have c_va := wrap_of (i64_of32 hwf.va)
  have c_wh := wrap_of (i64_of8 hwf.wh)
  obtain ⟨u, hu, hu2⟩ : ∃ u : Nat, t.h = u ∧ u < 4294967296 := ⟨t.h.toNat, by have := wfu32 hwf.h; omega, by have := wfu32 hwf.h; omega⟩
  have HU := Lib.hid (show Lib.itoa t.h = Lib.decDigits u by unfold Lib.itoa; rw [hu, if_neg (by omega)]; congr 1)
  have c_u : IntKind.u64.wrap (u : Int) = u := by rw [IntKind.wrap_u64]; omega
  clear hwf ht
  generalize text t = TX at *
  generalize txt t = TY at *
  generalize mid t = TM at *
  obtain ⟨h, st, hd, ba, ra, wh, wH, wV, wM, ww, lf, an, la, va⟩ := t
  unfold Tk.cells at *
  simp only at *
  subst hu
  have HU2 := Lib.hid hu2
  clear hu2
  generalize chk _ = ck at *
  go_enter Tryd.func9, Tryd.ntmps9
  go_wp2_with fail
  refine (hck.out _).mono ?_; rintro e w2 ⟨rfl, hb⟩
  have hbw := box_then hb
  cases ck with
  | false =>
    go_wp2
    go_ret
    exact ⟨by rw [HT.out]; rfl, hbw⟩
  | true =>
    have hs3 := Lib.hid (hst rfl)
    clear hst
    have k0 := box_kept hb 0
    have k1 := box_kept hb 1
    have k2 := box_kept hb 2
    have k3 := box_kept hb 3
    have k4 := box_kept hb 4
    have k5 := box_kept hb 5
    have k6 := box_kept hb 6
    have k7 := box_kept hb 7
    have k8 := box_kept hb 8
    have k9 := box_kept hb 9
    have k10 := box_kept hb 10
    have k11 := box_kept hb 11
    have k12 := box_kept hb 12
    have k13 := box_kept hb 13
    simp at k0 k1 k2 k3 k4 k5 k6 k7 k8 k9 k10 k11 k12 k13
    have hwl : w.heap.size < w2.heap.size := Nat.lt_of_lt_of_le (by rw [sz]; exact Nat.lt_succ_self _) hb.size
    clear hb hck
    go_wp2_with fail
    have J0 : Bf (w2.alloc (.cells #[.slice none 0 0] 37)) w2.heap.size (.slice none 0 0) 0 [] := ⟨(MapKept.heap_alloc w2 _).1, World.ownsRow_nil _ _ _ _, rfl⟩
    have G0 : Below w2.heap.size w2 (w2.alloc (.cells #[.slice none 0 0] 37)) := (Below.refl _ w2).alloc (Nat.le_refl _) _
    have hbw2 : Below B0 w w2 := hbw.mono hB
    have hB0 : B0 ≤ w2.heap.size := by omega
    have HB0 := Lib.hid hB0
    have HWL := Lib.hid hwl
    clear hB0 hwl hB
    generalize (w2.alloc (.cells #[.slice none 0 0] 37)) = w3 at *
    generalize w2.heap.size = Bb at *
    have tb : ∀ x, Below Bb w2 x → Tb Bb x := fun x h => (TB.out.on (hbw2.trans (h.mono HB0.out))).up HB0.out
    have TBX := Lib.hid tb
    have kp : ∀ x, Below Bb w2 x → ∀ o, x.cell? ⟨w.heap.size, o, none⟩ = w2.cell? ⟨w.heap.size, o, none⟩ := fun x h o => h.cell (p := ⟨w.heap.size, o, none⟩) HWL.out
    have KP := Lib.hid kp
    clear tb kp
    refine (appu_c (Bb + 1) w3 _ [] u (by have := HU2.out; omega) 0 rfl J0.own (by have := J0.lt; omega) (by decide) ((TBX.out _ G0).up (Nat.le_succ _))).mono ?_; rintro e w4 ⟨v4, n4, rfl, ho4, hn4, hl4, hb4⟩
    obtain ⟨a4, c4, rfl, e4, f4, J4, G4⟩ := J0.next hb4 ho4 hn4
    have G5 := G0.trans G4
    clear ho4 hn4 hb4 G4
    have q1 := (KP.out _ G5 1).trans k1
    -- GEN
    go_wp2
    have e5 := J4.cell
    have f5 := frz J4.box 0
    generalize (w4.setCell ⟨Bb, 0, none⟩ (.slice a4 n4 c4)) = w5 at *
    rcases hs3.out with rfl | rfl | rfl
    · cases hd with
      | false =>
        have hix : ∀ w, (Instr.index 43 (.agg #[.string ⟨#[]⟩, .string ⟨#[32, 114, 101, 97, 100, 121]⟩, .string ⟨#[32, 119, 97, 105, 116, 115]⟩, .string ⟨#[32, 102, 97, 117, 108, 116]⟩]) (.int .u8 1)).run Tryd.prog w = .ok (.string ⟨#[32, 114, 101, 97, 100, 121]⟩) w := fun _ => by rfl
        go_still_tail 5, (by kernel_rfl)
        change wpList _ _ _ _ _ w5.drew
        have J6 : Bf w5.drew Bb (.slice a4 n4 c4) n4 ([] ++ Lib.decDigits u) := ⟨J4.box, J4.own, J4.len⟩
        have G6 : Below Bb w2 w5.drew := G5.drew
        generalize w5.drew = w6 at *
        clear J4 G5 e4 f4 q1 e5 f5
        have m7 : n4 + (⟨#[32, 114, 101, 97, 100, 121]⟩ : ByteArray).size ≤ maxLen := by unfold maxLen; show n4 + 6 ≤ _; omega
        have p7 : n4 + (⟨#[32, 114, 101, 97, 100, 121]⟩ : ByteArray).size ≤ 140737488355328 := by show n4 + 6 ≤ _; omega
        refine Lib.wpList_append_own_string _ rfl _ _ 37 9 rfl (Bb + 1) 5 i0 Tryd.underlying37 Tryd.underlying9 hi hz0 hz1 hz2 _ n4 _ rfl J6.own ⟨#[32, 114, 101, 97, 100, 121]⟩ rfl m7 p7 J6.lt ?_
        intro v7 w7 hown7 hgrow7 _
        clear m7 p7
        obtain ⟨n7, hn7⟩ : ∃ x, x = n4 + 6 := ⟨_, rfl⟩
        have hown7' : w7.ownsRow (Bb + 1) 5 1 v7 n7 (Lib.byteCells (([] ++ Lib.decDigits u) ++ [32, 114, 101, 97, 100, 121])) := by rw [hn7, Lib.byteCells_append]; exact hown7
        have hlt7 := J6.lt
        obtain ⟨a7, c7, rfl, e7, f7, J7, G7'⟩ := J6.next ((Below.refl (Bb + 1) _).grown hgrow7 (by omega) (fun g' e => (J6.own.lt g' e).1)) hown7' (by rw [List.length_append, J6.len, hn7]; rfl)
        have l7 : n7 ≤ 30 := by omega
        clear hown7 hown7' hgrow7 hn7 hlt7
        have G7 := G6.trans G7'
        have q2 := (KP.out _ G7 2).trans k2
        have m8 : n7 + (⟨#[32, 45]⟩ : ByteArray).size ≤ maxLen := by unfold maxLen; show n7 + 2 ≤ _; omega
        have p8 : n7 + (⟨#[32, 45]⟩ : ByteArray).size ≤ 140737488355328 := by show n7 + 2 ≤ _; omega
        go_wp2_with (at_builtin; refine Lib.wpList_append_own_string _ rfl _ _ 37 9 rfl (Bb + 1) 5 i0 Tryd.underlying37 Tryd.underlying9 hi hz0 hz1 hz2 _ n7 _ rfl J7.own ⟨#[32, 45]⟩ rfl m8 p8 J7.lt ?_; intro v8 w8 hown8 hgrow8 _; obtain ⟨n8, hn8⟩ : ∃ x, x = n7 + 2 := ⟨_, rfl⟩; have hown8' : w8.ownsRow (Bb + 1) 5 1 v8 n8 (Lib.byteCells (([] ++ Lib.decDigits u) ++ [32, 114, 101, 97, 100, 121] ++ [32, 45])) := (by rw [hn8, Lib.byteCells_append]; exact hown8); have hlt8 := J7.lt; obtain ⟨a8, c8, rfl, e8, f8, J8, G8'⟩ := J7.next ((Below.refl (Bb + 1) _).grown hgrow8 (by omega) (fun g' e => (J7.own.lt g' e).1)) hown8' (by rw [List.length_append, J7.len, hn8]; rfl); have l8 : n8 ≤ 40 := (by omega); have GW := G7.trans G8'; have q3 := (KP.out _ GW 3).trans k3; have q4 := (KP.out _ GW 4).trans k4; clear hown8 hown8' hgrow8 hn8 hlt8 m8 p8)
        have tb8 : ∀ x, Below Bb (w8.setCell ⟨Bb, 0, none⟩ (.slice a8 n8 c8)) x → Tb Bb x := fun x h => TBX.out _ (GW.trans h)
        refine (put_j [ba, ra] J8 (by omega) tb8 (by simp [World.setCell]) (by intro x hx; simp at hx; rcases hx with rfl | rfl; exact e_ba.out; exact e_ra.out) (by simp)).mono ?_; rintro e w9 ⟨rfl, v9, n9, J9, l9, G9'⟩
        have l9' : n9 ≤ 90 := by simp only [List.length_cons, List.length_nil] at l9; omega
        have G9 := GW.trans G9'
        clear J6 J7 J8 G6 G7 GW G7' G8' G9' e7 f7 e8 f8 q2 q3 q4 tb8 l9 l7 l8
        have q5 := (KP.out _ G9 5).trans k5
        have q6 := (KP.out _ G9 6).trans k6
        have q7 := (KP.out _ G9 7).trans k7
        have q8 := (KP.out _ G9 8).trans k8
        have q9 := (KP.out _ G9 9).trans k9
        have GA : Below Bb w2 (w9.alloc (.cells #[.int .u8 wh, .int .u32 wH, .int .u32 wV, .int .u32 wM, .int .i64 ww] 26)) := G9.alloc (Nat.le_of_lt J9.lt) _
        have qa1 := (KP.out _ GA 1).trans k1
        have JA := J9.alloc (.cells #[.int .u8 wh, .int .u32 wH, .int .u32 wV, .int .u32 wM, .int .i64 ww] 26)
        have jA := JA.cell
        have fA := frz JA.box 0
        have m10 : n9 + (⟨#[32, 45]⟩ : ByteArray).size ≤ maxLen := by unfold maxLen; show n9 + 2 ≤ _; omega
        have p10 : n9 + (⟨#[32, 45]⟩ : ByteArray).size ≤ 140737488355328 := by show n9 + 2 ≤ _; omega
        go_wp2_with (at_builtin; refine Lib.wpList_append_own_string _ rfl _ _ 37 9 rfl (Bb + 1) 5 i0 Tryd.underlying37 Tryd.underlying9 hi hz0 hz1 hz2 _ n9 _ rfl JA.own ⟨#[32, 45]⟩ rfl m10 p10 JA.lt ?_; intro v10 w10 hown10 hgrow10 _; obtain ⟨n10, hn10⟩ : ∃ x, x = n9 + 2 := ⟨_, rfl⟩; have hown10' : w10.ownsRow (Bb + 1) 5 1 v10 n10 (Lib.byteCells (([] ++ Lib.decDigits u) ++ [32, 114, 101, 97, 100, 121] ++ [32, 45] ++ nums [ba, ra] ++ [32, 45])) := (by rw [hn10, Lib.byteCells_append]; exact hown10); have hlt10 := JA.lt; obtain ⟨a10, c10, rfl, e10, f10, J10, G10'⟩ := JA.next ((Below.refl (Bb + 1) _).grown hgrow10 (by omega) (fun g' e => (JA.own.lt g' e).1)) hown10' (by rw [List.length_append, JA.len, hn10]; rfl); have l10 : n10 ≤ 100 := (by omega); have GB := GA.trans G10'; have q11 := (KP.out _ GB 11).trans k11; have q12 := (KP.out _ GB 12).trans k12; have q13 := (KP.out _ GB 13).trans k13; clear hown10 hown10' hgrow10 hn10 hlt10 m10 p10)
        have tbB : ∀ x, Below Bb (w10.setCell ⟨Bb, 0, none⟩ (.slice a10 n10 c10)) x → Tb Bb x := fun x h => TBX.out _ (GB.trans h)
        refine (put_j [an, la, va] J10 (by omega) tbB (by simp [World.setCell]) (by intro x hx; simp at hx; rcases hx with rfl | rfl | rfl; exact e_an.out; exact e_la.out; exact e_va.out) (by simp)).mono ?_; rintro e w11 ⟨rfl, v11, n11, J11, l11, G11'⟩
        have GC := GB.trans G11'
        have hcv := conv_j J11 (by have h1 := J11.len; have h2 : 0 < (nums [an, la, va]).length := (by simp [nums, num]); rw [List.length_append] at h1; omega)
        have e11 := J11.cell
        have hfin : Below w.heap.size w w11 := hbw.trans (GC.mono (Nat.le_of_lt HWL.out))
        go_wp2
        go_ret
        refine ⟨congrArg (fun b => Ending.returned (str b)) ?_, hfin⟩
        simp only [HT.out, if_true, HX.out, HM.out, HU.out]
        simp [nums, num, sw, hw]
      | true =>
        have hix : ∀ w, (Instr.index 43 (.agg #[.string ⟨#[]⟩, .string ⟨#[32, 114, 101, 97, 100, 121]⟩, .string ⟨#[32, 119, 97, 105, 116, 115]⟩, .string ⟨#[32, 102, 97, 117, 108, 116]⟩]) (.int .u8 1)).run Tryd.prog w = .ok (.string ⟨#[32, 114, 101, 97, 100, 121]⟩) w := fun _ => by rfl
        go_still_tail 5, (by kernel_rfl)
        change wpList _ _ _ _ _ w5.drew
        have J6 : Bf w5.drew Bb (.slice a4 n4 c4) n4 ([] ++ Lib.decDigits u) := ⟨J4.box, J4.own, J4.len⟩
        have G6 : Below Bb w2 w5.drew := G5.drew
        generalize w5.drew = w6 at *
        clear J4 G5 e4 f4 q1 e5 f5
        have m7 : n4 + (⟨#[32, 114, 101, 97, 100, 121]⟩ : ByteArray).size ≤ maxLen := by unfold maxLen; show n4 + 6 ≤ _; omega
        have p7 : n4 + (⟨#[32, 114, 101, 97, 100, 121]⟩ : ByteArray).size ≤ 140737488355328 := by show n4 + 6 ≤ _; omega
        refine Lib.wpList_append_own_string _ rfl _ _ 37 9 rfl (Bb + 1) 5 i0 Tryd.underlying37 Tryd.underlying9 hi hz0 hz1 hz2 _ n4 _ rfl J6.own ⟨#[32, 114, 101, 97, 100, 121]⟩ rfl m7 p7 J6.lt ?_
        intro v7 w7 hown7 hgrow7 _
        clear m7 p7
        obtain ⟨n7, hn7⟩ : ∃ x, x = n4 + 6 := ⟨_, rfl⟩
        have hown7' : w7.ownsRow (Bb + 1) 5 1 v7 n7 (Lib.byteCells (([] ++ Lib.decDigits u) ++ [32, 114, 101, 97, 100, 121])) := by rw [hn7, Lib.byteCells_append]; exact hown7
        have hlt7 := J6.lt
        obtain ⟨a7, c7, rfl, e7, f7, J7, G7'⟩ := J6.next ((Below.refl (Bb + 1) _).grown hgrow7 (by omega) (fun g' e => (J6.own.lt g' e).1)) hown7' (by rw [List.length_append, J6.len, hn7]; rfl)
        have l7 : n7 ≤ 30 := by omega
        clear hown7 hown7' hgrow7 hn7 hlt7
        have G7 := G6.trans G7'
        have q2 := (KP.out _ G7 2).trans k2
        have m8 : n7 + (⟨#[32, 104, 101, 108, 100]⟩ : ByteArray).size ≤ maxLen := by unfold maxLen; show n7 + 5 ≤ _; omega
        have p8 : n7 + (⟨#[32, 104, 101, 108, 100]⟩ : ByteArray).size ≤ 140737488355328 := by show n7 + 5 ≤ _; omega
        go_wp2_with (at_builtin; refine Lib.wpList_append_own_string _ rfl _ _ 37 9 rfl (Bb + 1) 5 i0 Tryd.underlying37 Tryd.underlying9 hi hz0 hz1 hz2 _ n7 _ rfl J7.own ⟨#[32, 104, 101, 108, 100]⟩ rfl m8 p8 J7.lt ?_; intro v8 w8 hown8 hgrow8 _; obtain ⟨n8, hn8⟩ : ∃ x, x = n7 + 5 := ⟨_, rfl⟩; have hown8' : w8.ownsRow (Bb + 1) 5 1 v8 n8 (Lib.byteCells (([] ++ Lib.decDigits u) ++ [32, 114, 101, 97, 100, 121] ++ [32, 104, 101, 108, 100])) := (by rw [hn8, Lib.byteCells_append]; exact hown8); have hlt8 := J7.lt; obtain ⟨a8, c8, rfl, e8, f8, J8, G8'⟩ := J7.next ((Below.refl (Bb + 1) _).grown hgrow8 (by omega) (fun g' e => (J7.own.lt g' e).1)) hown8' (by rw [List.length_append, J7.len, hn8]; rfl); have l8 : n8 ≤ 40 := (by omega); have GW := G7.trans G8'; have q3 := (KP.out _ GW 3).trans k3; have q4 := (KP.out _ GW 4).trans k4; clear hown8 hown8' hgrow8 hn8 hlt8 m8 p8)
        have tb8 : ∀ x, Below Bb (w8.setCell ⟨Bb, 0, none⟩ (.slice a8 n8 c8)) x → Tb Bb x := fun x h => TBX.out _ (GW.trans h)
        refine (put_j [ba, ra] J8 (by omega) tb8 (by simp [World.setCell]) (by intro x hx; simp at hx; rcases hx with rfl | rfl; exact e_ba.out; exact e_ra.out) (by simp)).mono ?_; rintro e w9 ⟨rfl, v9, n9, J9, l9, G9'⟩
        have l9' : n9 ≤ 90 := by simp only [List.length_cons, List.length_nil] at l9; omega
        have G9 := GW.trans G9'
        clear J6 J7 J8 G6 G7 GW G7' G8' G9' e7 f7 e8 f8 q2 q3 q4 tb8 l9 l7 l8
        have q5 := (KP.out _ G9 5).trans k5
        have q6 := (KP.out _ G9 6).trans k6
        have q7 := (KP.out _ G9 7).trans k7
        have q8 := (KP.out _ G9 8).trans k8
        have q9 := (KP.out _ G9 9).trans k9
        have GA : Below Bb w2 (w9.alloc (.cells #[.int .u8 wh, .int .u32 wH, .int .u32 wV, .int .u32 wM, .int .i64 ww] 26)) := G9.alloc (Nat.le_of_lt J9.lt) _
        have qa1 := (KP.out _ GA 1).trans k1
        have JA := J9.alloc (.cells #[.int .u8 wh, .int .u32 wH, .int .u32 wV, .int .u32 wM, .int .i64 ww] 26)
        have jA := JA.cell
        have fA := frz JA.box 0
        have m10 : n9 + (⟨#[32, 45]⟩ : ByteArray).size ≤ maxLen := by unfold maxLen; show n9 + 2 ≤ _; omega
        have p10 : n9 + (⟨#[32, 45]⟩ : ByteArray).size ≤ 140737488355328 := by show n9 + 2 ≤ _; omega
        go_wp2_with (at_builtin; refine Lib.wpList_append_own_string _ rfl _ _ 37 9 rfl (Bb + 1) 5 i0 Tryd.underlying37 Tryd.underlying9 hi hz0 hz1 hz2 _ n9 _ rfl JA.own ⟨#[32, 45]⟩ rfl m10 p10 JA.lt ?_; intro v10 w10 hown10 hgrow10 _; obtain ⟨n10, hn10⟩ : ∃ x, x = n9 + 2 := ⟨_, rfl⟩; have hown10' : w10.ownsRow (Bb + 1) 5 1 v10 n10 (Lib.byteCells (([] ++ Lib.decDigits u) ++ [32, 114, 101, 97, 100, 121] ++ [32, 104, 101, 108, 100] ++ nums [ba, ra] ++ [32, 45])) := (by rw [hn10, Lib.byteCells_append]; exact hown10); have hlt10 := JA.lt; obtain ⟨a10, c10, rfl, e10, f10, J10, G10'⟩ := JA.next ((Below.refl (Bb + 1) _).grown hgrow10 (by omega) (fun g' e => (JA.own.lt g' e).1)) hown10' (by rw [List.length_append, JA.len, hn10]; rfl); have l10 : n10 ≤ 100 := (by omega); have GB := GA.trans G10'; have q11 := (KP.out _ GB 11).trans k11; have q12 := (KP.out _ GB 12).trans k12; have q13 := (KP.out _ GB 13).trans k13; clear hown10 hown10' hgrow10 hn10 hlt10 m10 p10)
        have tbB : ∀ x, Below Bb (w10.setCell ⟨Bb, 0, none⟩ (.slice a10 n10 c10)) x → Tb Bb x := fun x h => TBX.out _ (GB.trans h)
        refine (put_j [an, la, va] J10 (by omega) tbB (by simp [World.setCell]) (by intro x hx; simp at hx; rcases hx with rfl | rfl | rfl; exact e_an.out; exact e_la.out; exact e_va.out) (by simp)).mono ?_; rintro e w11 ⟨rfl, v11, n11, J11, l11, G11'⟩
        have GC := GB.trans G11'
        have hcv := conv_j J11 (by have h1 := J11.len; have h2 : 0 < (nums [an, la, va]).length := (by simp [nums, num]); rw [List.length_append] at h1; omega)
        have e11 := J11.cell
        have hfin : Below w.heap.size w w11 := hbw.trans (GC.mono (Nat.le_of_lt HWL.out))
        go_wp2
        go_ret
        refine ⟨congrArg (fun b => Ending.returned (str b)) ?_, hfin⟩
        simp only [HT.out, if_true, HX.out, HM.out, HU.out]
        simp [nums, num, sw, hw]
    · cases hd with
      | false =>
        have hix : ∀ w, (Instr.index 43 (.agg #[.string ⟨#[]⟩, .string ⟨#[32, 114, 101, 97, 100, 121]⟩, .string ⟨#[32, 119, 97, 105, 116, 115]⟩, .string ⟨#[32, 102, 97, 117, 108, 116]⟩]) (.int .u8 2)).run Tryd.prog w = .ok (.string ⟨#[32, 119, 97, 105, 116, 115]⟩) w := fun _ => by rfl
        go_still_tail 5, (by kernel_rfl)
        change wpList _ _ _ _ _ w5.drew
        have J6 : Bf w5.drew Bb (.slice a4 n4 c4) n4 ([] ++ Lib.decDigits u) := ⟨J4.box, J4.own, J4.len⟩
        have G6 : Below Bb w2 w5.drew := G5.drew
        generalize w5.drew = w6 at *
        clear J4 G5 e4 f4 q1 e5 f5
        have m7 : n4 + (⟨#[32, 119, 97, 105, 116, 115]⟩ : ByteArray).size ≤ maxLen := by unfold maxLen; show n4 + 6 ≤ _; omega
        have p7 : n4 + (⟨#[32, 119, 97, 105, 116, 115]⟩ : ByteArray).size ≤ 140737488355328 := by show n4 + 6 ≤ _; omega
        refine Lib.wpList_append_own_string _ rfl _ _ 37 9 rfl (Bb + 1) 5 i0 Tryd.underlying37 Tryd.underlying9 hi hz0 hz1 hz2 _ n4 _ rfl J6.own ⟨#[32, 119, 97, 105, 116, 115]⟩ rfl m7 p7 J6.lt ?_
        intro v7 w7 hown7 hgrow7 _
        clear m7 p7
        obtain ⟨n7, hn7⟩ : ∃ x, x = n4 + 6 := ⟨_, rfl⟩
        have hown7' : w7.ownsRow (Bb + 1) 5 1 v7 n7 (Lib.byteCells (([] ++ Lib.decDigits u) ++ [32, 119, 97, 105, 116, 115])) := by rw [hn7, Lib.byteCells_append]; exact hown7
        have hlt7 := J6.lt
        obtain ⟨a7, c7, rfl, e7, f7, J7, G7'⟩ := J6.next ((Below.refl (Bb + 1) _).grown hgrow7 (by omega) (fun g' e => (J6.own.lt g' e).1)) hown7' (by rw [List.length_append, J6.len, hn7]; rfl)
        have l7 : n7 ≤ 30 := by omega
        clear hown7 hown7' hgrow7 hn7 hlt7
        have G7 := G6.trans G7'
        have q2 := (KP.out _ G7 2).trans k2
        have m8 : n7 + (⟨#[32, 45]⟩ : ByteArray).size ≤ maxLen := by unfold maxLen; show n7 + 2 ≤ _; omega
        have p8 : n7 + (⟨#[32, 45]⟩ : ByteArray).size ≤ 140737488355328 := by show n7 + 2 ≤ _; omega
        go_wp2_with (at_builtin; refine Lib.wpList_append_own_string _ rfl _ _ 37 9 rfl (Bb + 1) 5 i0 Tryd.underlying37 Tryd.underlying9 hi hz0 hz1 hz2 _ n7 _ rfl J7.own ⟨#[32, 45]⟩ rfl m8 p8 J7.lt ?_; intro v8 w8 hown8 hgrow8 _; obtain ⟨n8, hn8⟩ : ∃ x, x = n7 + 2 := ⟨_, rfl⟩; have hown8' : w8.ownsRow (Bb + 1) 5 1 v8 n8 (Lib.byteCells (([] ++ Lib.decDigits u) ++ [32, 119, 97, 105, 116, 115] ++ [32, 45])) := (by rw [hn8, Lib.byteCells_append]; exact hown8); have hlt8 := J7.lt; obtain ⟨a8, c8, rfl, e8, f8, J8, G8'⟩ := J7.next ((Below.refl (Bb + 1) _).grown hgrow8 (by omega) (fun g' e => (J7.own.lt g' e).1)) hown8' (by rw [List.length_append, J7.len, hn8]; rfl); have l8 : n8 ≤ 40 := (by omega); have GW := G7.trans G8'; have q3 := (KP.out _ GW 3).trans k3; have q4 := (KP.out _ GW 4).trans k4; clear hown8 hown8' hgrow8 hn8 hlt8 m8 p8)
        have tb8 : ∀ x, Below Bb (w8.setCell ⟨Bb, 0, none⟩ (.slice a8 n8 c8)) x → Tb Bb x := fun x h => TBX.out _ (GW.trans h)
        refine (put_j [ba, ra] J8 (by omega) tb8 (by simp [World.setCell]) (by intro x hx; simp at hx; rcases hx with rfl | rfl; exact e_ba.out; exact e_ra.out) (by simp)).mono ?_; rintro e w9 ⟨rfl, v9, n9, J9, l9, G9'⟩
        have l9' : n9 ≤ 90 := by simp only [List.length_cons, List.length_nil] at l9; omega
        have G9 := GW.trans G9'
        clear J6 J7 J8 G6 G7 GW G7' G8' G9' e7 f7 e8 f8 q2 q3 q4 tb8 l9 l7 l8
        have q5 := (KP.out _ G9 5).trans k5
        have q6 := (KP.out _ G9 6).trans k6
        have q7 := (KP.out _ G9 7).trans k7
        have q8 := (KP.out _ G9 8).trans k8
        have q9 := (KP.out _ G9 9).trans k9
        have GA : Below Bb w2 (w9.alloc (.cells #[.int .u8 wh, .int .u32 wH, .int .u32 wV, .int .u32 wM, .int .i64 ww] 26)) := G9.alloc (Nat.le_of_lt J9.lt) _
        have qa1 := (KP.out _ GA 1).trans k1
        have qa10 := (KP.out _ GA 10).trans k10
        have JA := J9.alloc (.cells #[.int .u8 wh, .int .u32 wH, .int .u32 wV, .int .u32 wM, .int .i64 ww] 26)
        have tbA : ∀ x, Below Bb (w9.alloc (.cells #[.int .u8 wh, .int .u32 wH, .int .u32 wV, .int .u32 wM, .int .i64 ww] 26)) x → Tb Bb x := fun x h => TBX.out _ (GA.trans h)
        go_wp2_with fail
        refine (put_j [wh, wH, wV, wM, lf] JA (by omega) tbA (by rw [sz]) (by intro x hx; simp at hx; rcases hx with rfl | rfl | rfl | rfl | rfl; exact e_wh.out; exact e_wH.out; exact e_wV.out; exact e_wM.out; exact e_lf.out) (by simp)).mono ?_; rintro e w10 ⟨rfl, v10, n10, J10, l10, G10'⟩
        have l10' : n10 ≤ 220 := by simp only [List.length_cons, List.length_nil] at l10; omega
        have GB := GA.trans G10'
        have q11 := (KP.out _ GB 11).trans k11
        have q12 := (KP.out _ GB 12).trans k12
        have q13 := (KP.out _ GB 13).trans k13
        go_wp2_with fail
        have tbB : ∀ x, Below Bb w10 x → Tb Bb x := fun x h => TBX.out _ (GB.trans h)
        refine (put_j [an, la, va] J10 (by omega) tbB (by simp [World.setCell]) (by intro x hx; simp at hx; rcases hx with rfl | rfl | rfl; exact e_an.out; exact e_la.out; exact e_va.out) (by simp)).mono ?_; rintro e w11 ⟨rfl, v11, n11, J11, l11, G11'⟩
        have GC := GB.trans G11'
        have hcv := conv_j J11 (by have h1 := J11.len; have h2 : 0 < (nums [an, la, va]).length := (by simp [nums, num]); rw [List.length_append] at h1; omega)
        have e11 := J11.cell
        have hfin : Below w.heap.size w w11 := hbw.trans (GC.mono (Nat.le_of_lt HWL.out))
        go_wp2
        go_ret
        refine ⟨congrArg (fun b => Ending.returned (str b)) ?_, hfin⟩
        simp only [HT.out, if_true, HX.out, HM.out, HU.out]
        simp [nums, num, sw, hw]
      | true =>
        have hix : ∀ w, (Instr.index 43 (.agg #[.string ⟨#[]⟩, .string ⟨#[32, 114, 101, 97, 100, 121]⟩, .string ⟨#[32, 119, 97, 105, 116, 115]⟩, .string ⟨#[32, 102, 97, 117, 108, 116]⟩]) (.int .u8 2)).run Tryd.prog w = .ok (.string ⟨#[32, 119, 97, 105, 116, 115]⟩) w := fun _ => by rfl
        go_still_tail 5, (by kernel_rfl)
        change wpList _ _ _ _ _ w5.drew
        have J6 : Bf w5.drew Bb (.slice a4 n4 c4) n4 ([] ++ Lib.decDigits u) := ⟨J4.box, J4.own, J4.len⟩
        have G6 : Below Bb w2 w5.drew := G5.drew
        generalize w5.drew = w6 at *
        clear J4 G5 e4 f4 q1 e5 f5
        have m7 : n4 + (⟨#[32, 119, 97, 105, 116, 115]⟩ : ByteArray).size ≤ maxLen := by unfold maxLen; show n4 + 6 ≤ _; omega
        have p7 : n4 + (⟨#[32, 119, 97, 105, 116, 115]⟩ : ByteArray).size ≤ 140737488355328 := by show n4 + 6 ≤ _; omega
        refine Lib.wpList_append_own_string _ rfl _ _ 37 9 rfl (Bb + 1) 5 i0 Tryd.underlying37 Tryd.underlying9 hi hz0 hz1 hz2 _ n4 _ rfl J6.own ⟨#[32, 119, 97, 105, 116, 115]⟩ rfl m7 p7 J6.lt ?_
        intro v7 w7 hown7 hgrow7 _
        clear m7 p7
        obtain ⟨n7, hn7⟩ : ∃ x, x = n4 + 6 := ⟨_, rfl⟩
        have hown7' : w7.ownsRow (Bb + 1) 5 1 v7 n7 (Lib.byteCells (([] ++ Lib.decDigits u) ++ [32, 119, 97, 105, 116, 115])) := by rw [hn7, Lib.byteCells_append]; exact hown7
        have hlt7 := J6.lt
        obtain ⟨a7, c7, rfl, e7, f7, J7, G7'⟩ := J6.next ((Below.refl (Bb + 1) _).grown hgrow7 (by omega) (fun g' e => (J6.own.lt g' e).1)) hown7' (by rw [List.length_append, J6.len, hn7]; rfl)
        have l7 : n7 ≤ 30 := by omega
        clear hown7 hown7' hgrow7 hn7 hlt7
        have G7 := G6.trans G7'
        have q2 := (KP.out _ G7 2).trans k2
        have m8 : n7 + (⟨#[32, 104, 101, 108, 100]⟩ : ByteArray).size ≤ maxLen := by unfold maxLen; show n7 + 5 ≤ _; omega
        have p8 : n7 + (⟨#[32, 104, 101, 108, 100]⟩ : ByteArray).size ≤ 140737488355328 := by show n7 + 5 ≤ _; omega
        go_wp2_with (at_builtin; refine Lib.wpList_append_own_string _ rfl _ _ 37 9 rfl (Bb + 1) 5 i0 Tryd.underlying37 Tryd.underlying9 hi hz0 hz1 hz2 _ n7 _ rfl J7.own ⟨#[32, 104, 101, 108, 100]⟩ rfl m8 p8 J7.lt ?_; intro v8 w8 hown8 hgrow8 _; obtain ⟨n8, hn8⟩ : ∃ x, x = n7 + 5 := ⟨_, rfl⟩; have hown8' : w8.ownsRow (Bb + 1) 5 1 v8 n8 (Lib.byteCells (([] ++ Lib.decDigits u) ++ [32, 119, 97, 105, 116, 115] ++ [32, 104, 101, 108, 100])) := (by rw [hn8, Lib.byteCells_append]; exact hown8); have hlt8 := J7.lt; obtain ⟨a8, c8, rfl, e8, f8, J8, G8'⟩ := J7.next ((Below.refl (Bb + 1) _).grown hgrow8 (by omega) (fun g' e => (J7.own.lt g' e).1)) hown8' (by rw [List.length_append, J7.len, hn8]; rfl); have l8 : n8 ≤ 40 := (by omega); have GW := G7.trans G8'; have q3 := (KP.out _ GW 3).trans k3; have q4 := (KP.out _ GW 4).trans k4; clear hown8 hown8' hgrow8 hn8 hlt8 m8 p8)
        have tb8 : ∀ x, Below Bb (w8.setCell ⟨Bb, 0, none⟩ (.slice a8 n8 c8)) x → Tb Bb x := fun x h => TBX.out _ (GW.trans h)
        refine (put_j [ba, ra] J8 (by omega) tb8 (by simp [World.setCell]) (by intro x hx; simp at hx; rcases hx with rfl | rfl; exact e_ba.out; exact e_ra.out) (by simp)).mono ?_; rintro e w9 ⟨rfl, v9, n9, J9, l9, G9'⟩
        have l9' : n9 ≤ 90 := by simp only [List.length_cons, List.length_nil] at l9; omega
        have G9 := GW.trans G9'
        clear J6 J7 J8 G6 G7 GW G7' G8' G9' e7 f7 e8 f8 q2 q3 q4 tb8 l9 l7 l8
        have q5 := (KP.out _ G9 5).trans k5
        have q6 := (KP.out _ G9 6).trans k6
        have q7 := (KP.out _ G9 7).trans k7
        have q8 := (KP.out _ G9 8).trans k8
        have q9 := (KP.out _ G9 9).trans k9
        have GA : Below Bb w2 (w9.alloc (.cells #[.int .u8 wh, .int .u32 wH, .int .u32 wV, .int .u32 wM, .int .i64 ww] 26)) := G9.alloc (Nat.le_of_lt J9.lt) _
        have qa1 := (KP.out _ GA 1).trans k1
        have qa10 := (KP.out _ GA 10).trans k10
        have JA := J9.alloc (.cells #[.int .u8 wh, .int .u32 wH, .int .u32 wV, .int .u32 wM, .int .i64 ww] 26)
        have tbA : ∀ x, Below Bb (w9.alloc (.cells #[.int .u8 wh, .int .u32 wH, .int .u32 wV, .int .u32 wM, .int .i64 ww] 26)) x → Tb Bb x := fun x h => TBX.out _ (GA.trans h)
        go_wp2_with fail
        refine (put_j [wh, wH, wV, wM, lf] JA (by omega) tbA (by rw [sz]) (by intro x hx; simp at hx; rcases hx with rfl | rfl | rfl | rfl | rfl; exact e_wh.out; exact e_wH.out; exact e_wV.out; exact e_wM.out; exact e_lf.out) (by simp)).mono ?_; rintro e w10 ⟨rfl, v10, n10, J10, l10, G10'⟩
        have l10' : n10 ≤ 220 := by simp only [List.length_cons, List.length_nil] at l10; omega
        have GB := GA.trans G10'
        have q11 := (KP.out _ GB 11).trans k11
        have q12 := (KP.out _ GB 12).trans k12
        have q13 := (KP.out _ GB 13).trans k13
        go_wp2_with fail
        have tbB : ∀ x, Below Bb w10 x → Tb Bb x := fun x h => TBX.out _ (GB.trans h)
        refine (put_j [an, la, va] J10 (by omega) tbB (by simp [World.setCell]) (by intro x hx; simp at hx; rcases hx with rfl | rfl | rfl; exact e_an.out; exact e_la.out; exact e_va.out) (by simp)).mono ?_; rintro e w11 ⟨rfl, v11, n11, J11, l11, G11'⟩
        have GC := GB.trans G11'
        have hcv := conv_j J11 (by have h1 := J11.len; have h2 : 0 < (nums [an, la, va]).length := (by simp [nums, num]); rw [List.length_append] at h1; omega)
        have e11 := J11.cell
        have hfin : Below w.heap.size w w11 := hbw.trans (GC.mono (Nat.le_of_lt HWL.out))
        go_wp2
        go_ret
        refine ⟨congrArg (fun b => Ending.returned (str b)) ?_, hfin⟩
        simp only [HT.out, if_true, HX.out, HM.out, HU.out]
        simp [nums, num, sw, hw]
    · cases hd with
      | false =>
        have hix : ∀ w, (Instr.index 43 (.agg #[.string ⟨#[]⟩, .string ⟨#[32, 114, 101, 97, 100, 121]⟩, .string ⟨#[32, 119, 97, 105, 116, 115]⟩, .string ⟨#[32, 102, 97, 117, 108, 116]⟩]) (.int .u8 3)).run Tryd.prog w = .ok (.string ⟨#[32, 102, 97, 117, 108, 116]⟩) w := fun _ => by rfl
        go_still_tail 5, (by kernel_rfl)
        change wpList _ _ _ _ _ w5.drew
        have J6 : Bf w5.drew Bb (.slice a4 n4 c4) n4 ([] ++ Lib.decDigits u) := ⟨J4.box, J4.own, J4.len⟩
        have G6 : Below Bb w2 w5.drew := G5.drew
        generalize w5.drew = w6 at *
        clear J4 G5 e4 f4 q1 e5 f5
        have m7 : n4 + (⟨#[32, 102, 97, 117, 108, 116]⟩ : ByteArray).size ≤ maxLen := by unfold maxLen; show n4 + 6 ≤ _; omega
        have p7 : n4 + (⟨#[32, 102, 97, 117, 108, 116]⟩ : ByteArray).size ≤ 140737488355328 := by show n4 + 6 ≤ _; omega
        refine Lib.wpList_append_own_string _ rfl _ _ 37 9 rfl (Bb + 1) 5 i0 Tryd.underlying37 Tryd.underlying9 hi hz0 hz1 hz2 _ n4 _ rfl J6.own ⟨#[32, 102, 97, 117, 108, 116]⟩ rfl m7 p7 J6.lt ?_
        intro v7 w7 hown7 hgrow7 _
        clear m7 p7
        obtain ⟨n7, hn7⟩ : ∃ x, x = n4 + 6 := ⟨_, rfl⟩
        have hown7' : w7.ownsRow (Bb + 1) 5 1 v7 n7 (Lib.byteCells (([] ++ Lib.decDigits u) ++ [32, 102, 97, 117, 108, 116])) := by rw [hn7, Lib.byteCells_append]; exact hown7
        have hlt7 := J6.lt
        obtain ⟨a7, c7, rfl, e7, f7, J7, G7'⟩ := J6.next ((Below.refl (Bb + 1) _).grown hgrow7 (by omega) (fun g' e => (J6.own.lt g' e).1)) hown7' (by rw [List.length_append, J6.len, hn7]; rfl)
        have l7 : n7 ≤ 30 := by omega
        clear hown7 hown7' hgrow7 hn7 hlt7
        have G7 := G6.trans G7'
        have q2 := (KP.out _ G7 2).trans k2
        have m8 : n7 + (⟨#[32, 45]⟩ : ByteArray).size ≤ maxLen := by unfold maxLen; show n7 + 2 ≤ _; omega
        have p8 : n7 + (⟨#[32, 45]⟩ : ByteArray).size ≤ 140737488355328 := by show n7 + 2 ≤ _; omega
        go_wp2_with (at_builtin; refine Lib.wpList_append_own_string _ rfl _ _ 37 9 rfl (Bb + 1) 5 i0 Tryd.underlying37 Tryd.underlying9 hi hz0 hz1 hz2 _ n7 _ rfl J7.own ⟨#[32, 45]⟩ rfl m8 p8 J7.lt ?_; intro v8 w8 hown8 hgrow8 _; obtain ⟨n8, hn8⟩ : ∃ x, x = n7 + 2 := ⟨_, rfl⟩; have hown8' : w8.ownsRow (Bb + 1) 5 1 v8 n8 (Lib.byteCells (([] ++ Lib.decDigits u) ++ [32, 102, 97, 117, 108, 116] ++ [32, 45])) := (by rw [hn8, Lib.byteCells_append]; exact hown8); have hlt8 := J7.lt; obtain ⟨a8, c8, rfl, e8, f8, J8, G8'⟩ := J7.next ((Below.refl (Bb + 1) _).grown hgrow8 (by omega) (fun g' e => (J7.own.lt g' e).1)) hown8' (by rw [List.length_append, J7.len, hn8]; rfl); have l8 : n8 ≤ 40 := (by omega); have GW := G7.trans G8'; have q3 := (KP.out _ GW 3).trans k3; have q4 := (KP.out _ GW 4).trans k4; clear hown8 hown8' hgrow8 hn8 hlt8 m8 p8)
        have tb8 : ∀ x, Below Bb (w8.setCell ⟨Bb, 0, none⟩ (.slice a8 n8 c8)) x → Tb Bb x := fun x h => TBX.out _ (GW.trans h)
        refine (put_j [ba, ra] J8 (by omega) tb8 (by simp [World.setCell]) (by intro x hx; simp at hx; rcases hx with rfl | rfl; exact e_ba.out; exact e_ra.out) (by simp)).mono ?_; rintro e w9 ⟨rfl, v9, n9, J9, l9, G9'⟩
        have l9' : n9 ≤ 90 := by simp only [List.length_cons, List.length_nil] at l9; omega
        have G9 := GW.trans G9'
        clear J6 J7 J8 G6 G7 GW G7' G8' G9' e7 f7 e8 f8 q2 q3 q4 tb8 l9 l7 l8
        have q5 := (KP.out _ G9 5).trans k5
        have q6 := (KP.out _ G9 6).trans k6
        have q7 := (KP.out _ G9 7).trans k7
        have q8 := (KP.out _ G9 8).trans k8
        have q9 := (KP.out _ G9 9).trans k9
        have GA : Below Bb w2 (w9.alloc (.cells #[.int .u8 wh, .int .u32 wH, .int .u32 wV, .int .u32 wM, .int .i64 ww] 26)) := G9.alloc (Nat.le_of_lt J9.lt) _
        have qa1 := (KP.out _ GA 1).trans k1
        have JA := J9.alloc (.cells #[.int .u8 wh, .int .u32 wH, .int .u32 wV, .int .u32 wM, .int .i64 ww] 26)
        have jA := JA.cell
        have fA := frz JA.box 0
        have m10 : n9 + (⟨#[32, 45]⟩ : ByteArray).size ≤ maxLen := by unfold maxLen; show n9 + 2 ≤ _; omega
        have p10 : n9 + (⟨#[32, 45]⟩ : ByteArray).size ≤ 140737488355328 := by show n9 + 2 ≤ _; omega
        go_wp2_with (at_builtin; refine Lib.wpList_append_own_string _ rfl _ _ 37 9 rfl (Bb + 1) 5 i0 Tryd.underlying37 Tryd.underlying9 hi hz0 hz1 hz2 _ n9 _ rfl JA.own ⟨#[32, 45]⟩ rfl m10 p10 JA.lt ?_; intro v10 w10 hown10 hgrow10 _; obtain ⟨n10, hn10⟩ : ∃ x, x = n9 + 2 := ⟨_, rfl⟩; have hown10' : w10.ownsRow (Bb + 1) 5 1 v10 n10 (Lib.byteCells (([] ++ Lib.decDigits u) ++ [32, 102, 97, 117, 108, 116] ++ [32, 45] ++ nums [ba, ra] ++ [32, 45])) := (by rw [hn10, Lib.byteCells_append]; exact hown10); have hlt10 := JA.lt; obtain ⟨a10, c10, rfl, e10, f10, J10, G10'⟩ := JA.next ((Below.refl (Bb + 1) _).grown hgrow10 (by omega) (fun g' e => (JA.own.lt g' e).1)) hown10' (by rw [List.length_append, JA.len, hn10]; rfl); have l10 : n10 ≤ 100 := (by omega); have GB := GA.trans G10'; have q11 := (KP.out _ GB 11).trans k11; have q12 := (KP.out _ GB 12).trans k12; have q13 := (KP.out _ GB 13).trans k13; clear hown10 hown10' hgrow10 hn10 hlt10 m10 p10)
        have tbB : ∀ x, Below Bb (w10.setCell ⟨Bb, 0, none⟩ (.slice a10 n10 c10)) x → Tb Bb x := fun x h => TBX.out _ (GB.trans h)
        refine (put_j [an, la, va] J10 (by omega) tbB (by simp [World.setCell]) (by intro x hx; simp at hx; rcases hx with rfl | rfl | rfl; exact e_an.out; exact e_la.out; exact e_va.out) (by simp)).mono ?_; rintro e w11 ⟨rfl, v11, n11, J11, l11, G11'⟩
        have GC := GB.trans G11'
        have hcv := conv_j J11 (by have h1 := J11.len; have h2 : 0 < (nums [an, la, va]).length := (by simp [nums, num]); rw [List.length_append] at h1; omega)
        have e11 := J11.cell
        have hfin : Below w.heap.size w w11 := hbw.trans (GC.mono (Nat.le_of_lt HWL.out))
        go_wp2
        go_ret
        refine ⟨congrArg (fun b => Ending.returned (str b)) ?_, hfin⟩
        simp only [HT.out, if_true, HX.out, HM.out, HU.out]
        simp [nums, num, sw, hw]
      | true =>
        have hix : ∀ w, (Instr.index 43 (.agg #[.string ⟨#[]⟩, .string ⟨#[32, 114, 101, 97, 100, 121]⟩, .string ⟨#[32, 119, 97, 105, 116, 115]⟩, .string ⟨#[32, 102, 97, 117, 108, 116]⟩]) (.int .u8 3)).run Tryd.prog w = .ok (.string ⟨#[32, 102, 97, 117, 108, 116]⟩) w := fun _ => by rfl
        go_still_tail 5, (by kernel_rfl)
        change wpList _ _ _ _ _ w5.drew
        have J6 : Bf w5.drew Bb (.slice a4 n4 c4) n4 ([] ++ Lib.decDigits u) := ⟨J4.box, J4.own, J4.len⟩
        have G6 : Below Bb w2 w5.drew := G5.drew
        generalize w5.drew = w6 at *
        clear J4 G5 e4 f4 q1 e5 f5
        have m7 : n4 + (⟨#[32, 102, 97, 117, 108, 116]⟩ : ByteArray).size ≤ maxLen := by unfold maxLen; show n4 + 6 ≤ _; omega
        have p7 : n4 + (⟨#[32, 102, 97, 117, 108, 116]⟩ : ByteArray).size ≤ 140737488355328 := by show n4 + 6 ≤ _; omega
        refine Lib.wpList_append_own_string _ rfl _ _ 37 9 rfl (Bb + 1) 5 i0 Tryd.underlying37 Tryd.underlying9 hi hz0 hz1 hz2 _ n4 _ rfl J6.own ⟨#[32, 102, 97, 117, 108, 116]⟩ rfl m7 p7 J6.lt ?_
        intro v7 w7 hown7 hgrow7 _
        clear m7 p7
        obtain ⟨n7, hn7⟩ : ∃ x, x = n4 + 6 := ⟨_, rfl⟩
        have hown7' : w7.ownsRow (Bb + 1) 5 1 v7 n7 (Lib.byteCells (([] ++ Lib.decDigits u) ++ [32, 102, 97, 117, 108, 116])) := by rw [hn7, Lib.byteCells_append]; exact hown7
        have hlt7 := J6.lt
        obtain ⟨a7, c7, rfl, e7, f7, J7, G7'⟩ := J6.next ((Below.refl (Bb + 1) _).grown hgrow7 (by omega) (fun g' e => (J6.own.lt g' e).1)) hown7' (by rw [List.length_append, J6.len, hn7]; rfl)
        have l7 : n7 ≤ 30 := by omega
        clear hown7 hown7' hgrow7 hn7 hlt7
        have G7 := G6.trans G7'
        have q2 := (KP.out _ G7 2).trans k2
        have m8 : n7 + (⟨#[32, 104, 101, 108, 100]⟩ : ByteArray).size ≤ maxLen := by unfold maxLen; show n7 + 5 ≤ _; omega
        have p8 : n7 + (⟨#[32, 104, 101, 108, 100]⟩ : ByteArray).size ≤ 140737488355328 := by show n7 + 5 ≤ _; omega
        go_wp2_with (at_builtin; refine Lib.wpList_append_own_string _ rfl _ _ 37 9 rfl (Bb + 1) 5 i0 Tryd.underlying37 Tryd.underlying9 hi hz0 hz1 hz2 _ n7 _ rfl J7.own ⟨#[32, 104, 101, 108, 100]⟩ rfl m8 p8 J7.lt ?_; intro v8 w8 hown8 hgrow8 _; obtain ⟨n8, hn8⟩ : ∃ x, x = n7 + 5 := ⟨_, rfl⟩; have hown8' : w8.ownsRow (Bb + 1) 5 1 v8 n8 (Lib.byteCells (([] ++ Lib.decDigits u) ++ [32, 102, 97, 117, 108, 116] ++ [32, 104, 101, 108, 100])) := (by rw [hn8, Lib.byteCells_append]; exact hown8); have hlt8 := J7.lt; obtain ⟨a8, c8, rfl, e8, f8, J8, G8'⟩ := J7.next ((Below.refl (Bb + 1) _).grown hgrow8 (by omega) (fun g' e => (J7.own.lt g' e).1)) hown8' (by rw [List.length_append, J7.len, hn8]; rfl); have l8 : n8 ≤ 40 := (by omega); have GW := G7.trans G8'; have q3 := (KP.out _ GW 3).trans k3; have q4 := (KP.out _ GW 4).trans k4; clear hown8 hown8' hgrow8 hn8 hlt8 m8 p8)
        have tb8 : ∀ x, Below Bb (w8.setCell ⟨Bb, 0, none⟩ (.slice a8 n8 c8)) x → Tb Bb x := fun x h => TBX.out _ (GW.trans h)
        refine (put_j [ba, ra] J8 (by omega) tb8 (by simp [World.setCell]) (by intro x hx; simp at hx; rcases hx with rfl | rfl; exact e_ba.out; exact e_ra.out) (by simp)).mono ?_; rintro e w9 ⟨rfl, v9, n9, J9, l9, G9'⟩
        have l9' : n9 ≤ 90 := by simp only [List.length_cons, List.length_nil] at l9; omega
        have G9 := GW.trans G9'
        clear J6 J7 J8 G6 G7 GW G7' G8' G9' e7 f7 e8 f8 q2 q3 q4 tb8 l9 l7 l8
        have q5 := (KP.out _ G9 5).trans k5
        have q6 := (KP.out _ G9 6).trans k6
        have q7 := (KP.out _ G9 7).trans k7
        have q8 := (KP.out _ G9 8).trans k8
        have q9 := (KP.out _ G9 9).trans k9
        have GA : Below Bb w2 (w9.alloc (.cells #[.int .u8 wh, .int .u32 wH, .int .u32 wV, .int .u32 wM, .int .i64 ww] 26)) := G9.alloc (Nat.le_of_lt J9.lt) _
        have qa1 := (KP.out _ GA 1).trans k1
        have JA := J9.alloc (.cells #[.int .u8 wh, .int .u32 wH, .int .u32 wV, .int .u32 wM, .int .i64 ww] 26)
        have jA := JA.cell
        have fA := frz JA.box 0
        have m10 : n9 + (⟨#[32, 45]⟩ : ByteArray).size ≤ maxLen := by unfold maxLen; show n9 + 2 ≤ _; omega
        have p10 : n9 + (⟨#[32, 45]⟩ : ByteArray).size ≤ 140737488355328 := by show n9 + 2 ≤ _; omega
        go_wp2_with (at_builtin; refine Lib.wpList_append_own_string _ rfl _ _ 37 9 rfl (Bb + 1) 5 i0 Tryd.underlying37 Tryd.underlying9 hi hz0 hz1 hz2 _ n9 _ rfl JA.own ⟨#[32, 45]⟩ rfl m10 p10 JA.lt ?_; intro v10 w10 hown10 hgrow10 _; obtain ⟨n10, hn10⟩ : ∃ x, x = n9 + 2 := ⟨_, rfl⟩; have hown10' : w10.ownsRow (Bb + 1) 5 1 v10 n10 (Lib.byteCells (([] ++ Lib.decDigits u) ++ [32, 102, 97, 117, 108, 116] ++ [32, 104, 101, 108, 100] ++ nums [ba, ra] ++ [32, 45])) := (by rw [hn10, Lib.byteCells_append]; exact hown10); have hlt10 := JA.lt; obtain ⟨a10, c10, rfl, e10, f10, J10, G10'⟩ := JA.next ((Below.refl (Bb + 1) _).grown hgrow10 (by omega) (fun g' e => (JA.own.lt g' e).1)) hown10' (by rw [List.length_append, JA.len, hn10]; rfl); have l10 : n10 ≤ 100 := (by omega); have GB := GA.trans G10'; have q11 := (KP.out _ GB 11).trans k11; have q12 := (KP.out _ GB 12).trans k12; have q13 := (KP.out _ GB 13).trans k13; clear hown10 hown10' hgrow10 hn10 hlt10 m10 p10)
        have tbB : ∀ x, Below Bb (w10.setCell ⟨Bb, 0, none⟩ (.slice a10 n10 c10)) x → Tb Bb x := fun x h => TBX.out _ (GB.trans h)
        refine (put_j [an, la, va] J10 (by omega) tbB (by simp [World.setCell]) (by intro x hx; simp at hx; rcases hx with rfl | rfl | rfl; exact e_an.out; exact e_la.out; exact e_va.out) (by simp)).mono ?_; rintro e w11 ⟨rfl, v11, n11, J11, l11, G11'⟩
        have GC := GB.trans G11'
        have hcv := conv_j J11 (by have h1 := J11.len; have h2 : 0 < (nums [an, la, va]).length := (by simp [nums, num]); rw [List.length_append] at h1; omega)
        have e11 := J11.cell
        have hfin : Below w.heap.size w w11 := hbw.trans (GC.mono (Nat.le_of_lt HWL.out))
        go_wp2
        go_ret
        refine ⟨congrArg (fun b => Ending.returned (str b)) ?_, hfin⟩
        simp only [HT.out, if_true, HX.out, HM.out, HU.out]
        simp [nums, num, sw, hw]
end Go.Proofs.YthaodmobcbccaaaDoor
