/- Images: a line, walked. -/
import Derived.Test.YtcfoljdpffonhaaGreatDoorLi
import Derived.Test.YtcfoljdpffonhaaGreatDoorJf
set_option linter.unusedVariables false
set_option linter.unusedSimpArgs false
namespace Go.Proofs.YtcfoljdpffonhaaGreatDoor
open Go.RowKit Go.Joins Go.Shelf
attribute [local go_sem] Oper.semAt_some

/-- The instruction of a text. -/
def inst (s : List UInt8) : Option I4 := (prs s).map fun p => (UInt8.ofNat p.1, UInt8.ofNat (p.2.getD 0 0).toNat, UInt8.ofNat (p.2.getD 1 0).toNat, UInt8.ofNat (p.2.getD 2 0).toNat)
theorem inst_none {s : List UInt8} (h : prs s = none) : inst s = none := by unfold inst; rw [h]; rfl
theorem u8_of {a : Int} (h : 0 ≤ a ∧ a < 256) : ((UInt8.ofNat a.toNat).toNat : Int) = a := by
  have : (UInt8.ofNat a.toNat).toNat = a.toNat := by simp; omega
  omega
theorem inst_some {s : List UInt8} {o : Nat} {bs : List Int} (h : prs s = some (o, bs)) : ∃ x : I4, inst s = some x ∧ ik x = true ∧ rv o (some bs) = i4v x := by
  obtain ⟨a, b, c, hb, hv, hk, _, ho⟩ := of_prs h
  have he : rv o (some bs) = .agg #[.int .u8 o, .int .u8 (bs.getD 0 0), .int .u8 (bs.getD 1 0), .int .u8 (bs.getD 2 0)] := rfl
  rw [he] at hv
  unfold inS at hv
  injection hv with hv
  simp only [Array.mk.injEq, List.cons.injEq, Value.int.injEq, true_and, and_true] at hv
  obtain ⟨h1, h2, h3⟩ := hv
  obtain ⟨b1, b2, b3⟩ := hb
  refine ⟨_, by unfold inst; rw [h]; rfl, ?_, ?_⟩
  · unfold ik
    simp only [h1, h2, h3, u8_of b1, u8_of b2, u8_of b3]
    have : (UInt8.ofNat o).toNat = o := by simp; omega
    rw [this]; exact hk
  · have e0 : (UInt8.ofNat o).toNat = o := by simp; omega
    rw [he]
    unfold i4v inS
    simp only [h1, h2, h3, u8_of b1, u8_of b2, u8_of b3, e0]
theorem iparse_c {w0 w : World} {r : List Thing} (L : Lf w0) (s : List UInt8) (hs : s.length < 4294967281) (H : Hp w0 w r) :
    Calls Tryz.prog 99 #[strv s] w fun e w' => (∃ x : I4, e = .returned (.tuple #[i4v x, .int .i64 (if (inst s).isSome then 0 else 14)]) ∧ x = (inst s).getD (0, 0, 0, 0)) ∧ Hp w0 w' r := by
  refine (parse_c L s hs H).mono ?_
  rintro e w' ⟨rfl, H'⟩
  refine ⟨?_, H'⟩
  cases hp : prs s with
  | none => exact ⟨(0, 0, 0, 0), by rw [inst_none hp]; rfl, by rw [inst_none hp]; rfl⟩
  | some p =>
    obtain ⟨o, bs⟩ := p
    obtain ⟨x, h1, _, h3⟩ := inst_some hp
    exact ⟨x, by rw [h1]; show Ending.returned (.tuple #[rv o (some bs), .int .i64 0]) = _; rw [h3]; rfl, by rw [h1]; rfl⟩
theorem cut_c {w0 w : World} {r : List Thing} (L : Lf w0) (s : List UInt8) (hs : s.length < 4294967281) (H : Hp w0 w r) :
    Calls Tryz.prog 97 #[strv s, strv [32]] w fun e w' => e = .returned (.tuple #[strv (Lib.cut s [32]).1, strv (Lib.cut s [32]).2.1, .bool (Lib.cut s [32]).2.2]) ∧ Hp w0 w' r := by
  obtain ⟨m, hm⟩ := (L.hp H).max
  refine (Tryz.strings_Cut ⟨s.toArray⟩ ⟨#[32]⟩ m w hs hm).mono ?_
  rintro e w' ⟨rfl, n, rfl⟩
  exact ⟨rfl, H.drewN n⟩
theorem cut_len (s : List UInt8) : (Lib.cut s [32]).2.1.length ≤ s.length := by
  unfold Lib.cut
  split
  · simp
  · simp

theorem fn_neq (f : FuncId) (pb : Nat) (w : World) : (binOp .neq 52 (rowF f pb) .nilFunc).run Tryz.prog w = .ok (.bool true) w := by kernel_rfl
theorem nil_neq (w : World) : (binOp .neq 52 .nilFunc .nilFunc).run Tryz.prog w = .ok (.bool false) w := by kernel_rfl
/-! ### A line. -/
structure Rs where
  n : Int
  d : List UInt8
  c : List I4
  z : Bool
/-- What a line makes of a reader, and whether it is one. -/
def lineP (t : Rs) (s : List UInt8) : Rs × Bool :=
  if (Lib.cut s [32]).1 = [115, 105, 122, 101] then
    if (Lib.cut s [32]).2.2 then ({ t with n := nV (Lib.cut s [32]).2.1, z := true }, szok t.z (Lib.cut s [32]).2.1) else (t, false)
  else if (Lib.cut s [32]).1 = [100, 97, 116, 97] then
    if (Lib.cut s [32]).2.2 then ({ t with d := if dok (Lib.cut s [32]).2.1 then t.d ++ hbs (Lib.cut s [32]).2.1 else t.d }, dok (Lib.cut s [32]).2.1) else (t, false)
  else ({ t with c := t.c ++ [(inst s).getD (0, 0, 0, 0)] }, (inst s).isSome)
abbrev RdT (rb : Nat) (t : Rs) (dv cv : Value) : Thing := RD rb t.n dv cv t.z
def LinePost (w0 : World) (r : List Thing) (rb : Nat) (q : Rs × Bool) (e : Ending) (w' : World) : Prop := ∃ dv' cv', e = .returned (.bool q.2) ∧ Hp w0 w' (OwnU dv' q.1.d :: OwnN cv' q.1.c :: RdT rb q.1 dv' cv' :: r)
theorem linePost_of {w0 w' : World} {r : List Thing} {rb : Nat} {q : Rs × Bool} {n : Int} {d : List UInt8} {c : List I4} {z b : Bool} {dv cv : Value} (hq : q = (⟨n, d, c, z⟩, b)) (H : Hp w0 w' (OwnU dv d :: OwnN cv c :: RD rb n dv cv z :: r)) : LinePost w0 r rb q (.returned (.bool b)) w' := by
  subst hq; exact ⟨_, _, rfl, H⟩
set_option maxHeartbeats 16000000 in
set_option maxRecDepth 20000 in
theorem line_c {w0 w : World} {r : List Thing} {rb : Nat} {t : Rs} {dv cv : Value} (L : Lf w0) (s : List UInt8) (hs : s.length < 4294967281) (hd : t.d.length + s.length < 100000000000) (hc : t.c.length < 100000000000) (H : Hp w0 w (OwnU dv t.d :: OwnN cv t.c :: RdT rb t dv cv :: r)) :
    Calls Tryz.prog 67 #[.pointer (some ⟨rb, 0, none⟩), strv s] w (LinePost w0 r rb (lineP t s)) := by
  have CC := Lib.hid (cut_c L s hs H)
  have hlp : lineP t s = if (Lib.cut s [32]).1 = [115, 105, 122, 101] then
    if (Lib.cut s [32]).2.2 then ({ t with n := nV (Lib.cut s [32]).2.1, z := true }, szok t.z (Lib.cut s [32]).2.1) else (t, false)
  else if (Lib.cut s [32]).1 = [100, 97, 116, 97] then
    if (Lib.cut s [32]).2.2 then ({ t with d := if dok (Lib.cut s [32]).2.1 then t.d ++ hbs (Lib.cut s [32]).2.1 else t.d }, dok (Lib.cut s [32]).2.1) else (t, false)
  else ({ t with c := t.c ++ [(inst s).getD (0, 0, 0, 0)] }, (inst s).isSome) := rfl
  have HCU := Lib.hid (cut_len s)
  generalize lineP t s = q at *
  generalize hcut : Lib.cut s [32] = cu at *
  obtain ⟨wo, re, ok⟩ := cu
  have HLP := Lib.hid hlp
  have HSD : Hid (s.length < 4294967281 ∧ t.d.length + s.length < 100000000000) := Lib.hid ⟨hs, hd⟩
  have HCL := Lib.hid hc
  clear H hcut hlp hs hd hc
  obtain ⟨n, d, c, z⟩ := t
  simp only at HLP CC HCU HSD HCL
  go_enter Tryz.func67, Tryz.ntmps67
  go_wp2_with fail
  refine CC.out.mono ?_; rintro e w1 ⟨rfl, H1⟩
  have H1' := Lib.hid H1
  clear CC H1
  go_wp2_with fail
  refine (rows_c H1'.out).mono ?_; rintro e w2 ⟨m, pb, rfl, H2⟩
  have H2' := Lib.hid H2
  clear H1'
  by_cases h1 : wo = [115, 105, 122, 101]
  · subst h1
    have hq := HLP.out
    rw [if_pos rfl] at hq
    have hl := look_size H2
    have hnn := fn_neq 111 pb w2
    clear H2 HLP
    cases ok with
    | true =>
      rw [if_pos rfl] at hq
      have HQ := Lib.hid hq
      clear hq
      go_wp2_with fail
      refine (row1_c L re (by have := HCU.out; have := HSD.out.1; omega) ((H2'.out.pull 1 rfl).pull 4 rfl)).mono ?_; rintro e w3 ⟨rfl, H3⟩
      have H4 := Lib.hid H3
      clear H3 H2' hl hnn
      go_wp2
      go_ret
      exact linePost_of HQ.out ((((H4.out.pull 1 rfl).tail.pull 1 rfl).tail.pull 2 rfl).pull 2 rfl)
    | false =>
      rw [if_neg (by simp)] at hq
      have HQ := Lib.hid hq
      clear hq
      go_wp2
      go_ret
      exact linePost_of HQ.out H2'.out.tail.tail
  · rw [if_neg h1] at HLP
    by_cases h2 : wo = [100, 97, 116, 97]
    · subst h2
      have hq := HLP.out
      rw [if_pos rfl] at hq
      have hl := look_data H2
      have hnn := fn_neq 114 pb w2
      clear H2 HLP
      cases ok with
      | true =>
        rw [if_pos rfl] at hq
        have HQ := Lib.hid hq
        clear hq
        have HR2 := Lib.hid (row2_c re (by have := HCU.out; have := HSD.out.1; omega) (by have := HCU.out; have := HSD.out.2; omega) (((H2'.out.pull 1 rfl).pull 4 rfl).pull 3 rfl))
        generalize (if dok re then d ++ hbs re else d) = d2 at *
        generalize dok re = db at *
        go_wp2_with fail
        refine HR2.out.mono ?_; rintro e w3 ⟨rfl, dv', H3⟩
        clear HR2
        have H4 := Lib.hid H3
        clear H3 H2' hl hnn
        go_wp2
        go_ret
        exact linePost_of HQ.out ((((H4.out.pull 2 rfl).tail.pull 2 rfl).tail.pull 2 rfl).pull 1 rfl)
      | false =>
        rw [if_neg (by simp)] at hq
        have HQ := Lib.hid hq
        clear hq
        go_wp2
        go_ret
        exact linePost_of HQ.out H2'.out.tail.tail
    · rw [if_neg h2] at HLP
      have hl := look_else H2 h1 h2
      have hnn := nil_neq w2
      clear H2 h1 h2
      have H2 := Lib.hid H2'.out.tail.tail
      go_wp2_with fail
      refine (iparse_c L s HSD.out.1 H2.out).mono ?_; rintro e w3 ⟨⟨x, rfl, hx⟩, H3⟩
      have hq := HLP.out
      rw [← hx] at hq
      have HQ := Lib.hid hq
      clear hx hq HLP H2 H2' hl hnn
      generalize hii : (if (inst s).isSome then (0 : Int) else 14) = er
      have HER : Hid (((0 : Int) == er) = (inst s).isSome ∧ (er == (0 : Int)) = (inst s).isSome) := Lib.hid (by subst hii; cases (inst s).isSome <;> exact ⟨rfl, rfl⟩)
      clear hii
      obtain ⟨x0, x1, x2, x3⟩ := x
      have H4 := Lib.hid (blk_new H3 (.cells #[bv x0, bv x1, bv x2, bv x3] 61))
      clear H3
      obtain ⟨i0, hi, hz0, hz1, hz2⟩ := info_parts info_ins
      go_upto_region 6 with fail
      generalize hxb : w3.heap.size = xb at *
      generalize (w3.alloc (.cells #[bv x0, bv x1, bv x2, bv x3] 61)) = w4 at *
      have H5 := Lib.hid (H4.out.pull 2 rfl)
      obtain ⟨av, cp, rfl⟩ := own_slice H5.out
      have hown := own_get H5.out
      have bx := blk_get (H5.out.pull 1 rfl)
      have br := blk_get (H5.out.pull 3 rfl)
      have r2 : w4.cell? ⟨rb, 2, none⟩ = some (.slice av c.length cp) := cell_blk br 2
      have y0 : w4.cell? ⟨xb, 0, none⟩ = some (bv x0) := cell_blk bx 0
      have y1 : w4.cell? ⟨xb, 1, none⟩ = some (bv x1) := cell_blk bx 1
      have y2 : w4.cell? ⟨xb, 2, none⟩ = some (bv x2) := cell_blk bx 2
      have y3 : w4.cell? ⟨xb, 3, none⟩ = some (bv x3) := cell_blk bx 3
      clear bx br H4
      have hSS : (fun (x : World) => x.cell? ⟨rb, 2, none⟩ = some (.slice av c.length cp) ∧ x.cell? ⟨xb, 0, none⟩ = some (bv x0) ∧ x.cell? ⟨xb, 1, none⟩ = some (bv x1) ∧ x.cell? ⟨xb, 2, none⟩ = some (bv x2) ∧ x.cell? ⟨xb, 3, none⟩ = some (bv x3)) w4.drew := ⟨r2, y0, y1, y2, y3⟩
      refine wp_region_S 12 (fun (x : World) => x.cell? ⟨rb, 2, none⟩ = some (.slice av c.length cp) ∧ x.cell? ⟨xb, 0, none⟩ = some (bv x0) ∧ x.cell? ⟨xb, 1, none⟩ = some (bv x1) ∧ x.cell? ⟨xb, 2, none⟩ = some (bv x2) ∧ x.cell? ⟨xb, 3, none⟩ = some (bv x3)) (by kernel_rfl) ?_
      refine wpAnyS_take (i := 0) (by kernel_rfl) (by kernel_rfl) (by kernel_rfl) (by kernel_rfl) (by kernel_rfl) (by kernel_rfl) (by kernel_rfl) (by kernel_rfl) (by intro c a d v w h; cases d <;> exact h) hSS (fun oi hoi => ?_)
      simp only [List.getElem?_toArray, List.getElem?_cons_zero, List.getElem?_cons_succ, Option.some.injEq] at hoi; subst hoi
      refine ⟨?_, by rfl, fun wx hSx => ?_, ?_⟩
      rotate_left
      · obtain ⟨s1, s2, s3, s4, s5⟩ := hSx
        go_simp
        try with_reducible rfl
      try simp only [Act.put, List.setIfInBounds_toArray, List.set_cons_zero, List.set_cons_succ]
      refine wpAnyS_take (i := 1) (by kernel_rfl) (by kernel_rfl) (by kernel_rfl) (by kernel_rfl) (by kernel_rfl) (by kernel_rfl) (by kernel_rfl) (by kernel_rfl) (by intro c a d v w h; cases d <;> exact h) hSS (fun oi hoi => ?_)
      simp only [List.getElem?_toArray, List.getElem?_cons_zero, List.getElem?_cons_succ, Option.some.injEq] at hoi; subst hoi
      refine ⟨?_, by rfl, fun wx hSx => ?_, ?_⟩
      rotate_left
      · obtain ⟨s1, s2, s3, s4, s5⟩ := hSx
        go_simp
        try with_reducible rfl
      try simp only [Act.put, List.setIfInBounds_toArray, List.set_cons_zero, List.set_cons_succ]
      refine wpAnyS_take (i := 2) (by kernel_rfl) (by kernel_rfl) (by kernel_rfl) (by kernel_rfl) (by kernel_rfl) (by kernel_rfl) (by kernel_rfl) (by kernel_rfl) (by intro c a d v w h; cases d <;> exact h) hSS (fun oi hoi => ?_)
      simp only [List.getElem?_toArray, List.getElem?_cons_zero, List.getElem?_cons_succ, Option.some.injEq] at hoi; subst hoi
      refine ⟨?_, by rfl, fun wx hSx => ?_, ?_⟩
      rotate_left
      · obtain ⟨s1, s2, s3, s4, s5⟩ := hSx
        go_simp
        try with_reducible rfl
      try simp only [Act.put, List.setIfInBounds_toArray, List.set_cons_zero, List.set_cons_succ]
      refine wpAnyS_take (i := 3) (by kernel_rfl) (by kernel_rfl) (by kernel_rfl) (by kernel_rfl) (by kernel_rfl) (by kernel_rfl) (by kernel_rfl) (by kernel_rfl) (by intro c a d v w h; cases d <;> exact h) hSS (fun oi hoi => ?_)
      simp only [List.getElem?_toArray, List.getElem?_cons_zero, List.getElem?_cons_succ, Option.some.injEq] at hoi; subst hoi
      refine ⟨?_, by rfl, fun wx hSx => ?_, ?_⟩
      rotate_left
      · obtain ⟨s1, s2, s3, s4, s5⟩ := hSx
        go_simp
        try with_reducible rfl
      try simp only [Act.put, List.setIfInBounds_toArray, List.set_cons_zero, List.set_cons_succ]
      refine wpAnyS_take (i := 4) (by kernel_rfl) (by kernel_rfl) (by kernel_rfl) (by kernel_rfl) (by kernel_rfl) (by kernel_rfl) (by kernel_rfl) (by kernel_rfl) (by intro c a d v w h; cases d <;> exact h) hSS (fun oi hoi => ?_)
      simp only [List.getElem?_toArray, List.getElem?_cons_zero, List.getElem?_cons_succ, Option.some.injEq] at hoi; subst hoi
      refine ⟨?_, by rfl, fun wx hSx => ?_, ?_⟩
      rotate_left
      · obtain ⟨s1, s2, s3, s4, s5⟩ := hSx
        go_simp
        try with_reducible rfl
      try simp only [Act.put, List.setIfInBounds_toArray, List.set_cons_zero, List.set_cons_succ]
      refine wpAnyS_take (i := 5) (by kernel_rfl) (by kernel_rfl) (by kernel_rfl) (by kernel_rfl) (by kernel_rfl) (by kernel_rfl) (by kernel_rfl) (by kernel_rfl) (by intro c a d v w h; cases d <;> exact h) hSS (fun oi hoi => ?_)
      simp only [List.getElem?_toArray, List.getElem?_cons_zero, List.getElem?_cons_succ, Option.some.injEq] at hoi; subst hoi
      refine ⟨?_, by rfl, fun wx hSx => ?_, ?_⟩
      rotate_left
      · obtain ⟨s1, s2, s3, s4, s5⟩ := hSx
        go_simp
        try with_reducible rfl
      try simp only [Act.put, List.setIfInBounds_toArray, List.set_cons_zero, List.set_cons_succ]
      refine wpAnyS_take (i := 6) (by kernel_rfl) (by kernel_rfl) (by kernel_rfl) (by kernel_rfl) (by kernel_rfl) (by kernel_rfl) (by kernel_rfl) (by kernel_rfl) (by intro c a d v w h; cases d <;> exact h) hSS (fun oi hoi => ?_)
      simp only [List.getElem?_toArray, List.getElem?_cons_zero, List.getElem?_cons_succ, Option.some.injEq] at hoi; subst hoi
      refine ⟨?_, by rfl, fun wx hSx => ?_, ?_⟩
      rotate_left
      · obtain ⟨s1, s2, s3, s4, s5⟩ := hSx
        go_simp
        try with_reducible rfl
      try simp only [Act.put, List.setIfInBounds_toArray, List.set_cons_zero, List.set_cons_succ]
      refine wpAnyS_one (i := 7) (by kernel_rfl) ?_
      intro oi hoi K hK
      simp only [List.getElem?_toArray, List.getElem?_cons_zero, List.getElem?_cons_succ, Option.some.injEq] at hoi; subst hoi
      go_simp
      refine hK.out _ _ (fun _ => ⟨cell_alloc_l' _ r2, cell_alloc_l' _ y0, cell_alloc_l' _ y1, cell_alloc_l' _ y2, cell_alloc_l' _ y3⟩) ?_
      clear hK K
      try simp only [Act.put, List.setIfInBounds_toArray, List.set_cons_zero, List.set_cons_succ]
      refine wpAnyS_one (i := 8) (by kernel_rfl) ?_
      intro oi hoi K hK
      simp only [List.getElem?_toArray, List.getElem?_cons_zero, List.getElem?_cons_succ, Option.some.injEq] at hoi; subst hoi
      refine step_append_lies _ (by rfl) _ _ _ (by rfl) 0 61 i0 _ 4 4 Tryz.underlying23 hi hz0 hz1 hz2 rfl (by omega) (.slice av c.length cp) c.length (ics c) (by rfl) (hown.drew.alloc _) ⟨w4.heap.size, 0, none⟩ 1 1 [bv x0, bv x1, bv x2, bv x3] (by rfl) (by rfl) (World.news_of_block (cs := #[bv x0, bv x1, bv x2, bv x3]) (t := 61) (fr := (0, 0)) (blk_alloc_new _ _)) (by simp [Value.oneCell', bv]) (by omega) (by have := HCL.out; unfold maxLen; omega) (by have := HCL.out; omega) (by omega) _ rfl ?_
      intro g cap w5 hown2 hgrow hat hlt9
      have HB := own_turn (H5.out.drew.alloc _) hgrow hown2 (hat.elim (fun h => Or.inl h.symm) (fun h => Or.inr (by rw [h]; rfl)))
      have bx := blk_get (HB.pull 1 rfl)
      have br := blk_get (HB.pull 3 rfl)
      have r4 : w5.cell? ⟨rb, 2, none⟩ = some (.slice av c.length cp) := cell_blk br 2
      have f4 := free_blk br 2
      have hSS : (fun (x : World) => x.cell? ⟨rb, 2, none⟩ = some (.slice av c.length cp) ∧ x.cell? ⟨xb, 0, none⟩ = some (bv x0) ∧ x.cell? ⟨xb, 1, none⟩ = some (bv x1) ∧ x.cell? ⟨xb, 2, none⟩ = some (bv x2) ∧ x.cell? ⟨xb, 3, none⟩ = some (bv x3)) w5 := ⟨r4, cell_blk bx 0, cell_blk bx 1, cell_blk bx 2, cell_blk bx 3⟩
      refine hK.out _ _ (fun _ => hSS) ?_
      replace HB := Lib.hid HB
      clear hK K hown2 hgrow hat hlt9 bx br
      try simp only [Act.put, List.setIfInBounds_toArray, List.set_cons_zero, List.set_cons_succ]
      refine wpAnyS_take (i := 9) (by kernel_rfl) (by kernel_rfl) (by kernel_rfl) (by kernel_rfl) (by kernel_rfl) (by kernel_rfl) (by kernel_rfl) (by kernel_rfl) (by intro c a d v w h; cases d <;> exact h) hSS (fun oi hoi => ?_)
      simp only [List.getElem?_toArray, List.getElem?_cons_zero, List.getElem?_cons_succ, Option.some.injEq] at hoi; subst hoi
      refine ⟨?_, by rfl, fun wx hSx => ?_, ?_⟩
      rotate_left
      · obtain ⟨s1, s2, s3, s4, s5⟩ := hSx
        go_simp
        try with_reducible rfl
      try simp only [Act.put, List.setIfInBounds_toArray, List.set_cons_zero, List.set_cons_succ]
      refine wpAnyS_take (i := 10) (by kernel_rfl) (by kernel_rfl) (by kernel_rfl) (by kernel_rfl) (by kernel_rfl) (by kernel_rfl) (by kernel_rfl) (by kernel_rfl) (by intro c a d v w h; cases d <;> exact h) hSS (fun oi hoi => ?_)
      simp only [List.getElem?_toArray, List.getElem?_cons_zero, List.getElem?_cons_succ, Option.some.injEq] at hoi; subst hoi
      refine ⟨?_, by rfl, fun wx hSx => ?_, ?_⟩
      rotate_left
      · obtain ⟨s1, s2, s3, s4, s5⟩ := hSx
        go_simp
        try with_reducible rfl
      try simp only [Act.put, List.setIfInBounds_toArray, List.set_cons_zero, List.set_cons_succ]
      refine wpAnyS_take (i := 11) (by kernel_rfl) (by kernel_rfl) (by kernel_rfl) (by kernel_rfl) (by kernel_rfl) (by kernel_rfl) (by kernel_rfl) (by kernel_rfl) (by intro c a d v w h; cases d <;> exact h) hSS (fun oi hoi => ?_)
      simp only [List.getElem?_toArray, List.getElem?_cons_zero, List.getElem?_cons_succ, Option.some.injEq] at hoi; subst hoi
      refine ⟨?_, by rfl, fun wx hSx => ?_, ?_⟩
      rotate_left
      · obtain ⟨s1, s2, s3, s4, s5⟩ := hSx
        go_simp
        try with_reducible rfl
      try simp only [Act.put, List.setIfInBounds_toArray, List.set_cons_zero, List.set_cons_succ]
      refine wpAnyS_one (i := 12) (by kernel_rfl) ?_
      intro oi hoi K hK
      simp only [List.getElem?_toArray, List.getElem?_cons_zero, List.getElem?_cons_succ, Option.some.injEq] at hoi; subst hoi
      go_simp
      refine hK.out _ _ (fun h => absurd h (by decide)) ?_
      clear hK K
      try simp only [Act.put, List.setIfInBounds_toArray, List.set_cons_zero, List.set_cons_succ]
      refine wpAnyS_done (by kernel_rfl) ?_ _
      have HC := blk_set (HB.out.pull 3 rfl) 2 (.slice (some ⟨g, 0, none⟩) (c.length + 1) cap)
      have HD := Lib.hid (((on_snoc (x := (x0, x1, x2, x3)) (HC.pull 1 rfl)).pull 2 rfl).tail.pull 2 rfl)
      clear HC HB r2 y0 y1 y2 y3 r4 f4 hown H5
      go_wp2
      go_ret
      exact linePost_of (HQ.out.trans (by rw [HER.out.2])) HD.out
end Go.Proofs.YtcfoljdpffonhaaGreatDoor
