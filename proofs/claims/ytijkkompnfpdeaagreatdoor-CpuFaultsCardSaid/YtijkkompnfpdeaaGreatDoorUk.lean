/- Cores: what an instruction does: the console: walked. -/
import Derived.Test.YtijkkompnfpdeaaGreatDoorUf
import Derived.Deep.AppendLies
set_option linter.unusedVariables false
set_option linter.unusedSimpArgs false
namespace Go.Proofs.YtijkkompnfpdeaaGreatDoor
open Go.RowKit Go.Joins Go.Shelf
attribute [local go_sem] Oper.semAt_some

theorem step_append_hq {P : Program} {w0 w : World} {ops : Array Oper} {o : Oper} {a : Act} {K : Act → World → Prop} {Q : Exit → Act → World → Prop} {E : Prop} (hgd : o.guard = none) (s x : Operand) (t : TypeId)
    (ho : o.op = .call { callee := .builtin .append, args := #[s, x], argTypes := #[t, t] })
    (e : TypeId) (i : TypeInfo) (z : Value) (size bytes : Nat) (ht : P.underlying t = some (.slice e)) (hi : P.info? e = some i) (hz : i.zero = some z)
    (hsize : i.size = size) (hby : i.bytes = bytes) (hzs : z.cells.size = size) (hsz : 0 < size)
    {v : Value} {n : Nat} {xs : List Value} {r : List Thing} (H : Hp w0 w (Own e size v n xs :: r)) (hs : a.eval s = v)
    (ad : Addr) (m c : Nat) (news : List Value) (hx : a.eval x = .slice (some ad) m c) (hl : news.length = m * size) (hnews : ∀ j u, news[j]? = some u → w.cell? (ad.add j) = some u) (h1 : ∀ u ∈ news, u.oneCell' = true)
    (h63 : n + m ≤ 1000000) (hb : bytes ≤ 1000000)
    (h : ∀ v' w', Hp w0 w' (Own e size v' (n + m) (xs ++ news) :: r) → K (a.put o.dst v') w') :
    if Region.wanted o (yielded ops a.tmps) = true then Oper.wp P o a w K Q else E := by
  have hw : Region.wanted o (yielded ops a.tmps) = true := by simp [Region.wanted, hgd]
  rw [if_pos hw]
  have hbb : (n + m) * bytes ≤ 1000000 * 1000000 := Nat.mul_le_mul h63 hb
  obtain ⟨v', w', hr, h2, h3, _, h5⟩ := run_append_own_at (P := P) w 0 t o.type e i z size bytes ht hi hz hsize hby hzs hsz v n xs (own_get H) ad m c news hl hnews h1 (by unfold maxLen; omega) (by omega) (Nat.zero_le _)
  unfold Oper.wp execOp
  simp only [ho, resolve, invoke, builtin, Sem.run_bind, Sem.run_pure, Result.andThen_ok, List.map_toArray, List.map_cons, List.map_nil, hs, hx, hr]
  exact h v' w' (own_turn H h3 h2 h5)
theorem own_capq {w0 w : World} {r : List Thing} {e : TypeId} {size n c : Nat} {a : Option Addr} {cs : List Value} (H : Hp w0 w (Own e size (.slice a n c) n cs :: r)) : n ≤ c := by
  rcases (own_get H).2 with ⟨h1, h2⟩ | ⟨_, _, _, hq, _, _, hq2, _⟩
  · injection h1 with _ h4 h3; omega
  · injection hq with _ _ h3; omega
set_option maxHeartbeats 8000000 in
set_option maxRecDepth 20000 in
theorem op20_c {w0 w : World} {r : List Thing} {b : Nat} {c : List I4} {s : Cs} (o x y z : UInt8) (hx : x.toNat < 8) (hs : s.says.length < 256) (H : Hp w0 w (CR b c s :: r)) :
    Calls Tryz.prog 94 #[.pointer (some ⟨b, 0, none⟩), i4v (o, x, y, z)] w fun e w' => e = .returned (.int .i64 0) ∧ Hp w0 w' (CR b c { s with says := s.says ++ [UInt8.ofNat (rg s x).toNat] } :: r) := by
  obtain ⟨rb, mb, vc, vs, hl, hm, H2⟩ := cr_open H
  have H3 := blk_new H2 (.cells #[bv o, bv x, bv y, bv z] 26)
  have H4 : Hid (Hp w0 _ (XB w.heap.size (o, x, y, z) :: _)) := Lib.hid H3
  have HM := Lib.hid hm
  have HL := Lib.hid hl
  clear H H2 H3 hm hl
  have hx8 : (x.toNat : Int) < 8 := by omega
  have HS := Lib.hid hs
  have q1 : IntKind.u8.wrap ((rg s x).toNat : Int) = ((UInt8.ofNat (rg s x).toNat).toNat : Int) := by simp [IntKind.wrap_u8]
  generalize UInt8.ofNat (rg s x).toNat = d at *
  obtain ⟨av, cp, rfl⟩ := own_slice (H4.out.pull 5 rfl)
  obtain ⟨i0, hi, hz0, hz1, hz2⟩ := info_parts info_b8
  have E1 := Lib.hid (show s.says.map bv ++ [bv d] = (s.says ++ [d]).map bv by simp)
  have E2 := Lib.hid (show s.says.length + 1 = (s.says ++ [d]).length by simp)
  have E3 := Lib.hid (show (s.says ++ [d]).length ≤ 256 ∧ 1 ≤ (s.says ++ [d]).length by simp; omega)
  generalize s.says ++ [d] = l2 at *
  clear hs
  go_enter Tryz.func94, Tryz.ntmps94
  go_upto_region 1 with fail
  generalize w.heap.size = xb at *
  generalize (w.alloc (.cells #[bv o, bv x, bv y, bv z] 26)) = w1 at *
  refine wp_region_S 17 (fun W => SX b xb rb s (o, x, y, z) W ∧ W.cell? ⟨b, 11, none⟩ = some (.slice av s.says.length cp)) (by as_aux_lemma => kernel_rfl) ?_
  have hSS : (fun (W : World) => SX b xb rb s (o, x, y, z) W ∧ W.cell? ⟨b, 11, none⟩ = some (.slice av s.says.length cp)) w1.drew := ⟨sx_of H4.out.drew HL.out, cb_cell H4.out.drew.tail HL.out 3⟩
  refine wpAnyS_tk (i := 0) (by as_aux_lemma => kernel_rfl) (by intro c a d v w h; cases d <;> exact h) hSS (fun oi hoi => ?_)
  simp only [List.getElem?_toArray, List.getElem?_cons_zero, List.getElem?_cons_succ, Option.some.injEq] at hoi; subst hoi
  refine ⟨?_, by rfl, fun wx hSx => ?_, ?_⟩
  rotate_left
  · obtain ⟨⟨s0, s1, s2, s3, sg, sm⟩, ss⟩ := hSx; have g0 := sg x hx; clear sg
    go_simp
    try with_reducible rfl
  try simp only [Act.put, List.setIfInBounds_toArray, List.set_cons_zero, List.set_cons_succ]
  refine wpAnyS_tk (i := 1) (by as_aux_lemma => kernel_rfl) (by intro c a d v w h; cases d <;> exact h) hSS (fun oi hoi => ?_)
  simp only [List.getElem?_toArray, List.getElem?_cons_zero, List.getElem?_cons_succ, Option.some.injEq] at hoi; subst hoi
  refine ⟨?_, by rfl, fun wx hSx => ?_, ?_⟩
  rotate_left
  · obtain ⟨⟨s0, s1, s2, s3, sg, sm⟩, ss⟩ := hSx; have g0 := sg x hx; clear sg
    go_simp
    try with_reducible rfl
  try simp only [Act.put, List.setIfInBounds_toArray, List.set_cons_zero, List.set_cons_succ]
  refine wpAnyS_tk (i := 2) (by as_aux_lemma => kernel_rfl) (by intro c a d v w h; cases d <;> exact h) hSS (fun oi hoi => ?_)
  simp only [List.getElem?_toArray, List.getElem?_cons_zero, List.getElem?_cons_succ, Option.some.injEq] at hoi; subst hoi
  refine ⟨?_, by rfl, fun wx hSx => ?_, ?_⟩
  rotate_left
  · obtain ⟨⟨s0, s1, s2, s3, sg, sm⟩, ss⟩ := hSx; have g0 := sg x hx; clear sg
    go_simp
    try with_reducible rfl
  try simp only [Act.put, List.setIfInBounds_toArray, List.set_cons_zero, List.set_cons_succ]
  refine wpAnyS_tk (i := 3) (by as_aux_lemma => kernel_rfl) (by intro c a d v w h; cases d <;> exact h) hSS (fun oi hoi => ?_)
  simp only [List.getElem?_toArray, List.getElem?_cons_zero, List.getElem?_cons_succ, Option.some.injEq] at hoi; subst hoi
  refine ⟨?_, by rfl, fun wx hSx => ?_, ?_⟩
  rotate_left
  · obtain ⟨⟨s0, s1, s2, s3, sg, sm⟩, ss⟩ := hSx; have g0 := sg x hx; clear sg
    go_simp
    try with_reducible rfl
  try simp only [Act.put, List.setIfInBounds_toArray, List.set_cons_zero, List.set_cons_succ]
  refine wpAnyS_tk (i := 4) (by as_aux_lemma => kernel_rfl) (by intro c a d v w h; cases d <;> exact h) hSS (fun oi hoi => ?_)
  simp only [List.getElem?_toArray, List.getElem?_cons_zero, List.getElem?_cons_succ, Option.some.injEq] at hoi; subst hoi
  refine ⟨?_, by rfl, fun wx hSx => ?_, ?_⟩
  rotate_left
  · obtain ⟨⟨s0, s1, s2, s3, sg, sm⟩, ss⟩ := hSx; have g0 := sg x hx; clear sg
    go_simp
    try with_reducible rfl
  try simp only [Act.put, List.setIfInBounds_toArray, List.set_cons_zero, List.set_cons_succ]
  refine wpAnyS_tk (i := 5) (by as_aux_lemma => kernel_rfl) (by intro c a d v w h; cases d <;> exact h) hSS (fun oi hoi => ?_)
  simp only [List.getElem?_toArray, List.getElem?_cons_zero, List.getElem?_cons_succ, Option.some.injEq] at hoi; subst hoi
  refine ⟨?_, by rfl, fun wx hSx => ?_, ?_⟩
  rotate_left
  · obtain ⟨⟨s0, s1, s2, s3, sg, sm⟩, ss⟩ := hSx; have g0 := sg x hx; clear sg
    go_simp
    try with_reducible rfl
  try simp only [Act.put, List.setIfInBounds_toArray, List.set_cons_zero, List.set_cons_succ]
  refine wpAnyS_tk (i := 6) (by as_aux_lemma => kernel_rfl) (by intro c a d v w h; cases d <;> exact h) hSS (fun oi hoi => ?_)
  simp only [List.getElem?_toArray, List.getElem?_cons_zero, List.getElem?_cons_succ, Option.some.injEq] at hoi; subst hoi
  refine ⟨?_, by rfl, fun wx hSx => ?_, ?_⟩
  rotate_left
  · obtain ⟨⟨s0, s1, s2, s3, sg, sm⟩, ss⟩ := hSx; have g0 := sg x hx; clear sg
    go_simp
    try with_reducible rfl
  try simp only [Act.put, List.setIfInBounds_toArray, List.set_cons_zero, List.set_cons_succ]
  refine wpAnyS_tk (i := 7) (by as_aux_lemma => kernel_rfl) (by intro c a d v w h; cases d <;> exact h) hSS (fun oi hoi => ?_)
  simp only [List.getElem?_toArray, List.getElem?_cons_zero, List.getElem?_cons_succ, Option.some.injEq] at hoi; subst hoi
  refine ⟨?_, by rfl, fun wx hSx => ?_, ?_⟩
  rotate_left
  · obtain ⟨⟨s0, s1, s2, s3, sg, sm⟩, ss⟩ := hSx; have g0 := sg x hx; clear sg
    go_simp
    try with_reducible rfl
  try simp only [Act.put, List.setIfInBounds_toArray, List.set_cons_zero, List.set_cons_succ]
  refine wpAnyS_tk (i := 8) (by as_aux_lemma => kernel_rfl) (by intro c a d v w h; cases d <;> exact h) hSS (fun oi hoi => ?_)
  simp only [List.getElem?_toArray, List.getElem?_cons_zero, List.getElem?_cons_succ, Option.some.injEq] at hoi; subst hoi
  refine ⟨?_, by rfl, fun wx hSx => ?_, ?_⟩
  rotate_left
  · obtain ⟨⟨s0, s1, s2, s3, sg, sm⟩, ss⟩ := hSx; have g0 := sg x hx; clear sg
    go_simp
    try with_reducible rfl
  try simp only [Act.put, List.setIfInBounds_toArray, List.set_cons_zero, List.set_cons_succ]
  refine wpAnyS_tk (i := 9) (by as_aux_lemma => kernel_rfl) (by intro c a d v w h; cases d <;> exact h) hSS (fun oi hoi => ?_)
  simp only [List.getElem?_toArray, List.getElem?_cons_zero, List.getElem?_cons_succ, Option.some.injEq] at hoi; subst hoi
  refine ⟨?_, by rfl, fun wx hSx => ?_, ?_⟩
  rotate_left
  · obtain ⟨⟨s0, s1, s2, s3, sg, sm⟩, ss⟩ := hSx; have g0 := sg x hx; clear sg
    go_simp
    try with_reducible rfl
  try simp only [Act.put, List.setIfInBounds_toArray, List.set_cons_zero, List.set_cons_succ]
  refine wpAnyS_tk (i := 10) (by as_aux_lemma => kernel_rfl) (by intro c a d v w h; cases d <;> exact h) hSS (fun oi hoi => ?_)
  simp only [List.getElem?_toArray, List.getElem?_cons_zero, List.getElem?_cons_succ, Option.some.injEq] at hoi; subst hoi
  refine ⟨?_, by rfl, fun wx hSx => ?_, ?_⟩
  rotate_left
  · obtain ⟨⟨s0, s1, s2, s3, sg, sm⟩, ss⟩ := hSx; have g0 := sg x hx; clear sg
    go_simp
    try with_reducible rfl
  try simp only [Act.put, List.setIfInBounds_toArray, List.set_cons_zero, List.set_cons_succ]
  refine wpAnyS_tk (i := 11) (by as_aux_lemma => kernel_rfl) (by intro c a d v w h; cases d <;> exact h) hSS (fun oi hoi => ?_)
  simp only [List.getElem?_toArray, List.getElem?_cons_zero, List.getElem?_cons_succ, Option.some.injEq] at hoi; subst hoi
  refine ⟨?_, by rfl, fun wx hSx => ?_, ?_⟩
  rotate_left
  · obtain ⟨⟨s0, s1, s2, s3, sg, sm⟩, ss⟩ := hSx; have g0 := sg x hx; clear sg
    go_simp
    try with_reducible rfl
  try simp only [Act.put, List.setIfInBounds_toArray, List.set_cons_zero, List.set_cons_succ]
  refine wpAnyS_tk (i := 12) (by as_aux_lemma => kernel_rfl) (by intro c a d v w h; cases d <;> exact h) hSS (fun oi hoi => ?_)
  simp only [List.getElem?_toArray, List.getElem?_cons_zero, List.getElem?_cons_succ, Option.some.injEq] at hoi; subst hoi
  refine ⟨?_, by rfl, fun wx hSx => ?_, ?_⟩
  rotate_left
  · obtain ⟨⟨s0, s1, s2, s3, sg, sm⟩, ss⟩ := hSx; have g0 := sg x hx; clear sg
    go_simp
    try with_reducible rfl
  try simp only [Act.put, List.setIfInBounds_toArray, List.set_cons_zero, List.set_cons_succ]
  refine wpAnyS_one (i := 13) (by as_aux_lemma => kernel_rfl) ?_
  intro oi hoi K hK
  simp only [List.getElem?_toArray, List.getElem?_cons_zero, List.getElem?_cons_succ, Option.some.injEq] at hoi; subst hoi
  go_simp
  have H5 := Lib.hid (H4.out.drew.alloc (.cells #[bv d] 5))
  have hSS2 := (show (fun (W : World) => SX b xb rb s (o, x, y, z) W ∧ W.cell? ⟨b, 11, none⟩ = some (.slice av s.says.length cp)) _ from ⟨sx_of H5.out HL.out, cb_cell H5.out.tail HL.out 3⟩)
  refine hK.out _ _ (fun _ => hSS2) ?_
  clear hK K
  try simp only [Act.put, List.setIfInBounds_toArray, List.set_cons_zero, List.set_cons_succ]
  refine wpAnyS_one (i := 14) (by as_aux_lemma => kernel_rfl) ?_
  intro oi hoi K hK
  simp only [List.getElem?_toArray, List.getElem?_cons_zero, List.getElem?_cons_succ, Option.some.injEq] at hoi; subst hoi
  refine step_append_hq (by rfl) _ _ 22 (by rfl) 5 i0 _ 1 1 Tryz.underlying22 hi hz0 hz1 hz2 rfl (by decide) (H5.out.pull 5 rfl) (by rfl) ⟨w1.drew.heap.size, 0, none⟩ 1 1 [bv d] (by rfl) (by rfl) (World.news_of_block (cs := #[bv d]) (t := 5) (fr := (0, 0)) (blk_alloc_new _ _)) (by simp [Value.oneCell', bv]) (by have := HS.out; omega) (by omega) ?_
  intro v5 w5 HA0
  rw [E1.out, E2.out] at HA0
  have H6 := Lib.hid ((HA0.pull 2 rfl).pull 2 rfl)
  obtain ⟨g5, c5, rfl⟩ := Go.Joins.ownsRow_form (own_get HA0) E3.out.2
  have hc5 := Lib.hid (own_capq HA0)
  have hSS3 := (show (fun (W : World) => SX b xb rb s (o, x, y, z) W ∧ W.cell? ⟨b, 11, none⟩ = some (.slice av s.says.length cp)) w5 from ⟨sx_of H6.out HL.out, cb_cell H6.out.tail HL.out 3⟩)
  refine hK.out _ _ (fun _ => hSS3) ?_
  clear HA0 H5 H4 hSS hSS2
  have hSS := hSS3
  clear hK K
  try simp only [Act.put, List.setIfInBounds_toArray, List.set_cons_zero, List.set_cons_succ]
  refine wpAnyS_tk (i := 15) (by as_aux_lemma => kernel_rfl) (by intro c a d v w h; cases d <;> exact h) hSS (fun oi hoi => ?_)
  simp only [List.getElem?_toArray, List.getElem?_cons_zero, List.getElem?_cons_succ, Option.some.injEq] at hoi; subst hoi
  refine ⟨?_, by rfl, fun wx hSx => ?_, ?_⟩
  rotate_left
  · obtain ⟨⟨s0, s1, s2, s3, sg, sm⟩, ss⟩ := hSx; have g0 := sg x hx; clear sg
    go_simp
    try with_reducible rfl
  try simp only [Act.put, List.setIfInBounds_toArray, List.set_cons_zero, List.set_cons_succ]
  refine wpAnyS_tk (i := 16) (by as_aux_lemma => kernel_rfl) (by intro c a d v w h; cases d <;> exact h) hSS (fun oi hoi => ?_)
  simp only [List.getElem?_toArray, List.getElem?_cons_zero, List.getElem?_cons_succ, Option.some.injEq] at hoi; subst hoi
  refine ⟨?_, by rfl, fun wx hSx => ?_, ?_⟩
  rotate_left
  · obtain ⟨⟨s0, s1, s2, s3, sg, sm⟩, ss⟩ := hSx; have g0 := sg x hx; clear sg
    go_simp
    try with_reducible rfl
  try simp only [Act.put, List.setIfInBounds_toArray, List.set_cons_zero, List.set_cons_succ]
  have f0 := hSS.2
  have fz := free_blk (blk_get H6.out.tail) 11
  refine wpAnyS_one (i := 17) (by as_aux_lemma => kernel_rfl) ?_
  intro oi hoi K hK
  simp only [List.getElem?_toArray, List.getElem?_cons_zero, List.getElem?_cons_succ, Option.some.injEq] at hoi; subst hoi
  go_simp
  refine hK.out _ _ (fun h => absurd h (by decide)) ?_
  clear hK K
  try simp only [Act.put, List.setIfInBounds_toArray, List.set_cons_zero, List.set_cons_succ]
  refine wpAnyS_done (by as_aux_lemma => kernel_rfl) ?_ _
  have H7 := Lib.hid (cb_setsays H6.out.tail HL.out (.slice (some ⟨g5, 0, none⟩) l2.length c5))
  generalize (w5.setCell ⟨b, 11, none⟩ (.slice (some ⟨g5, 0, none⟩) l2.length c5)) = w6 at *
  have f1 : w6.cell? ⟨b, 11, none⟩ = some (.slice (some ⟨g5, 0, none⟩) l2.length c5) := cb_cell H7.out HL.out 3
  have fy := free_blk (blk_get H7.out) 11
  have m1 : IntKind.i64.wrap ((l2.length : Int) - 256) = (l2.length : Int) - 256 := by have := E3.out.1; rw [IntKind.wrap_i64]; omega
  have m2 : ¬ ((0 : Int) < (l2.length : Int) - 256) := by have := E3.out.1; omega
  have m3 : ((l2.length : Int) - 256) ≤ 0 := by have := E3.out.1; omega
  have HZ := Lib.hid (cb_setsays H7.out HL.out (.slice (some ⟨g5, 0, none⟩) l2.length c5))
  have n1 : ¬ c5 = 0 := by have := hc5.out; have := E3.out.2; omega
  have n2 : 0 < c5 := by omega
  have n3 : (l2.length : Int) ≤ (c5 : Int) := by have := hc5.out; omega
  have HY := Lib.hid (cr_shut (s := { s with says := l2 }) HL.out HM.out (((((HZ.out.pull 1 rfl).pull 4 rfl).pull 4 rfl).pull 4 rfl).pull 4 rfl))
  clear hSS hSS3 H6 H7 f0 fz hc5 HZ
  go_wp2
  go_region
  go_wp2
  go_ret
  exact ⟨rfl, HY.out.drew⟩
end Go.Proofs.YtijkkompnfpdeaaGreatDoor
