/- Cores: what an instruction does: the console: walked. Cores: the rules by Op; what any instruction does: walked. Cores: what any instruction that asks nothing does: walked. Cores: the deferred closure; what a step hands back: walked. Cores: a step that is refused: walked. -/
import Derived.Test.YtijkkompnfpdeaaGreatDoorP05
import Derived.Deep.AppendLies
import Derived.Test.YtijkkompnfpdeaaGreatDoorP06
import Derived.Test.YtijkkompnfpdeaaGreatDoorP07
import Derived.Test.YtijkkompnfpdeaaGreatDoorP08
import Derived.Laws.EntriesVeiled
import Derived.RangeFuncRecord
import Derived.Defers
import Derived.Recover
import Derived.Laws.ResultCell
set_option linter.unusedVariables false
set_option linter.unusedSimpArgs false
namespace Go.Proofs.YtijkkompnfpdeaaGreatDoor
open Go.RowKit Go.Joins Go.Shelf
attribute [local go_sem] Oper.semAt_some

theorem step_append_hq {P : Program} {w0 w : World} {ops : Array Oper} {o : Oper} {a : Act} {K : Act → World → Prop} {Q : Exit → Act → World → Prop} {E : Prop} (hgd : o.guard = none) (s x : Operand) (t : TypeId)
    (ho : o.op = .call { callee := .builtin .append, args := #[s, x], argTypes := #[t, t] })
    (e : TypeId) (i : TypeInfo) (z : Value) (size bytes : Nat) (ht : P.underlying t = some (.slice e)) (hi : P.info? e = some i) (hz : i.zero = some z)
    (hsize : i.size = size) (hby : i.bytes = bytes) (hzs : z.cells.size = size) (hsz : 0 < size)
    {v : Value} {n : Nat} {xs : List Value} {r : List Thing} (H : Hp w0 w (Own e size v n xs :: r)) (hs : a.eval s = v)
    (ad : Addr) (m c : Nat) (news : List Value) (hx : a.eval x = .slice (some ad) m c) (hl : news.length = m * size) (hnews : ∀ j u, news[j]? = some u → w.cell? (ad.add j) = some u) (h1 : ∀ u ∈ news, u.oneCell' = true)
    (h63 : n + m ≤ 1000000) (hb : bytes ≤ 1000000)
    (h : ∀ v' w', Hp w0 w' (Own e size v' (n + m) (xs ++ news) :: r) → K (a.put o.dst v') w') :
    if Region.wanted o (yielded ops a.tmps) = true then Oper.wp P o a w K Q else E := by
  have hw : Region.wanted o (yielded ops a.tmps) = true := by simp [Region.wanted, hgd]
  rw [if_pos hw]
  have hbb : (n + m) * bytes ≤ 1000000 * 1000000 := Nat.mul_le_mul h63 hb
  obtain ⟨v', w', hr, h2, h3, _, h5⟩ := run_append_own_at (P := P) w 0 t o.type e i z size bytes ht hi hz hsize hby hzs hsz v n xs (own_get H) ad m c news hl hnews h1 (by unfold maxLen; omega) (by omega) (Nat.zero_le _)
  unfold Oper.wp execOp
  simp only [ho, resolve, invoke, builtin, Sem.run_bind, Sem.run_pure, Result.andThen_ok, List.map_toArray, List.map_cons, List.map_nil, hs, hx, hr]
  exact h v' w' (own_turn H h3 h2 h5)
theorem own_capq {w0 w : World} {r : List Thing} {e : TypeId} {size n c : Nat} {a : Option Addr} {cs : List Value} (H : Hp w0 w (Own e size (.slice a n c) n cs :: r)) : n ≤ c := by
  rcases (own_get H).2 with ⟨h1, h2⟩ | ⟨_, _, _, hq, _, _, hq2, _⟩
  · injection h1 with _ h4 h3; omega
  · injection hq with _ _ h3; omega
set_option maxHeartbeats 8000000 in
set_option maxRecDepth 20000 in
theorem op20_c {w0 w : World} {r : List Thing} {b : Nat} {c : List I4} {s : Cs} (o x y z : UInt8) (hx : x.toNat < 8) (hs : s.says.length < 256) (H : Hp w0 w (CR b c s :: r)) :
    Calls Tryz.prog 94 #[.pointer (some ⟨b, 0, none⟩), i4v (o, x, y, z)] w fun e w' => e = .returned (.int .i64 0) ∧ Hp w0 w' (CR b c { s with says := s.says ++ [UInt8.ofNat (rg s x).toNat] } :: r) := by
  obtain ⟨rb, mb, vc, vs, hl, hm, H2⟩ := cr_open H
  have H3 := blk_new H2 (.cells #[bv o, bv x, bv y, bv z] 26)
  have H4 : Hid (Hp w0 _ (XB w.heap.size (o, x, y, z) :: _)) := Lib.hid H3
  have HM := Lib.hid hm
  have HL := Lib.hid hl
  clear H H2 H3 hm hl
  have hx8 : (x.toNat : Int) < 8 := by omega
  have HS := Lib.hid hs
  have q1 : IntKind.u8.wrap ((rg s x).toNat : Int) = ((UInt8.ofNat (rg s x).toNat).toNat : Int) := by simp [IntKind.wrap_u8]
  generalize UInt8.ofNat (rg s x).toNat = d at *
  obtain ⟨av, cp, rfl⟩ := own_slice (H4.out.pull 5 rfl)
  obtain ⟨i0, hi, hz0, hz1, hz2⟩ := info_parts info_b8
  have E1 := Lib.hid (show s.says.map bv ++ [bv d] = (s.says ++ [d]).map bv by simp)
  have E2 := Lib.hid (show s.says.length + 1 = (s.says ++ [d]).length by simp)
  have E3 := Lib.hid (show (s.says ++ [d]).length ≤ 256 ∧ 1 ≤ (s.says ++ [d]).length by simp; omega)
  generalize s.says ++ [d] = l2 at *
  clear hs
  go_enter Tryz.func94, Tryz.ntmps94
  go_upto_region 1 with fail
  generalize w.heap.size = xb at *
  generalize (w.alloc (.cells #[bv o, bv x, bv y, bv z] 26)) = w1 at *
  refine wp_region_S 17 (fun W => SX b xb rb s (o, x, y, z) W ∧ W.cell? ⟨b, 11, none⟩ = some (.slice av s.says.length cp)) (by as_aux_lemma => kernel_rfl) ?_
  have hSS : (fun (W : World) => SX b xb rb s (o, x, y, z) W ∧ W.cell? ⟨b, 11, none⟩ = some (.slice av s.says.length cp)) w1.drew := ⟨sx_of H4.out.drew HL.out, cb_cell H4.out.drew.tail HL.out 3⟩
  refine wpAnyS_tk (i := 0) (by as_aux_lemma => kernel_rfl) (by intro c a d v w h; cases d <;> exact h) hSS (fun oi hoi => ?_)
  simp only [List.getElem?_toArray, List.getElem?_cons_zero, List.getElem?_cons_succ, Option.some.injEq] at hoi; subst hoi
  refine ⟨?_, by rfl, fun wx hSx => ?_, ?_⟩
  rotate_left
  · obtain ⟨⟨s0, s1, s2, s3, sg, sm⟩, ss⟩ := hSx; have g0 := sg x hx; clear sg
    go_simp
    try with_reducible rfl
  try simp only [Act.put, List.setIfInBounds_toArray, List.set_cons_zero, List.set_cons_succ]
  refine wpAnyS_tk (i := 1) (by as_aux_lemma => kernel_rfl) (by intro c a d v w h; cases d <;> exact h) hSS (fun oi hoi => ?_)
  simp only [List.getElem?_toArray, List.getElem?_cons_zero, List.getElem?_cons_succ, Option.some.injEq] at hoi; subst hoi
  refine ⟨?_, by rfl, fun wx hSx => ?_, ?_⟩
  rotate_left
  · obtain ⟨⟨s0, s1, s2, s3, sg, sm⟩, ss⟩ := hSx; have g0 := sg x hx; clear sg
    go_simp
    try with_reducible rfl
  try simp only [Act.put, List.setIfInBounds_toArray, List.set_cons_zero, List.set_cons_succ]
  refine wpAnyS_tk (i := 2) (by as_aux_lemma => kernel_rfl) (by intro c a d v w h; cases d <;> exact h) hSS (fun oi hoi => ?_)
  simp only [List.getElem?_toArray, List.getElem?_cons_zero, List.getElem?_cons_succ, Option.some.injEq] at hoi; subst hoi
  refine ⟨?_, by rfl, fun wx hSx => ?_, ?_⟩
  rotate_left
  · obtain ⟨⟨s0, s1, s2, s3, sg, sm⟩, ss⟩ := hSx; have g0 := sg x hx; clear sg
    go_simp
    try with_reducible rfl
  try simp only [Act.put, List.setIfInBounds_toArray, List.set_cons_zero, List.set_cons_succ]
  refine wpAnyS_tk (i := 3) (by as_aux_lemma => kernel_rfl) (by intro c a d v w h; cases d <;> exact h) hSS (fun oi hoi => ?_)
  simp only [List.getElem?_toArray, List.getElem?_cons_zero, List.getElem?_cons_succ, Option.some.injEq] at hoi; subst hoi
  refine ⟨?_, by rfl, fun wx hSx => ?_, ?_⟩
  rotate_left
  · obtain ⟨⟨s0, s1, s2, s3, sg, sm⟩, ss⟩ := hSx; have g0 := sg x hx; clear sg
    go_simp
    try with_reducible rfl
  try simp only [Act.put, List.setIfInBounds_toArray, List.set_cons_zero, List.set_cons_succ]
  refine wpAnyS_tk (i := 4) (by as_aux_lemma => kernel_rfl) (by intro c a d v w h; cases d <;> exact h) hSS (fun oi hoi => ?_)
  simp only [List.getElem?_toArray, List.getElem?_cons_zero, List.getElem?_cons_succ, Option.some.injEq] at hoi; subst hoi
  refine ⟨?_, by rfl, fun wx hSx => ?_, ?_⟩
  rotate_left
  · obtain ⟨⟨s0, s1, s2, s3, sg, sm⟩, ss⟩ := hSx; have g0 := sg x hx; clear sg
    go_simp
    try with_reducible rfl
  try simp only [Act.put, List.setIfInBounds_toArray, List.set_cons_zero, List.set_cons_succ]
  refine wpAnyS_tk (i := 5) (by as_aux_lemma => kernel_rfl) (by intro c a d v w h; cases d <;> exact h) hSS (fun oi hoi => ?_)
  simp only [List.getElem?_toArray, List.getElem?_cons_zero, List.getElem?_cons_succ, Option.some.injEq] at hoi; subst hoi
  refine ⟨?_, by rfl, fun wx hSx => ?_, ?_⟩
  rotate_left
  · obtain ⟨⟨s0, s1, s2, s3, sg, sm⟩, ss⟩ := hSx; have g0 := sg x hx; clear sg
    go_simp
    try with_reducible rfl
  try simp only [Act.put, List.setIfInBounds_toArray, List.set_cons_zero, List.set_cons_succ]
  refine wpAnyS_tk (i := 6) (by as_aux_lemma => kernel_rfl) (by intro c a d v w h; cases d <;> exact h) hSS (fun oi hoi => ?_)
  simp only [List.getElem?_toArray, List.getElem?_cons_zero, List.getElem?_cons_succ, Option.some.injEq] at hoi; subst hoi
  refine ⟨?_, by rfl, fun wx hSx => ?_, ?_⟩
  rotate_left
  · obtain ⟨⟨s0, s1, s2, s3, sg, sm⟩, ss⟩ := hSx; have g0 := sg x hx; clear sg
    go_simp
    try with_reducible rfl
  try simp only [Act.put, List.setIfInBounds_toArray, List.set_cons_zero, List.set_cons_succ]
  refine wpAnyS_tk (i := 7) (by as_aux_lemma => kernel_rfl) (by intro c a d v w h; cases d <;> exact h) hSS (fun oi hoi => ?_)
  simp only [List.getElem?_toArray, List.getElem?_cons_zero, List.getElem?_cons_succ, Option.some.injEq] at hoi; subst hoi
  refine ⟨?_, by rfl, fun wx hSx => ?_, ?_⟩
  rotate_left
  · obtain ⟨⟨s0, s1, s2, s3, sg, sm⟩, ss⟩ := hSx; have g0 := sg x hx; clear sg
    go_simp
    try with_reducible rfl
  try simp only [Act.put, List.setIfInBounds_toArray, List.set_cons_zero, List.set_cons_succ]
  refine wpAnyS_tk (i := 8) (by as_aux_lemma => kernel_rfl) (by intro c a d v w h; cases d <;> exact h) hSS (fun oi hoi => ?_)
  simp only [List.getElem?_toArray, List.getElem?_cons_zero, List.getElem?_cons_succ, Option.some.injEq] at hoi; subst hoi
  refine ⟨?_, by rfl, fun wx hSx => ?_, ?_⟩
  rotate_left
  · obtain ⟨⟨s0, s1, s2, s3, sg, sm⟩, ss⟩ := hSx; have g0 := sg x hx; clear sg
    go_simp
    try with_reducible rfl
  try simp only [Act.put, List.setIfInBounds_toArray, List.set_cons_zero, List.set_cons_succ]
  refine wpAnyS_tk (i := 9) (by as_aux_lemma => kernel_rfl) (by intro c a d v w h; cases d <;> exact h) hSS (fun oi hoi => ?_)
  simp only [List.getElem?_toArray, List.getElem?_cons_zero, List.getElem?_cons_succ, Option.some.injEq] at hoi; subst hoi
  refine ⟨?_, by rfl, fun wx hSx => ?_, ?_⟩
  rotate_left
  · obtain ⟨⟨s0, s1, s2, s3, sg, sm⟩, ss⟩ := hSx; have g0 := sg x hx; clear sg
    go_simp
    try with_reducible rfl
  try simp only [Act.put, List.setIfInBounds_toArray, List.set_cons_zero, List.set_cons_succ]
  refine wpAnyS_tk (i := 10) (by as_aux_lemma => kernel_rfl) (by intro c a d v w h; cases d <;> exact h) hSS (fun oi hoi => ?_)
  simp only [List.getElem?_toArray, List.getElem?_cons_zero, List.getElem?_cons_succ, Option.some.injEq] at hoi; subst hoi
  refine ⟨?_, by rfl, fun wx hSx => ?_, ?_⟩
  rotate_left
  · obtain ⟨⟨s0, s1, s2, s3, sg, sm⟩, ss⟩ := hSx; have g0 := sg x hx; clear sg
    go_simp
    try with_reducible rfl
  try simp only [Act.put, List.setIfInBounds_toArray, List.set_cons_zero, List.set_cons_succ]
  refine wpAnyS_tk (i := 11) (by as_aux_lemma => kernel_rfl) (by intro c a d v w h; cases d <;> exact h) hSS (fun oi hoi => ?_)
  simp only [List.getElem?_toArray, List.getElem?_cons_zero, List.getElem?_cons_succ, Option.some.injEq] at hoi; subst hoi
  refine ⟨?_, by rfl, fun wx hSx => ?_, ?_⟩
  rotate_left
  · obtain ⟨⟨s0, s1, s2, s3, sg, sm⟩, ss⟩ := hSx; have g0 := sg x hx; clear sg
    go_simp
    try with_reducible rfl
  try simp only [Act.put, List.setIfInBounds_toArray, List.set_cons_zero, List.set_cons_succ]
  refine wpAnyS_tk (i := 12) (by as_aux_lemma => kernel_rfl) (by intro c a d v w h; cases d <;> exact h) hSS (fun oi hoi => ?_)
  simp only [List.getElem?_toArray, List.getElem?_cons_zero, List.getElem?_cons_succ, Option.some.injEq] at hoi; subst hoi
  refine ⟨?_, by rfl, fun wx hSx => ?_, ?_⟩
  rotate_left
  · obtain ⟨⟨s0, s1, s2, s3, sg, sm⟩, ss⟩ := hSx; have g0 := sg x hx; clear sg
    go_simp
    try with_reducible rfl
  try simp only [Act.put, List.setIfInBounds_toArray, List.set_cons_zero, List.set_cons_succ]
  refine wpAnyS_one (i := 13) (by as_aux_lemma => kernel_rfl) ?_
  intro oi hoi K hK
  simp only [List.getElem?_toArray, List.getElem?_cons_zero, List.getElem?_cons_succ, Option.some.injEq] at hoi; subst hoi
  go_simp
  have H5 := Lib.hid (H4.out.drew.alloc (.cells #[bv d] 5))
  have hSS2 := (show (fun (W : World) => SX b xb rb s (o, x, y, z) W ∧ W.cell? ⟨b, 11, none⟩ = some (.slice av s.says.length cp)) _ from ⟨sx_of H5.out HL.out, cb_cell H5.out.tail HL.out 3⟩)
  refine hK.out _ _ (fun _ => hSS2) ?_
  clear hK K
  try simp only [Act.put, List.setIfInBounds_toArray, List.set_cons_zero, List.set_cons_succ]
  refine wpAnyS_one (i := 14) (by as_aux_lemma => kernel_rfl) ?_
  intro oi hoi K hK
  simp only [List.getElem?_toArray, List.getElem?_cons_zero, List.getElem?_cons_succ, Option.some.injEq] at hoi; subst hoi
  refine step_append_hq (by rfl) _ _ 22 (by rfl) 5 i0 _ 1 1 Tryz.underlying22 hi hz0 hz1 hz2 rfl (by decide) (H5.out.pull 5 rfl) (by rfl) ⟨w1.drew.heap.size, 0, none⟩ 1 1 [bv d] (by rfl) (by rfl) (World.news_of_block (cs := #[bv d]) (t := 5) (fr := (0, 0)) (blk_alloc_new _ _)) (by simp [Value.oneCell', bv]) (by have := HS.out; omega) (by omega) ?_
  intro v5 w5 HA0
  rw [E1.out, E2.out] at HA0
  have H6 := Lib.hid ((HA0.pull 2 rfl).pull 2 rfl)
  obtain ⟨g5, c5, rfl⟩ := Go.Joins.ownsRow_form (own_get HA0) E3.out.2
  have hc5 := Lib.hid (own_capq HA0)
  have hSS3 := (show (fun (W : World) => SX b xb rb s (o, x, y, z) W ∧ W.cell? ⟨b, 11, none⟩ = some (.slice av s.says.length cp)) w5 from ⟨sx_of H6.out HL.out, cb_cell H6.out.tail HL.out 3⟩)
  refine hK.out _ _ (fun _ => hSS3) ?_
  clear HA0 H5 H4 hSS hSS2
  have hSS := hSS3
  clear hK K
  try simp only [Act.put, List.setIfInBounds_toArray, List.set_cons_zero, List.set_cons_succ]
  refine wpAnyS_tk (i := 15) (by as_aux_lemma => kernel_rfl) (by intro c a d v w h; cases d <;> exact h) hSS (fun oi hoi => ?_)
  simp only [List.getElem?_toArray, List.getElem?_cons_zero, List.getElem?_cons_succ, Option.some.injEq] at hoi; subst hoi
  refine ⟨?_, by rfl, fun wx hSx => ?_, ?_⟩
  rotate_left
  · obtain ⟨⟨s0, s1, s2, s3, sg, sm⟩, ss⟩ := hSx; have g0 := sg x hx; clear sg
    go_simp
    try with_reducible rfl
  try simp only [Act.put, List.setIfInBounds_toArray, List.set_cons_zero, List.set_cons_succ]
  refine wpAnyS_tk (i := 16) (by as_aux_lemma => kernel_rfl) (by intro c a d v w h; cases d <;> exact h) hSS (fun oi hoi => ?_)
  simp only [List.getElem?_toArray, List.getElem?_cons_zero, List.getElem?_cons_succ, Option.some.injEq] at hoi; subst hoi
  refine ⟨?_, by rfl, fun wx hSx => ?_, ?_⟩
  rotate_left
  · obtain ⟨⟨s0, s1, s2, s3, sg, sm⟩, ss⟩ := hSx; have g0 := sg x hx; clear sg
    go_simp
    try with_reducible rfl
  try simp only [Act.put, List.setIfInBounds_toArray, List.set_cons_zero, List.set_cons_succ]
  have f0 := hSS.2
  have fz := free_blk (blk_get H6.out.tail) 11
  refine wpAnyS_one (i := 17) (by as_aux_lemma => kernel_rfl) ?_
  intro oi hoi K hK
  simp only [List.getElem?_toArray, List.getElem?_cons_zero, List.getElem?_cons_succ, Option.some.injEq] at hoi; subst hoi
  go_simp
  refine hK.out _ _ (fun h => absurd h (by decide)) ?_
  clear hK K
  try simp only [Act.put, List.setIfInBounds_toArray, List.set_cons_zero, List.set_cons_succ]
  refine wpAnyS_done (by as_aux_lemma => kernel_rfl) ?_ _
  have H7 := Lib.hid (cb_setsays H6.out.tail HL.out (.slice (some ⟨g5, 0, none⟩) l2.length c5))
  generalize (w5.setCell ⟨b, 11, none⟩ (.slice (some ⟨g5, 0, none⟩) l2.length c5)) = w6 at *
  have f1 : w6.cell? ⟨b, 11, none⟩ = some (.slice (some ⟨g5, 0, none⟩) l2.length c5) := cb_cell H7.out HL.out 3
  have fy := free_blk (blk_get H7.out) 11
  have m1 : IntKind.i64.wrap ((l2.length : Int) - 256) = (l2.length : Int) - 256 := by have := E3.out.1; rw [IntKind.wrap_i64]; omega
  have m2 : ¬ ((0 : Int) < (l2.length : Int) - 256) := by have := E3.out.1; omega
  have m3 : ((l2.length : Int) - 256) ≤ 0 := by have := E3.out.1; omega
  have HZ := Lib.hid (cb_setsays H7.out HL.out (.slice (some ⟨g5, 0, none⟩) l2.length c5))
  have n1 : ¬ c5 = 0 := by have := hc5.out; have := E3.out.2; omega
  have n2 : 0 < c5 := by omega
  have n3 : (l2.length : Int) ≤ (c5 : Int) := by have := hc5.out; omega
  have HY := Lib.hid (cr_shut (s := { s with says := l2 }) HL.out HM.out (((((HZ.out.pull 1 rfl).pull 4 rfl).pull 4 rfl).pull 4 rfl).pull 4 rfl))
  clear hSS hSS3 H6 H7 f0 fz hc5 HZ
  go_wp2
  go_region
  go_wp2
  go_ret
  exact ⟨rfl, HY.out.drew⟩
end Go.Proofs.YtijkkompnfpdeaaGreatDoor
set_option linter.unusedVariables false
set_option linter.unusedSimpArgs false
namespace Go.Proofs.YtijkkompnfpdeaaGreatDoor
open Go.RowKit Go.Joins Go.Shelf
attribute [local go_sem] Oper.semAt_some

/-- By the Op: the closure, and what it holds. -/
def rF : Nat → FuncId
  | 0 => 79
  | 1 => 80
  | 2 => 81
  | 11 => 82
  | 12 => 88
  | 13 => 85
  | 14 => 91
  | 15 | 16 | 17 | 18 => 97
  | 19 => 93
  | 20 => 94
  | _ => 95
def rC (ab : Nat) : Nat → Array Value
  | 11 | 12 | 13 | 14 => #[.pointer (some ⟨ab, 0, none⟩)]
  | _ => #[]
def rV (ab o : Nat) : Value := .agg #[.func (.func (rF o)) #[] (rC ab o)]
def rlist (ab j k : Nat) : List (Nat × Value) := [0, 1, 2, 11, 13, 12, 14, 19, 20].map (fun o => (o, rV ab o)) ++ (List.range j).map (fun i => (3 + i, rV ab (3 + i))) ++ (List.range k).map (fun i => (15 + i, rV ab (15 + i)))
theorem rlist_get (ab : Nat) {o : Nat} (h : o ≤ 20) : tget o (rlist ab 8 4) = some (rV ab o) := by
  have : o = 0 ∨ o = 1 ∨ o = 2 ∨ o = 3 ∨ o = 4 ∨ o = 5 ∨ o = 6 ∨ o = 7 ∨ o = 8 ∨ o = 9 ∨ o = 10 ∨ o = 11 ∨ o = 12 ∨ o = 13 ∨ o = 14 ∨ o = 15 ∨ o = 16 ∨ o = 17 ∨ o = 18 ∨ o = 19 ∨ o = 20 := by omega
  rcases this with rfl | rfl | rfl | rfl | rfl | rfl | rfl | rfl | rfl | rfl | rfl | rfl | rfl | rfl | rfl | rfl | rfl | rfl | rfl | rfl | rfl <;> rfl
theorem rlist_no3 (ab j : Nat) (h : j < 8) : tget (3 + j) (rlist ab j 0) = none := by
  have : j = 0 ∨ j = 1 ∨ j = 2 ∨ j = 3 ∨ j = 4 ∨ j = 5 ∨ j = 6 ∨ j = 7 := by omega
  rcases this with rfl | rfl | rfl | rfl | rfl | rfl | rfl | rfl <;> rfl
theorem rlist_no15 (ab j : Nat) (h : j < 4) : tget (15 + j) (rlist ab 8 j) = none := by
  have : j = 0 ∨ j = 1 ∨ j = 2 ∨ j = 3 := by omega
  rcases this with rfl | rfl | rfl | rfl <;> rfl
theorem rlist_up3 (ab j : Nat) : rlist ab j 0 ++ [(3 + j, rV ab (3 + j))] = rlist ab (j + 1) 0 := by simp [rlist, List.range_succ]
theorem rlist_up15 (ab j : Nat) : rlist ab 8 j ++ [(15 + j, rV ab (15 + j))] = rlist ab 8 (j + 1) := by simp [rlist, List.range_succ]
theorem rV_add (ab j : Nat) (h : j < 8) : rV ab (3 + j) = .agg #[fn_ 95] := by
  have : j = 0 ∨ j = 1 ∨ j = 2 ∨ j = 3 ∨ j = 4 ∨ j = 5 ∨ j = 6 ∨ j = 7 := by omega
  rcases this with rfl | rfl | rfl | rfl | rfl | rfl | rfl | rfl <;> rfl
theorem rV_cmp (ab j : Nat) (h : j < 4) : rV ab (15 + j) = .agg #[fn_ 97] := by
  have : j = 0 ∨ j = 1 ∨ j = 2 ∨ j = 3 := by omega
  rcases this with rfl | rfl | rfl | rfl <;> rfl
theorem und_rules : Tryz.prog.underlying 86 = some (.map 24 85) := by kernel_rfl
set_option maxHeartbeats 8000000 in
set_option maxRecDepth 20000 in
theorem rules_c {w0 w : World} {r : List Thing} (H : Hp w0 w r) :
    Calls Tryz.prog 35 #[] w fun e w' => e = .returned (.map (some (w.heap.size + 1))) ∧ Hp w0 w' (Tab (w.heap.size + 1) (rlist w.heap.size 8 4) :: AB w.heap.size :: r) := by
  have hmm := @run_makeMap Tryz.prog
  have hmf : ∀ (fn : Fn) (first cap : Array Value) (w : World), (Instr.makeFunc fn first cap).run Tryz.prog w = .ok (.func fn first cap) w := fun _ _ _ _ => rfl
  have HA : Hp w0 _ (AB w.heap.size :: r) := blk_new H (.cells #[fn_ 78] 104)
  have G0 : Hp w0 _ (Tab (w.heap.size + 1) [] :: AB w.heap.size :: r) := blk_new_at HA (.map #[] 0) (w.heap.size + 1) (by simp)
  obtain ⟨w1, hr1, G1⟩ := tab_put und_rules und_op G0 (.int .u8 0) 0 rfl (rV w.heap.size 0) rfl
  obtain ⟨w2, hr2, G2⟩ := tab_put und_rules und_op G1 (.int .u8 1) 1 rfl (rV w.heap.size 1) rfl
  obtain ⟨w3, hr3, G3⟩ := tab_put und_rules und_op G2 (.int .u8 2) 2 rfl (rV w.heap.size 2) rfl
  obtain ⟨w4, hr4, G4⟩ := tab_put und_rules und_op G3 (.int .u8 11) 11 rfl (rV w.heap.size 11) rfl
  obtain ⟨w5, hr5, G5⟩ := tab_put und_rules und_op G4 (.int .u8 13) 13 rfl (rV w.heap.size 13) rfl
  obtain ⟨w6, hr6, G6⟩ := tab_put und_rules und_op G5 (.int .u8 12) 12 rfl (rV w.heap.size 12) rfl
  obtain ⟨w7, hr7, G7⟩ := tab_put und_rules und_op G6 (.int .u8 14) 14 rfl (rV w.heap.size 14) rfl
  obtain ⟨w8, hr8, G8⟩ := tab_put und_rules und_op G7 (.int .u8 19) 19 rfl (rV w.heap.size 19) rfl
  obtain ⟨w9, hr9, G9⟩ := tab_put und_rules und_op G8 (.int .u8 20) 20 rfl (rV w.heap.size 20) rfl
  have HG : Hid (Hp w0 w9 (Tab (w.heap.size + 1) (rlist w.heap.size 0 0) :: AB w.heap.size :: r)) := Lib.hid G9
  simp only [rV, rF, rC] at hr1 hr2 hr3 hr4 hr5 hr6 hr7 hr8 hr9
  clear G0 G1 G2 G3 G4 G5 G6 G7 G8 G9 H HA
  go_enter Tryz.func35, Tryz.ntmps35
  go_wp2
  clear hr1 hr2 hr3 hr4 hr5 hr6 hr7 hr8 hr9 hmm hmf
  go_loopw [3] (fun s3 wr => ∃ j : Nat, j ≤ 8 ∧ s3 = .int .u8 ((3 + j : Nat) : Int) ∧ Hid (Hp w0 wr (Tab (w.heap.size + 1) (rlist w.heap.size j 0) :: AB w.heap.size :: r))) (fun s3 _ => 11 - (intOf s3).toNat)
  case atStart => exact ⟨0, by omega, rfl, HG⟩
  case round =>
    obtain ⟨j, hj, rfl, hH⟩ := hrel
    clear HG
    by_cases hlt : j < 8
    · obtain ⟨wx, hrx, GX⟩ := tab_put und_rules und_op hH.out (.int .u8 ((3 + j : Nat) : Int)) (3 + j) rfl (rV w.heap.size (3 + j)) (rlist_no3 w.heap.size j hlt)
      rw [rV_add w.heap.size j hlt] at hrx
      rw [rlist_up3] at GX
      have HX := Lib.hid GX
      have hw : IntKind.u8.wrap (((3 + j : Nat) : Int) + 1) = ((3 + (j + 1) : Nat) : Int) := by rw [IntKind.wrap_u8]; omega
      have hle : ((3 + j : Nat) : Int) ≤ 10 := by omega
      generalize hk : ((3 + j : Nat) : Int) = k at *
      have HK := Lib.hid hk
      clear GX hH hk
      go_wp2
      go_roundw
      case rel => exact ⟨j + 1, by omega, by go_num, HX⟩
      case measure => have := HK.out; simp [intOf]; omega
    · obtain rfl : j = 8 := by omega
      go_wp2
      clear hj hlt
      go_loopw [4] (fun s4 wr => ∃ j : Nat, j ≤ 4 ∧ s4 = .int .u8 ((15 + j : Nat) : Int) ∧ Hid (Hp w0 wr (Tab (w.heap.size + 1) (rlist w.heap.size 8 j) :: AB w.heap.size :: r))) (fun s4 _ => 19 - (intOf s4).toNat)
      case atStart => exact ⟨0, by omega, rfl, hH⟩
      case round =>
        obtain ⟨j, hj, rfl, hH2⟩ := hrel
        clear hH
        by_cases hlt : j < 4
        · obtain ⟨wx, hrx, GX⟩ := tab_put und_rules und_op hH2.out (.int .u8 ((15 + j : Nat) : Int)) (15 + j) rfl (rV w.heap.size (15 + j)) (rlist_no15 w.heap.size j hlt)
          rw [rV_cmp w.heap.size j hlt] at hrx
          rw [rlist_up15] at GX
          have HX := Lib.hid GX
          have hw : IntKind.u8.wrap (((15 + j : Nat) : Int) + 1) = ((15 + (j + 1) : Nat) : Int) := by rw [IntKind.wrap_u8]; omega
          have hle : ((15 + j : Nat) : Int) ≤ 18 := by omega
          generalize hk : ((15 + j : Nat) : Int) = k at *
          have HK := Lib.hid hk
          clear GX hH2 hk
          go_wp2
          go_roundw
          case rel => exact ⟨j + 1, by omega, by go_num, HX⟩
          case measure => have := HK.out; simp [intOf]; omega
        · obtain rfl : j = 4 := by omega
          go_wp2
          go_ret
          exact ⟨rfl, hH2.out⟩
end Go.Proofs.YtijkkompnfpdeaaGreatDoor
set_option linter.unusedVariables false
set_option linter.unusedSimpArgs false
namespace Go.Proofs.YtijkkompnfpdeaaGreatDoor
open Go.RowKit Go.Joins Go.Shelf
attribute [local go_sem] Oper.semAt_some

/-- Where registers stand, there stand numbers of some. -/
structure Regs8 (o x y z : Nat) : Prop where
  ra : o ≤ 22
  rx : 1 ≤ o → o ≤ 18 → x < 8
  rx2 : o = 20 → x < 8
  ry : 2 ≤ o → o ≤ 18 → y < 8
  rz : 3 ≤ o → o ≤ 10 → z < 8
theorem ik_regs {o x y z : UInt8} (h : ik (o, x, y, z) = true) : Regs8 o.toNat x.toNat y.toNat z.toNat := by
  unfold ik ck at h
  simp only [Bool.and_eq_true, decide_eq_true_eq] at h
  obtain ⟨h1, h2⟩ := h
  generalize o.toNat = k at *
  have hk : k = 0 ∨ k = 1 ∨ k = 2 ∨ k = 3 ∨ k = 4 ∨ k = 5 ∨ k = 6 ∨ k = 7 ∨ k = 8 ∨ k = 9 ∨ k = 10 ∨ k = 11 ∨ k = 12 ∨ k = 13 ∨ k = 14 ∨ k = 15 ∨ k = 16 ∨ k = 17 ∨ k = 18 ∨ k = 19 ∨ k = 20 ∨ k = 21 ∨ k = 22 := by omega
  rcases hk with rfl | rfl | rfl | rfl | rfl | rfl | rfl | rfl | rfl | rfl | rfl | rfl | rfl | rfl | rfl | rfl | rfl | rfl | rfl | rfl | rfl | rfl | rfl <;> simp [fl, rck] at h2 <;> exact ⟨by omega, by omega, by omega, by omega, by omega⟩
/-- What is left of an instruction: done, or at fault. -/
def DoesP (w0 : World) (r : List Thing) (b : Nat) (c : List I4) (s : Cs) (q : Option (Cs × Int)) (e : Ending) (w' : World) : Prop :=
  match q with
  | some (t, d) => e = .returned (.int .i64 d) ∧ Hp w0 w' (CR b c t :: r)
  | none => e = .panicked [PE 4] ∧ Hp w0 w' (CR b c s :: r)
set_option maxRecDepth 20000 in
theorem does_all {w0 w : World} {r : List Thing} {b ab : Nat} {c : List I4} {s : Cs} (o x y z : UInt8) (hk : ik (o, x, y, z) = true) (ho : o.toNat ≤ 20) (h0 : 0 ≤ s.at_) (h1 : s.at_ < 5000) (hs : s.says.length < 256) (H : Hp w0 w (CR b c s :: AB ab :: r)) :
    Calls Tryz.prog (rF o.toNat) (#[.pointer (some ⟨b, 0, none⟩), i4v (o, x, y, z)] ++ rC ab o.toNat) w (DoesP w0 (AB ab :: r) b c s (doesC (o, x, y, z) s)) := by
  have R := ik_regs hk
  have A : ∀ k, 3 ≤ k → k ≤ 10 → o.toNat = k → Calls Tryz.prog 95 #[.pointer (some ⟨b, 0, none⟩), i4v (o, x, y, z)] w (DoesP w0 (AB ab :: r) b c s (some (wrg s x (doP k (rg s y) (rg s z)), 0))) := fun k k1 k2 hk => by
    subst hk
    exact (opA_c (s := s) o x y z (by omega) (by omega) (R.rx (by omega) (by omega)) (R.ry (by omega) (by omega)) (R.rz (by omega) (by omega)) H).mono fun e w' h => h
  have C : ∀ k, 15 ≤ k → k ≤ 18 → o.toNat = k → Calls Tryz.prog 97 #[.pointer (some ⟨b, 0, none⟩), i4v (o, x, y, z)] w (DoesP w0 (AB ab :: r) b c s (some (s, if holdsP k (rg s x) (rg s y) then s8 z else 0))) := fun k k1 k2 hk => by
    subst hk
    exact (opC_c (s := s) o x y z (by omega) (by omega) (R.rx (by omega) (by omega)) (R.ry (by omega) (by omega)) H).mono fun e w' h => h
  have hk2 : o.toNat = 0 ∨ o.toNat = 1 ∨ o.toNat = 2 ∨ o.toNat = 3 ∨ o.toNat = 4 ∨ o.toNat = 5 ∨ o.toNat = 6 ∨ o.toNat = 7 ∨ o.toNat = 8 ∨ o.toNat = 9 ∨ o.toNat = 10 ∨ o.toNat = 11 ∨ o.toNat = 12 ∨ o.toNat = 13 ∨ o.toNat = 14 ∨ o.toNat = 15 ∨ o.toNat = 16 ∨ o.toNat = 17 ∨ o.toNat = 18 ∨ o.toNat = 19 ∨ o.toNat = 20 := by omega
  unfold doesC
  rcases hk2 with h | h | h | h | h | h | h | h | h | h | h | h | h | h | h | h | h | h | h | h | h <;> simp only [h]
  · exact (op0_c _ _ H o x y z rfl).mono fun e w' h => h
  · exact (op1_c (s := s) o x y z (R.rx (by omega) (by omega)) H).mono fun e w' h => h
  · exact (op2_c (s := s) o x y z (R.rx (by omega) (by omega)) (R.ry (by omega) (by omega)) H).mono fun e w' h => h
  · exact A 3 (by omega) (by omega) h
  · exact A 4 (by omega) (by omega) h
  · exact A 5 (by omega) (by omega) h
  · exact A 6 (by omega) (by omega) h
  · exact A 7 (by omega) (by omega) h
  · exact A 8 (by omega) (by omega) h
  · exact A 9 (by omega) (by omega) h
  · exact A 10 (by omega) (by omega) h
  · by_cases hf : (plc s (o, x, y, z)).toNat + 4 ≤ s.mem.length
    · rw [if_pos hf]; exact (op11y_c (s := s) o x y z (R.rx (by omega) (by omega)) (R.ry (by omega) (by omega)) hf H).mono fun e w' h => h
    · rw [if_neg hf]; exact (op11n_c (s := s) o x y z (R.rx (by omega) (by omega)) (R.ry (by omega) (by omega)) hf H).mono fun e w' h => h
  · by_cases hf : (plc s (o, x, y, z)).toNat + 4 ≤ s.mem.length
    · rw [if_pos hf]; exact (op12y_c (s := s) o x y z (R.rx (by omega) (by omega)) (R.ry (by omega) (by omega)) hf H).mono fun e w' h => h
    · rw [if_neg hf]; exact (op12n_c (s := s) o x y z (R.rx (by omega) (by omega)) (R.ry (by omega) (by omega)) hf H).mono fun e w' h => h
  · by_cases hf : (plc s (o, x, y, z)).toNat + 1 ≤ s.mem.length
    · rw [if_pos hf]; exact (op13y_c (s := s) o x y z (R.rx (by omega) (by omega)) (R.ry (by omega) (by omega)) hf H).mono fun e w' h => h
    · rw [if_neg hf]; exact (op13n_c (s := s) o x y z (R.rx (by omega) (by omega)) (R.ry (by omega) (by omega)) hf H).mono fun e w' h => h
  · by_cases hf : (plc s (o, x, y, z)).toNat + 1 ≤ s.mem.length
    · rw [if_pos hf]; exact (op14y_c (s := s) o x y z (R.rx (by omega) (by omega)) (R.ry (by omega) (by omega)) hf H).mono fun e w' h => h
    · rw [if_neg hf]; exact (op14n_c (s := s) o x y z (R.rx (by omega) (by omega)) (R.ry (by omega) (by omega)) hf H).mono fun e w' h => h
  · exact C 15 (by omega) (by omega) h
  · exact C 16 (by omega) (by omega) h
  · exact C 17 (by omega) (by omega) h
  · exact C 18 (by omega) (by omega) h
  · exact (op19_c (s := s) o x y z h0 h1 H).mono fun e w' h => h
  · exact (op20_c (s := s) o x y z (R.rx2 h) hs H).mono fun e w' h => h
set_option maxRecDepth 20000 in
theorem enters_rF (o : Nat) : ∀ args w, (callFunc (rF o) args).run Tryz.prog w = .ok (.enter (rF o) args) w := by
  unfold rF
  split
  all_goals first
    | exact enters_of Tryz.func79 (by kernel_rfl) rfl
    | exact enters_of Tryz.func80 (by kernel_rfl) rfl
    | exact enters_of Tryz.func81 (by kernel_rfl) rfl
    | exact enters_of Tryz.func82 (by kernel_rfl) rfl
    | exact enters_of Tryz.func85 (by kernel_rfl) rfl
    | exact enters_of Tryz.func88 (by kernel_rfl) rfl
    | exact enters_of Tryz.func91 (by kernel_rfl) rfl
    | exact enters_of Tryz.func93 (by kernel_rfl) rfl
    | exact enters_of Tryz.func94 (by kernel_rfl) rfl
    | exact enters_of Tryz.func95 (by kernel_rfl) rfl
    | exact enters_of Tryz.func97 (by kernel_rfl) rfl
end Go.Proofs.YtijkkompnfpdeaaGreatDoor
set_option linter.unusedVariables false
set_option linter.unusedSimpArgs false
namespace Go.Proofs.YtijkkompnfpdeaaGreatDoor
open Go.RowKit Go.Joins Go.Shelf
attribute [local go_sem] Oper.semAt_some

def akA (a : Ak) : Array Value := #[bv a.what, wv a.h, wv a.v, wv a.m, .int .i64 a.wait]
theorem assert_fault (w : World) : (Instr.typeAssert (.iface 81 (.agg #[.int .i64 4])) 20 81 false).run Tryz.prog w = .ok (.agg #[.int .i64 4]) w := by kernel_rfl
/-- What a step hands back, in three variables. -/
abbrev R3 (b2 b3 b4 : Nat) (x : Bool) (a : Ak) (e : Int) : List Thing := [Blk b2 (.cells #[.bool x] 4 (0, 0)), Blk b3 (.cells (akA a) 37 (0, 0)), Blk b4 (.cells #[.int .i64 e] 31 (0, 0))]
theorem ask_info : (Tryz.prog.info? 37).map (·.size) = some 5 := by kernel_rfl
theorem res3 {w0 w : World} {r : List Thing} {b2 b3 b4 : Nat} {x : Bool} {a : Ak} {e : Int} (tmps : Array Value) (h2 : tmps.getD 2 undef = .pointer (some ⟨b2, 0, none⟩)) (h3 : tmps.getD 3 undef = .pointer (some ⟨b3, 0, none⟩)) (h4 : tmps.getD 4 undef = .pointer (some ⟨b4, 0, none⟩)) (H : Hp w0 w (R3 b2 b3 b4 x a e ++ r)) :
    (results Tryz.f9 tmps).run Tryz.prog w = .ok (.tuple #[.bool x, .agg (akA a), .int .i64 e]) w := by
  have c2 : w.cell? ⟨b2, 0, none⟩ = some (.bool x) := cell_blk (blk_get H) 0
  have c4 : w.cell? ⟨b4, 0, none⟩ = some (.int .i64 e) := cell_blk (blk_get (H.pull 2 rfl)) 0
  have hb3 := blk_get (H.pull 1 rfl)
  have d0 : w.cell? ⟨b3, 0, none⟩ = some (bv a.what) := cell_blk hb3 0
  have d1 : w.cell? ⟨b3, 1, none⟩ = some (wv a.h) := cell_blk hb3 1
  have d2 : w.cell? ⟨b3, 2, none⟩ = some (wv a.v) := cell_blk hb3 2
  have d3 : w.cell? ⟨b3, 3, none⟩ = some (wv a.m) := cell_blk hb3 3
  have d4 : w.cell? ⟨b3, 4, none⟩ = some (.int .i64 a.wait) := cell_blk hb3 4
  have h2' : tmps[2]?.getD undef = .pointer (some ⟨b2, 0, none⟩) := by simpa using h2
  have h3' : tmps[3]?.getD undef = .pointer (some ⟨b3, 0, none⟩) := by simpa using h3
  have h4' : tmps[4]?.getD undef = .pointer (some ⟨b4, 0, none⟩) := by simpa using h4
  simp [results, Tryz.results9, h2', h3', h4', asAddr, go_sem, c2, c4, d0, d1, d2, d3, d4, akA]
/-- The three variables are three; turned. -/
theorem blk_apart {w0 w : World} {r : List Thing} {a b : Nat} {o o' : Obj} (H : Hp w0 w (Blk a o :: Blk b o' :: r)) : ¬ a = b := by
  obtain ⟨S, ⟨h1, rfl⟩, h2, S', ⟨h1', rfl⟩, h2', _⟩ := H.lay
  intro e
  exact (h2' b rfl).2 (Or.inr e.symm)
theorem r3_set {w0 w : World} {r : List Thing} {b2 b3 b4 : Nat} {x y : Bool} {a d : Ak} {e f : Int} (H : Hp w0 w (R3 b2 b3 b4 x a e ++ r)) :
    Hp w0 (((((((w.setCell ⟨b2, 0, none⟩ (.bool y)).setCell ⟨b3, 0, none⟩ (bv d.what)).setCell ⟨b3, 1, none⟩ (wv d.h)).setCell ⟨b3, 2, none⟩ (wv d.v)).setCell ⟨b3, 3, none⟩ (wv d.m)).setCell ⟨b3, 4, none⟩ (.int .i64 d.wait)).setCell ⟨b4, 0, none⟩ (.int .i64 f)) (R3 b2 b3 b4 y d f ++ r) := by
  have h1 := blk_set H 0 (.bool y)
  have h2 := blk_set (blk_set (blk_set (blk_set (blk_set (h1.pull 1 rfl) 0 (bv d.what)) 1 (wv d.h)) 2 (wv d.v)) 3 (wv d.m)) 4 (.int .i64 d.wait)
  exact ((blk_set (h2.pull 2 rfl) 0 (.int .i64 f)).pull 1 rfl).pull 2 rfl
set_option maxRecDepth 20000 in
set_option maxHeartbeats 2000000 in
theorem catch_p {w0 w : World} {r : List Thing} {b2 b3 b4 : Nat} {x : Bool} {a : Ak} {e : Int} (H : Hp w0 w (R3 b2 b3 b4 x a e ++ r)) :
    CallsD Tryz.prog 33 #[.pointer (some ⟨b2, 0, none⟩), .pointer (some ⟨b3, 0, none⟩), .pointer (some ⟨b4, 0, none⟩)] (.panicking [PE 4]) w fun e' u' w' =>
      e' = .returned (.tuple #[]) ∧ u' = .panicking [{ v := .iface 81 (.agg #[.int .i64 4]), recovered := true }] ∧ Hp w0 w' (R3 b2 b3 b4 false ak0 15 ++ r) := by
  have G := r3_set (y := false) (d := ak0) (f := 15) H
  have c2 : w.cell? ⟨b2, 0, none⟩ = some (.bool x) := cell_blk (blk_get H) 0
  have z2 := free_blk (blk_get H) 0
  have hb3 := blk_get (H.pull 1 rfl)
  have d0 : w.cell? ⟨b3, 0, none⟩ = some (bv a.what) := cell_blk hb3 0
  have d1 : w.cell? ⟨b3, 1, none⟩ = some (wv a.h) := cell_blk hb3 1
  have d2 : w.cell? ⟨b3, 2, none⟩ = some (wv a.v) := cell_blk hb3 2
  have d3 : w.cell? ⟨b3, 3, none⟩ = some (wv a.m) := cell_blk hb3 3
  have d4 : w.cell? ⟨b3, 4, none⟩ = some (.int .i64 a.wait) := cell_blk hb3 4
  have z30 := free_blk hb3 0
  have z31 := free_blk hb3 1
  have z32 := free_blk hb3 2
  have z33 := free_blk hb3 3
  have z34 := free_blk hb3 4
  have c4 : w.cell? ⟨b4, 0, none⟩ = some (.int .i64 e) := cell_blk (blk_get (H.pull 2 rfl)) 0
  have z4 := free_blk (blk_get (H.pull 2 rfl)) 0
  have n1 : ¬ b2 = b3 := blk_apart H
  have n2 : ¬ b3 = b4 := blk_apart H.tail
  have n3 : ¬ b2 = b4 := blk_apart (H.pull 1 rfl).tail
  have n4 : ¬ b3 = b2 := fun h => n1 h.symm
  have n5 : ¬ b4 = b3 := fun h => n2 h.symm
  have n6 : ¬ b4 = b2 := fun h => n3 h.symm
  replace G := Lib.hid G
  clear H hb3
  refine callsD_of_wpS Tryz.func33 rfl fun c₀ cs hu => ?_
  have hta := assert_fault
  apply wpS_seq
  apply wpS_region
  simp [wpOpsS, go_sem, recoverD, hu, PE, Tryz.ntmps33, Exit.thenS]
  refine wpS_of_wp ?_
  go_wp2
  exact ⟨rfl, _, rfl, .tuple #[], by simp [results, Tryz.results33], rfl, rfl, G.out⟩
set_option maxRecDepth 20000 in
theorem catch_r (p q u : Value) (w : World) :
    CallsD Tryz.prog 33 #[p, q, u] .returning w fun e' u' w' => e' = .returned (.tuple #[]) ∧ u' = .returning ∧ w' = w := by
  refine callsD_of_wpS Tryz.func33 rfl fun c₀ cs hu => ?_
  apply wpS_seq
  apply wpS_region
  simp [wpOpsS, go_sem, recoverD, hu, Tryz.ntmps33, Exit.thenS]
  refine wpS_of_wp ?_
  go_wp2
  cases c₀
  simp_all [bodyPostS, results, Tryz.results33]
end Go.Proofs.YtijkkompnfpdeaaGreatDoor
set_option linter.unusedVariables false
set_option linter.unusedSimpArgs false
namespace Go.Proofs.YtijkkompnfpdeaaGreatDoor
open Go.RowKit Go.Joins Go.Shelf
attribute [local go_sem] Oper.semAt_some

/-- What a step hands back. -/
abbrev stV (x : Bool) (a : Ak) (e : Int) : Value := .tuple #[.bool x, .agg (akA a), .int .i64 e]
abbrev ZB : Obj := .cells #[.bool false] 4
abbrev ZA : Obj := .cells #[.int .u8 0, .int .u32 0, .int .u32 0, .int .u32 0, .int .i64 0] 37
abbrev ZE : Obj := .cells #[.int .i64 0] 31
theorem r3_new {w0 w : World} {r : List Thing} (H : Hp w0 w r) : Hp w0 (((w.alloc ZB).alloc ZA).alloc ZE) (R3 w.heap.size (w.heap.size + 1) (w.heap.size + 1 + 1) false ak0 0 ++ r) := by
  have HA := blk_new H ZB
  have HB := blk_new_at HA ZA (w.heap.size + 1) (size_alloc1 _ _)
  have HC := blk_new_at HB ZE (w.heap.size + 1 + 1) (size_alloc2 _ _ _)
  exact (HC.pull 1 rfl).pull 2 rfl
/-- What a core's variables hold. -/
structure CF (b rb : Nat) (s : Cs) (c : List I4) (W : World) : Prop where
  at8 : W.cell? ⟨b, 8, none⟩ = some (.int .i64 s.at_)
  mem : W.cell? ⟨b, 9, none⟩ = some (.pointer (some ⟨rb, 0, none⟩))
  asked : W.cell? ⟨b, 12, none⟩ = some (.bool s.asked)
  code : ∃ a cc, W.cell? ⟨b, 10, none⟩ = some (.slice a c.length cc) ∧ CellsIn W a (ics c)
  fr : ∀ k, W.frozen? ⟨b, k, none⟩ = false
  rg : ∀ k, k < 8 → W.cell? ⟨b, k, none⟩ = some (wv (s.r.getD k 0))
theorem cf_of {w0 W : World} {r : List Thing} {b : Nat} {c : List I4} {s : Cs} (H : Hp w0 W (CR b c s :: r)) : ∃ rb, CF b rb s c W := by
  obtain ⟨rb, mb, vc, vs, hl, hm, H2⟩ := cr_open H
  obtain ⟨a, cc, rfl⟩ := own_slice (H2.pull 3 rfl)
  exact ⟨rb, cb_cell H2 hl 0, cb_cell H2 hl 1, cb_cell H2 hl 4, ⟨a, cc, cb_cell H2 hl 2, CellsIn.own (H2.pull 3 rfl)⟩, fun k => free_blk (blk_get H2) k, fun k hk => cb_reg H2 hl k hk⟩
/-- What the three variables hold. -/
structure R3F (b2 b3 b4 : Nat) (x : Bool) (a : Ak) (e : Int) (W : World) : Prop where
  c2 : W.cell? ⟨b2, 0, none⟩ = some (.bool x)
  d0 : W.cell? ⟨b3, 0, none⟩ = some (bv a.what)
  d1 : W.cell? ⟨b3, 1, none⟩ = some (wv a.h)
  d2 : W.cell? ⟨b3, 2, none⟩ = some (wv a.v)
  d3 : W.cell? ⟨b3, 3, none⟩ = some (wv a.m)
  d4 : W.cell? ⟨b3, 4, none⟩ = some (.int .i64 a.wait)
  c4 : W.cell? ⟨b4, 0, none⟩ = some (.int .i64 e)
  z2 : W.frozen? ⟨b2, 0, none⟩ = false
  z30 : W.frozen? ⟨b3, 0, none⟩ = false
  z31 : W.frozen? ⟨b3, 1, none⟩ = false
  z32 : W.frozen? ⟨b3, 2, none⟩ = false
  z33 : W.frozen? ⟨b3, 3, none⟩ = false
  z34 : W.frozen? ⟨b3, 4, none⟩ = false
  z4 : W.frozen? ⟨b4, 0, none⟩ = false
  n1 : ¬ b2 = b3
  n2 : ¬ b3 = b4
  n3 : ¬ b2 = b4
  n4 : ¬ b3 = b2
  n5 : ¬ b4 = b3
  n6 : ¬ b4 = b2
theorem r3_facts {w0 W : World} {r : List Thing} {b2 b3 b4 : Nat} {x : Bool} {a : Ak} {e : Int} (H : Hp w0 W (R3 b2 b3 b4 x a e ++ r)) : R3F b2 b3 b4 x a e W := by
  have h3 := blk_get (H.pull 1 rfl)
  have h4 := blk_get (H.pull 2 rfl)
  have n1 : ¬ b2 = b3 := blk_apart H
  have n2 : ¬ b3 = b4 := blk_apart H.tail
  have n3 : ¬ b2 = b4 := blk_apart (H.pull 1 rfl).tail
  exact ⟨cell_blk (blk_get H) 0, cell_blk h3 0, cell_blk h3 1, cell_blk h3 2, cell_blk h3 3, cell_blk h3 4, cell_blk h4 0, free_blk (blk_get H) 0, free_blk h3 0, free_blk h3 1, free_blk h3 2, free_blk h3 3, free_blk h3 4, free_blk h4 0,
    n1, n2, n3, fun h => n1 h.symm, fun h => n2 h.symm, fun h => n3 h.symm⟩
set_option maxHeartbeats 4000000 in
set_option maxRecDepth 20000 in
theorem step_asked {w0 w : World} {r : List Thing} {b : Nat} {c : List I4} {s : Cs} (ha : s.asked = true) (H : Hp w0 w (CR b c s :: r)) :
    Calls Tryz.prog 9 #[.pointer (some ⟨b, 0, none⟩)] w fun e w' => e = .returned (stV false ak0 7) ∧ Hp w0 w' (CR b c s :: r) := by
  have HR := Lib.hid (r3_new H)
  go_enter_defers Tryz.func9, Tryz.ntmps9
  go_upto_region 1 with fail
  generalize w.heap.size + 1 + 1 = b4 at *
  generalize w.heap.size + 1 = b3 at *
  generalize w.heap.size = b2 at *
  generalize ((w.alloc _).alloc _).alloc _ = W at *
  obtain ⟨rb, C1, C2, C3, C4, C5, C6⟩ := cf_of (HR.out.pull 3 rfl)
  rw [ha] at C3
  clear H C4 C5 C6 C1
  have HZ := Lib.hid (r3_set (y := false) (d := ak0) (f := 7) HR.out)
  obtain ⟨c2, d0, d1, d2, d3, d4, c4, z2, z30, z31, z32, z33, z34, z4, n1, n2, n3, n4, n5, n6⟩ := r3_facts HR.out
  go_wp2
  go_region
  go_wp2
  exact ⟨_, res3 _ rfl rfl rfl HZ.out.drew, rfl, HZ.out.drew.tail.tail.tail⟩
set_option maxHeartbeats 4000000 in
set_option maxRecDepth 20000 in
theorem step_low {w0 w : World} {r : List Thing} {b : Nat} {c : List I4} {s : Cs} (ha : s.asked = false) (hn : s.at_ < 0) (H : Hp w0 w (CR b c s :: r)) :
    Calls Tryz.prog 9 #[.pointer (some ⟨b, 0, none⟩)] w fun e w' => e = .returned (stV false ak0 15) ∧ Hp w0 w' (CR b c s :: r) := by
  have HR := Lib.hid (r3_new H)
  go_enter_defers Tryz.func9, Tryz.ntmps9
  go_upto_region 1 with fail
  generalize w.heap.size + 1 + 1 = b4 at *
  generalize w.heap.size + 1 = b3 at *
  generalize w.heap.size = b2 at *
  generalize ((w.alloc _).alloc _).alloc _ = W at *
  obtain ⟨rb, C1, C2, C3, ⟨a, cc, C4, _⟩, C5, C6⟩ := cf_of (HR.out.pull 3 rfl)
  rw [ha] at C3
  clear H C5 C6
  have hn2 : decide (s.at_ < 0) = true := by simpa using hn
  go_wp2
  go_quiet (fail)
  go_wp2
  have HR1 := Lib.hid (HR.out.drewN nq)
  generalize W.drewN nq = W1 at *
  clear HR C1 C2 C3 C4
  obtain ⟨c2, d0, d1, d2, d3, d4, c4, z2, z30, z31, z32, z33, z34, z4, n1, n2, n3, n4, n5, n6⟩ := r3_facts HR1.out
  have HZ := Lib.hid (r3_set (y := false) (d := ak0) (f := 15) HR1.out)
  go_region
  go_wp2
  exact ⟨_, res3 _ rfl rfl rfl HZ.out.drew, rfl, HZ.out.drew.tail.tail.tail⟩
set_option maxHeartbeats 4000000 in
set_option maxRecDepth 20000 in
theorem step_high {w0 w : World} {r : List Thing} {b : Nat} {c : List I4} {s : Cs} (ha : s.asked = false) (hn0 : ¬ s.at_ < 0) (hn : (c.length : Int) ≤ s.at_) (H : Hp w0 w (CR b c s :: r)) :
    Calls Tryz.prog 9 #[.pointer (some ⟨b, 0, none⟩)] w fun e w' => e = .returned (stV false ak0 15) ∧ Hp w0 w' (CR b c s :: r) := by
  have HR := Lib.hid (r3_new H)
  go_enter_defers Tryz.func9, Tryz.ntmps9
  go_upto_region 1 with fail
  generalize w.heap.size + 1 + 1 = b4 at *
  generalize w.heap.size + 1 = b3 at *
  generalize w.heap.size = b2 at *
  generalize ((w.alloc _).alloc _).alloc _ = W at *
  obtain ⟨rb, C1, C2, C3, ⟨a, cc, C4, _⟩, C5, C6⟩ := cf_of (HR.out.pull 3 rfl)
  rw [ha] at C3
  clear H C5 C6
  have hn2 : decide (s.at_ < 0) = false := by simpa using hn0
  have hn3 : decide ((c.length : Int) ≤ s.at_) = true := by simpa using hn
  go_wp2
  go_quiet (fail)
  go_wp2
  have HR1 := Lib.hid (HR.out.drewN nq)
  generalize W.drewN nq = W1 at *
  clear HR C1 C2 C3 C4
  obtain ⟨c2, d0, d1, d2, d3, d4, c4, z2, z30, z31, z32, z33, z34, z4, n1, n2, n3, n4, n5, n6⟩ := r3_facts HR1.out
  have HZ := Lib.hid (r3_set (y := false) (d := ak0) (f := 15) HR1.out)
  go_region
  go_wp2
  exact ⟨_, res3 _ rfl rfl rfl HZ.out.drew, rfl, HZ.out.drew.tail.tail.tail⟩
end Go.Proofs.YtijkkompnfpdeaaGreatDoor
