/- The document's core: a step of the code, op by op: walked. -/
import Derived.Test.YtijkkompnfpdeaaGreatDoorP16
set_option linter.unusedVariables false
set_option linter.unusedSimpArgs false
namespace Go.Proofs.YtijkkompnfpdeaaGreatDoor
open Go.RowKit Go.Joins Go.Shelf
attribute [local go_sem] Oper.semAt_some

/-- What the document's core's variables hold. -/
structure DF (b mb : Nat) (s : Cs) (c : List I4) (W : World) : Prop where
  at8 : W.cell? ⟨b, 8, none⟩ = some (.int .i64 s.at_)
  mem : W.cell? ⟨b, 9, none⟩ = some (.slice (some ⟨mb, 0, none⟩) s.mem.length s.mem.length)
  code : ∃ a cc, W.cell? ⟨b, 10, none⟩ = some (.slice a c.length cc) ∧ CellsIn W a (ics c)
  says : W.cell? ⟨b, 11, none⟩ = some (.string ⟨s.says.toArray⟩)
  asked : W.cell? ⟨b, 12, none⟩ = some (.bool s.asked)
  fr : ∀ k, W.frozen? ⟨b, k, none⟩ = false
  rg : ∀ k, k < 8 → W.cell? ⟨b, k, none⟩ = some (wv (s.r.getD k 0))
theorem df_of {w0 W : World} {r : List Thing} {b : Nat} {c : List I4} {s : Cs} (H : Hp w0 W (DR b c s :: r)) : ∃ mb, DF b mb s c W := by
  obtain ⟨mb, vc, hl, hm, H2⟩ := dr_open H
  obtain ⟨a, cc, rfl⟩ := own_slice (H2.pull 2 rfl)
  exact ⟨mb, db_cell H2 hl 0, db_cell H2 hl 1, ⟨a, cc, db_cell H2 hl 2, CellsIn.own (H2.pull 2 rfl)⟩, db_cell H2 hl 3, db_cell H2 hl 4, fun k => free_blk (blk_get H2) k, fun k hk => db_reg H2 hl k hk⟩
section
variable {w0 w : World} {r : List Thing} {b : Nat} {c : List I4} {s : Cs}
theorem d_at (H : Hp w0 w (DR b c s :: r)) (v : Int) : Hp w0 (w.setCell ⟨b, 8, none⟩ (.int .i64 v)) (DR b c { s with at_ := v } :: r) := by
  obtain ⟨mb, vc, hl, hm, H2⟩ := dr_open H
  exact dr_shut (s := { s with at_ := v }) hl hm (db_setat H2 hl v)
theorem d_asked (H : Hp w0 w (DR b c s :: r)) (v : Bool) : Hp w0 (w.setCell ⟨b, 12, none⟩ (.bool v)) (DR b c { s with asked := v } :: r) := by
  obtain ⟨mb, vc, hl, hm, H2⟩ := dr_open H
  exact dr_shut (s := { s with asked := v }) hl hm (db_setasked H2 hl v)
theorem d_says (H : Hp w0 w (DR b c s :: r)) (v : List UInt8) : Hp w0 (w.setCell ⟨b, 11, none⟩ (.string ⟨v.toArray⟩)) (DR b c { s with says := v } :: r) := by
  obtain ⟨mb, vc, hl, hm, H2⟩ := dr_open H
  exact dr_shut (s := { s with says := v }) hl hm (db_setsays H2 hl v)
theorem d_reg (H : Hp w0 w (DR b c s :: r)) (x : UInt8) (hx : x.toNat < 8) (v : UInt32) : Hp w0 (w.setCell ⟨b, x.toNat, none⟩ (wv v)) (DR b c (wrg s x v) :: r) := by
  obtain ⟨mb, vc, hl, hm, H2⟩ := dr_open H
  exact dr_shut (s := wrg s x v) (by simpa [wrg] using hl) hm (db_setreg H2 hl x.toNat hx v)
/-- What is handed back, laid. -/
structure ZF (b3 : Nat) (W : World) : Prop where
  d0 : W.cell? ⟨b3, 0, none⟩ = some (.int .u8 0)
  d1 : W.cell? ⟨b3, 1, none⟩ = some (.int .u32 0)
  d2 : W.cell? ⟨b3, 2, none⟩ = some (.int .u32 0)
  d3 : W.cell? ⟨b3, 3, none⟩ = some (.int .u32 0)
  d4 : W.cell? ⟨b3, 4, none⟩ = some (.int .i64 0)
  z0 : W.frozen? ⟨b3, 0, none⟩ = false
  z1 : W.frozen? ⟨b3, 1, none⟩ = false
  z2 : W.frozen? ⟨b3, 2, none⟩ = false
  z3 : W.frozen? ⟨b3, 3, none⟩ = false
  z4 : W.frozen? ⟨b3, 4, none⟩ = false
theorem zf_of {b3 : Nat} (H : Hp w0 w (Blk b3 ZA :: r)) : ZF b3 w := by
  have h := blk_get H
  exact ⟨cell_blk h 0, cell_blk h 1, cell_blk h 2, cell_blk h 3, cell_blk h 4, free_blk h 0, free_blk h 1, free_blk h 2, free_blk h 3, free_blk h 4⟩
theorem z_set {b3 : Nat} (H : Hp w0 w (Blk b3 ZA :: r)) (d : Ak) :
    Hp w0 (((((w.setCell ⟨b3, 0, none⟩ (bv d.what)).setCell ⟨b3, 1, none⟩ (wv d.h)).setCell ⟨b3, 2, none⟩ (wv d.v)).setCell ⟨b3, 3, none⟩ (wv d.m)).setCell ⟨b3, 4, none⟩ (.int .i64 d.wait)) (Blk b3 (.cells (akA d) 37 (0, 0)) :: r) :=
  blk_set (blk_set (blk_set (blk_set (blk_set H 0 (bv d.what)) 1 (wv d.h)) 2 (wv d.v)) 3 (wv d.m)) 4 (.int .i64 d.wait)
end
set_option maxHeartbeats 16000000 in
set_option maxRecDepth 20000 in
theorem rstep_nop {w0 w : World} {r : List Thing} {b : Nat} {c : List I4} {s : Cs} (ha : s.asked = false) (k : Nat) (hk : s.at_ = (k : Int)) (hlt : k < c.length) (hlen : c.length ≤ 1024) (o x y z : UInt8) (hx : c[k] = (o, x, y, z)) (ho : o.toNat = 0) (H : Hp w0 w (DR b c s :: r)) :
    Calls Tryz.prog 19 #[.pointer (some ⟨b, 0, none⟩)] w fun e w' => e = .returned (stV false ak0 0) ∧ Hp w0 w' (DR b c { s with at_ := s.at_ + 1 } :: r) := by
  have HO := Lib.hid ho
  clear ho
  have HR := Lib.hid (blk_new H ZA)
  clear H
  go_enter Tryz.func19, Tryz.ntmps19
  go_upto_region 1 with fail
  generalize w.heap.size = b3 at *
  generalize w.alloc _ = W at *
  obtain ⟨mb, C1, -, ⟨a, cc, C4, -⟩, -, C3, -, -⟩ := df_of HR.out.tail
  rw [ha] at C3
  rw [hk] at C1
  have hn2 : decide ((k : Int) < 0) = false := by simp
  have hn3 : decide ((c.length : Int) ≤ (k : Int)) = false := by simp; omega
  go_wp2
  go_quiet (fail)
  go_upto_region 5 with fail
  have HR1 := Lib.hid (HR.out.drewN nq)
  generalize W.drewN nq = W1 at *
  clear HR C1 C3 C4 hn2 hn3
  obtain ⟨mb', C1, -, ⟨a', cc', C4, C4'⟩, -, -, -, -⟩ := df_of HR1.out.tail
  obtain ⟨g, oo, rfl, i0, i1, i2, i3⟩ := ins_cells C4' hlt
  rw [hx] at i0 i1 i2 i3
  rw [hk] at C1
  have hSS : S8 b g oo k c.length cc' (o, x, y, z) W1.drew := ⟨C4, C1, i0, i1, i2, i3⟩
  have hlt' : (k : Int) < (c.length : Int) := by omega
  clear C1 C4 C4' i0 i1 i2 i3
  refine wp_region_S 11 (S8 b g oo k c.length cc' (o, x, y, z)) (by as_aux_lemma => kernel_rfl) ?_
  refine wpAnyS_tk (i := 0) (by as_aux_lemma => kernel_rfl) (by intro c a d v w h; cases d <;> exact h) hSS (fun oi hoi => ?_)
  simp only [List.getElem?_toArray, List.getElem?_cons_zero, List.getElem?_cons_succ, Option.some.injEq] at hoi; subst hoi
  refine ⟨?_, by rfl, fun wx hSx => ?_, ?_⟩
  rotate_left
  · obtain ⟨s1, s2, s3, s4, s5, s6⟩ := hSx
    go_simp
    try with_reducible rfl
  try simp only [Act.put, List.setIfInBounds_toArray, List.set_cons_zero, List.set_cons_succ]
  refine wpAnyS_tk (i := 1) (by as_aux_lemma => kernel_rfl) (by intro c a d v w h; cases d <;> exact h) hSS (fun oi hoi => ?_)
  simp only [List.getElem?_toArray, List.getElem?_cons_zero, List.getElem?_cons_succ, Option.some.injEq] at hoi; subst hoi
  refine ⟨?_, by rfl, fun wx hSx => ?_, ?_⟩
  rotate_left
  · obtain ⟨s1, s2, s3, s4, s5, s6⟩ := hSx
    go_simp
    try with_reducible rfl
  try simp only [Act.put, List.setIfInBounds_toArray, List.set_cons_zero, List.set_cons_succ]
  refine wpAnyS_tk (i := 2) (by as_aux_lemma => kernel_rfl) (by intro c a d v w h; cases d <;> exact h) hSS (fun oi hoi => ?_)
  simp only [List.getElem?_toArray, List.getElem?_cons_zero, List.getElem?_cons_succ, Option.some.injEq] at hoi; subst hoi
  refine ⟨?_, by rfl, fun wx hSx => ?_, ?_⟩
  rotate_left
  · obtain ⟨s1, s2, s3, s4, s5, s6⟩ := hSx
    go_simp
    try with_reducible rfl
  try simp only [Act.put, List.setIfInBounds_toArray, List.set_cons_zero, List.set_cons_succ]
  refine wpAnyS_tk (i := 3) (by as_aux_lemma => kernel_rfl) (by intro c a d v w h; cases d <;> exact h) hSS (fun oi hoi => ?_)
  simp only [List.getElem?_toArray, List.getElem?_cons_zero, List.getElem?_cons_succ, Option.some.injEq] at hoi; subst hoi
  refine ⟨?_, by rfl, fun wx hSx => ?_, ?_⟩
  rotate_left
  · obtain ⟨s1, s2, s3, s4, s5, s6⟩ := hSx
    go_simp
    try with_reducible rfl
  try simp only [Act.put, List.setIfInBounds_toArray, List.set_cons_zero, List.set_cons_succ]
  refine wpAnyS_tk (i := 4) (by as_aux_lemma => kernel_rfl) (by intro c a d v w h; cases d <;> exact h) hSS (fun oi hoi => ?_)
  simp only [List.getElem?_toArray, List.getElem?_cons_zero, List.getElem?_cons_succ, Option.some.injEq] at hoi; subst hoi
  refine ⟨?_, by rfl, fun wx hSx => ?_, ?_⟩
  rotate_left
  · obtain ⟨s1, s2, s3, s4, s5, s6⟩ := hSx
    go_simp
    try with_reducible rfl
  try simp only [Act.put, List.setIfInBounds_toArray, List.set_cons_zero, List.set_cons_succ]
  refine wpAnyS_tk (i := 5) (by as_aux_lemma => kernel_rfl) (by intro c a d v w h; cases d <;> exact h) hSS (fun oi hoi => ?_)
  simp only [List.getElem?_toArray, List.getElem?_cons_zero, List.getElem?_cons_succ, Option.some.injEq] at hoi; subst hoi
  refine ⟨?_, by rfl, fun wx hSx => ?_, ?_⟩
  rotate_left
  · obtain ⟨s1, s2, s3, s4, s5, s6⟩ := hSx
    go_simp
    try with_reducible rfl
  try simp only [Act.put, List.setIfInBounds_toArray, List.set_cons_zero, List.set_cons_succ]
  refine wpAnyS_tk (i := 6) (by as_aux_lemma => kernel_rfl) (by intro c a d v w h; cases d <;> exact h) hSS (fun oi hoi => ?_)
  simp only [List.getElem?_toArray, List.getElem?_cons_zero, List.getElem?_cons_succ, Option.some.injEq] at hoi; subst hoi
  refine ⟨?_, by rfl, fun wx hSx => ?_, ?_⟩
  rotate_left
  · obtain ⟨s1, s2, s3, s4, s5, s6⟩ := hSx
    go_simp
    try with_reducible rfl
  try simp only [Act.put, List.setIfInBounds_toArray, List.set_cons_zero, List.set_cons_succ]
  refine wpAnyS_tk (i := 7) (by as_aux_lemma => kernel_rfl) (by intro c a d v w h; cases d <;> exact h) hSS (fun oi hoi => ?_)
  simp only [List.getElem?_toArray, List.getElem?_cons_zero, List.getElem?_cons_succ, Option.some.injEq] at hoi; subst hoi
  refine ⟨?_, by rfl, fun wx hSx => ?_, ?_⟩
  rotate_left
  · obtain ⟨s1, s2, s3, s4, s5, s6⟩ := hSx
    go_simp
    try with_reducible rfl
  try simp only [Act.put, List.setIfInBounds_toArray, List.set_cons_zero, List.set_cons_succ]
  refine wpAnyS_tk (i := 8) (by as_aux_lemma => kernel_rfl) (by intro c a d v w h; cases d <;> exact h) hSS (fun oi hoi => ?_)
  simp only [List.getElem?_toArray, List.getElem?_cons_zero, List.getElem?_cons_succ, Option.some.injEq] at hoi; subst hoi
  refine ⟨?_, by rfl, fun wx hSx => ?_, ?_⟩
  rotate_left
  · obtain ⟨s1, s2, s3, s4, s5, s6⟩ := hSx
    go_simp
    try with_reducible rfl
  try simp only [Act.put, List.setIfInBounds_toArray, List.set_cons_zero, List.set_cons_succ]
  refine wpAnyS_tk (i := 9) (by as_aux_lemma => kernel_rfl) (by intro c a d v w h; cases d <;> exact h) hSS (fun oi hoi => ?_)
  simp only [List.getElem?_toArray, List.getElem?_cons_zero, List.getElem?_cons_succ, Option.some.injEq] at hoi; subst hoi
  refine ⟨?_, by rfl, fun wx hSx => ?_, ?_⟩
  rotate_left
  · obtain ⟨s1, s2, s3, s4, s5, s6⟩ := hSx
    go_simp
    try with_reducible rfl
  try simp only [Act.put, List.setIfInBounds_toArray, List.set_cons_zero, List.set_cons_succ]
  refine wpAnyS_one (i := 10) (by as_aux_lemma => kernel_rfl) ?_
  intro oi hoi K hK
  simp only [List.getElem?_toArray, List.getElem?_cons_zero, List.getElem?_cons_succ, Option.some.injEq] at hoi; subst hoi
  go_simp
  refine hK.out _ _ (fun _ => hSS.alloc _) ?_
  clear hK K
  try simp only [Act.put, List.setIfInBounds_toArray, List.set_cons_zero, List.set_cons_succ]
  refine wpAnyS_one (i := 11) (by as_aux_lemma => kernel_rfl) ?_
  intro oi hoi K hK
  simp only [List.getElem?_toArray, List.getElem?_cons_zero, List.getElem?_cons_succ, Option.some.injEq] at hoi; subst hoi
  go_simp
  refine hK.out _ _ (fun h => absurd h (by decide)) ?_
  clear hK K
  try simp only [Act.put, List.setIfInBounds_toArray, List.set_cons_zero, List.set_cons_succ]
  refine wpAnyS_done (by as_aux_lemma => kernel_rfl) ?_ _
  clear hSS hlt'
  have HR2 : Hid (Hp w0 _ (Blk b3 ZA :: DR b c s :: XB W1.heap.size (o, x, y, z) :: r)) := Lib.hid (((blk_new HR1.out (.cells #[bv o, bv x, bv y, bv z] 26)).drew.pull 2 rfl).pull 2 rfl)
  generalize W1.heap.size = xb at *
  generalize (W1.alloc _).drew = W2 at *
  clear HR1
  have x0 : W2.cell? ⟨xb, 0, none⟩ = some (bv o) := cell_blk (blk_get (HR2.out.pull 2 rfl)) 0
  have x1 : W2.cell? ⟨xb, 1, none⟩ = some (bv x) := cell_blk (blk_get (HR2.out.pull 2 rfl)) 1
  have x2 : W2.cell? ⟨xb, 2, none⟩ = some (bv y) := cell_blk (blk_get (HR2.out.pull 2 rfl)) 2
  have x3 : W2.cell? ⟨xb, 3, none⟩ = some (bv z) := cell_blk (blk_get (HR2.out.pull 2 rfl)) 3
  have hw : IntKind.i64.wrap ((k : Int) + 1) = (k : Int) + 1 := by rw [IntKind.wrap_i64]; omega
  obtain ⟨mb2, C8, -, -, C11, -, fr, RG⟩ := df_of HR2.out.tail
  rw [hk] at C8
  rw [show bv o = .int .u8 0 by unfold bv; rw [HO.out]; rfl] at x0
  clear fr RG C11 x1 x2 x3
  go_upto_region 40 with fail
  clear x0 C8 hw
  have HR4 := HR2
  clear HR2
  obtain ⟨-, D8, -, -, -, -, fr8, -⟩ := df_of HR4.out.tail
  have z8 := fr8 8
  have HR5 := Lib.hid ((d_at HR4.out.up1 ((k : Int) + 1)).up1)
  clear fr8
  go_upto_region 41 with fail
  generalize World.setCell _ _ _ = HR5w at *
  clear HR4 D8 z8
  rw [← hk] at HR5
  obtain ⟨d0, d1, d2, d3, d4, z0, z1, z2, z3, z4⟩ := zf_of HR5.out
  have HZ := Lib.hid (z_set HR5.out ak0)
  clear HR5
  go_wp2
  exact bodyPost_ret (res3d _ rfl rfl rfl HZ.out) rfl ⟨rfl, HZ.out.tail.up1.tail⟩
set_option maxHeartbeats 16000000 in
set_option maxRecDepth 20000 in
theorem rstep_set {w0 w : World} {r : List Thing} {b : Nat} {c : List I4} {s : Cs} (ha : s.asked = false) (k : Nat) (hk : s.at_ = (k : Int)) (hlt : k < c.length) (hlen : c.length ≤ 1024) (o x y z : UInt8) (hx : c[k] = (o, x, y, z)) (ho : o.toNat = 1) (hxr : x.toNat < 8) (u : UInt32) (hu : UInt32.ofNat (y.toNat * 256 + z.toNat) = u) (H : Hp w0 w (DR b c s :: r)) :
    Calls Tryz.prog 19 #[.pointer (some ⟨b, 0, none⟩)] w fun e w' => e = .returned (stV false ak0 0) ∧ Hp w0 w' (DR b c { wrg s x u with at_ := s.at_ + 1 } :: r) := by
  have HO := Lib.hid ho
  clear ho
  have HR := Lib.hid (blk_new H ZA)
  clear H
  go_enter Tryz.func19, Tryz.ntmps19
  go_upto_region 1 with fail
  generalize w.heap.size = b3 at *
  generalize w.alloc _ = W at *
  obtain ⟨mb, C1, -, ⟨a, cc, C4, -⟩, -, C3, -, -⟩ := df_of HR.out.tail
  rw [ha] at C3
  rw [hk] at C1
  have hn2 : decide ((k : Int) < 0) = false := by simp
  have hn3 : decide ((c.length : Int) ≤ (k : Int)) = false := by simp; omega
  go_wp2
  go_quiet (fail)
  go_upto_region 5 with fail
  have HR1 := Lib.hid (HR.out.drewN nq)
  generalize W.drewN nq = W1 at *
  clear HR C1 C3 C4 hn2 hn3
  obtain ⟨mb', C1, -, ⟨a', cc', C4, C4'⟩, -, -, -, -⟩ := df_of HR1.out.tail
  obtain ⟨g, oo, rfl, i0, i1, i2, i3⟩ := ins_cells C4' hlt
  rw [hx] at i0 i1 i2 i3
  rw [hk] at C1
  have hSS : S8 b g oo k c.length cc' (o, x, y, z) W1.drew := ⟨C4, C1, i0, i1, i2, i3⟩
  have hlt' : (k : Int) < (c.length : Int) := by omega
  clear C1 C4 C4' i0 i1 i2 i3
  refine wp_region_S 11 (S8 b g oo k c.length cc' (o, x, y, z)) (by as_aux_lemma => kernel_rfl) ?_
  refine wpAnyS_tk (i := 0) (by as_aux_lemma => kernel_rfl) (by intro c a d v w h; cases d <;> exact h) hSS (fun oi hoi => ?_)
  simp only [List.getElem?_toArray, List.getElem?_cons_zero, List.getElem?_cons_succ, Option.some.injEq] at hoi; subst hoi
  refine ⟨?_, by rfl, fun wx hSx => ?_, ?_⟩
  rotate_left
  · obtain ⟨s1, s2, s3, s4, s5, s6⟩ := hSx
    go_simp
    try with_reducible rfl
  try simp only [Act.put, List.setIfInBounds_toArray, List.set_cons_zero, List.set_cons_succ]
  refine wpAnyS_tk (i := 1) (by as_aux_lemma => kernel_rfl) (by intro c a d v w h; cases d <;> exact h) hSS (fun oi hoi => ?_)
  simp only [List.getElem?_toArray, List.getElem?_cons_zero, List.getElem?_cons_succ, Option.some.injEq] at hoi; subst hoi
  refine ⟨?_, by rfl, fun wx hSx => ?_, ?_⟩
  rotate_left
  · obtain ⟨s1, s2, s3, s4, s5, s6⟩ := hSx
    go_simp
    try with_reducible rfl
  try simp only [Act.put, List.setIfInBounds_toArray, List.set_cons_zero, List.set_cons_succ]
  refine wpAnyS_tk (i := 2) (by as_aux_lemma => kernel_rfl) (by intro c a d v w h; cases d <;> exact h) hSS (fun oi hoi => ?_)
  simp only [List.getElem?_toArray, List.getElem?_cons_zero, List.getElem?_cons_succ, Option.some.injEq] at hoi; subst hoi
  refine ⟨?_, by rfl, fun wx hSx => ?_, ?_⟩
  rotate_left
  · obtain ⟨s1, s2, s3, s4, s5, s6⟩ := hSx
    go_simp
    try with_reducible rfl
  try simp only [Act.put, List.setIfInBounds_toArray, List.set_cons_zero, List.set_cons_succ]
  refine wpAnyS_tk (i := 3) (by as_aux_lemma => kernel_rfl) (by intro c a d v w h; cases d <;> exact h) hSS (fun oi hoi => ?_)
  simp only [List.getElem?_toArray, List.getElem?_cons_zero, List.getElem?_cons_succ, Option.some.injEq] at hoi; subst hoi
  refine ⟨?_, by rfl, fun wx hSx => ?_, ?_⟩
  rotate_left
  · obtain ⟨s1, s2, s3, s4, s5, s6⟩ := hSx
    go_simp
    try with_reducible rfl
  try simp only [Act.put, List.setIfInBounds_toArray, List.set_cons_zero, List.set_cons_succ]
  refine wpAnyS_tk (i := 4) (by as_aux_lemma => kernel_rfl) (by intro c a d v w h; cases d <;> exact h) hSS (fun oi hoi => ?_)
  simp only [List.getElem?_toArray, List.getElem?_cons_zero, List.getElem?_cons_succ, Option.some.injEq] at hoi; subst hoi
  refine ⟨?_, by rfl, fun wx hSx => ?_, ?_⟩
  rotate_left
  · obtain ⟨s1, s2, s3, s4, s5, s6⟩ := hSx
    go_simp
    try with_reducible rfl
  try simp only [Act.put, List.setIfInBounds_toArray, List.set_cons_zero, List.set_cons_succ]
  refine wpAnyS_tk (i := 5) (by as_aux_lemma => kernel_rfl) (by intro c a d v w h; cases d <;> exact h) hSS (fun oi hoi => ?_)
  simp only [List.getElem?_toArray, List.getElem?_cons_zero, List.getElem?_cons_succ, Option.some.injEq] at hoi; subst hoi
  refine ⟨?_, by rfl, fun wx hSx => ?_, ?_⟩
  rotate_left
  · obtain ⟨s1, s2, s3, s4, s5, s6⟩ := hSx
    go_simp
    try with_reducible rfl
  try simp only [Act.put, List.setIfInBounds_toArray, List.set_cons_zero, List.set_cons_succ]
  refine wpAnyS_tk (i := 6) (by as_aux_lemma => kernel_rfl) (by intro c a d v w h; cases d <;> exact h) hSS (fun oi hoi => ?_)
  simp only [List.getElem?_toArray, List.getElem?_cons_zero, List.getElem?_cons_succ, Option.some.injEq] at hoi; subst hoi
  refine ⟨?_, by rfl, fun wx hSx => ?_, ?_⟩
  rotate_left
  · obtain ⟨s1, s2, s3, s4, s5, s6⟩ := hSx
    go_simp
    try with_reducible rfl
  try simp only [Act.put, List.setIfInBounds_toArray, List.set_cons_zero, List.set_cons_succ]
  refine wpAnyS_tk (i := 7) (by as_aux_lemma => kernel_rfl) (by intro c a d v w h; cases d <;> exact h) hSS (fun oi hoi => ?_)
  simp only [List.getElem?_toArray, List.getElem?_cons_zero, List.getElem?_cons_succ, Option.some.injEq] at hoi; subst hoi
  refine ⟨?_, by rfl, fun wx hSx => ?_, ?_⟩
  rotate_left
  · obtain ⟨s1, s2, s3, s4, s5, s6⟩ := hSx
    go_simp
    try with_reducible rfl
  try simp only [Act.put, List.setIfInBounds_toArray, List.set_cons_zero, List.set_cons_succ]
  refine wpAnyS_tk (i := 8) (by as_aux_lemma => kernel_rfl) (by intro c a d v w h; cases d <;> exact h) hSS (fun oi hoi => ?_)
  simp only [List.getElem?_toArray, List.getElem?_cons_zero, List.getElem?_cons_succ, Option.some.injEq] at hoi; subst hoi
  refine ⟨?_, by rfl, fun wx hSx => ?_, ?_⟩
  rotate_left
  · obtain ⟨s1, s2, s3, s4, s5, s6⟩ := hSx
    go_simp
    try with_reducible rfl
  try simp only [Act.put, List.setIfInBounds_toArray, List.set_cons_zero, List.set_cons_succ]
  refine wpAnyS_tk (i := 9) (by as_aux_lemma => kernel_rfl) (by intro c a d v w h; cases d <;> exact h) hSS (fun oi hoi => ?_)
  simp only [List.getElem?_toArray, List.getElem?_cons_zero, List.getElem?_cons_succ, Option.some.injEq] at hoi; subst hoi
  refine ⟨?_, by rfl, fun wx hSx => ?_, ?_⟩
  rotate_left
  · obtain ⟨s1, s2, s3, s4, s5, s6⟩ := hSx
    go_simp
    try with_reducible rfl
  try simp only [Act.put, List.setIfInBounds_toArray, List.set_cons_zero, List.set_cons_succ]
  refine wpAnyS_one (i := 10) (by as_aux_lemma => kernel_rfl) ?_
  intro oi hoi K hK
  simp only [List.getElem?_toArray, List.getElem?_cons_zero, List.getElem?_cons_succ, Option.some.injEq] at hoi; subst hoi
  go_simp
  refine hK.out _ _ (fun _ => hSS.alloc _) ?_
  clear hK K
  try simp only [Act.put, List.setIfInBounds_toArray, List.set_cons_zero, List.set_cons_succ]
  refine wpAnyS_one (i := 11) (by as_aux_lemma => kernel_rfl) ?_
  intro oi hoi K hK
  simp only [List.getElem?_toArray, List.getElem?_cons_zero, List.getElem?_cons_succ, Option.some.injEq] at hoi; subst hoi
  go_simp
  refine hK.out _ _ (fun h => absurd h (by decide)) ?_
  clear hK K
  try simp only [Act.put, List.setIfInBounds_toArray, List.set_cons_zero, List.set_cons_succ]
  refine wpAnyS_done (by as_aux_lemma => kernel_rfl) ?_ _
  clear hSS hlt'
  have HR2 : Hid (Hp w0 _ (Blk b3 ZA :: DR b c s :: XB W1.heap.size (o, x, y, z) :: r)) := Lib.hid (((blk_new HR1.out (.cells #[bv o, bv x, bv y, bv z] 26)).drew.pull 2 rfl).pull 2 rfl)
  generalize W1.heap.size = xb at *
  generalize (W1.alloc _).drew = W2 at *
  clear HR1
  have x0 : W2.cell? ⟨xb, 0, none⟩ = some (bv o) := cell_blk (blk_get (HR2.out.pull 2 rfl)) 0
  have x1 : W2.cell? ⟨xb, 1, none⟩ = some (bv x) := cell_blk (blk_get (HR2.out.pull 2 rfl)) 1
  have x2 : W2.cell? ⟨xb, 2, none⟩ = some (bv y) := cell_blk (blk_get (HR2.out.pull 2 rfl)) 2
  have x3 : W2.cell? ⟨xb, 3, none⟩ = some (bv z) := cell_blk (blk_get (HR2.out.pull 2 rfl)) 3
  have hw : IntKind.i64.wrap ((k : Int) + 1) = (k : Int) + 1 := by rw [IntKind.wrap_i64]; omega
  obtain ⟨mb2, C8, -, -, C11, -, fr, RG⟩ := df_of HR2.out.tail
  rw [hk] at C8
  rw [show bv o = .int .u8 1 by unfold bv; rw [HO.out]; rfl] at x0
  have f0 := RG x.toNat hxr
  have fz := fr x.toNat
  have HH := Lib.hid ((d_reg HR2.out.up1 x hxr u).up1)
  have b2 := y.toNat_lt
  have b3' := z.toNat_lt
  have q2 := w8_32 y
  have q3 := w8_32 z
  have q5 : IntKind.u32.wrap (256 * (y.toNat : Int)) = 256 * (y.toNat : Int) := by rw [IntKind.wrap_u32]; omega
  have q6 : IntKind.u32.wrap (256 * (y.toNat : Int) + (z.toNat : Int)) = (u.toNat : Int) := by rw [← hu, IntKind.wrap_u32, UInt32.toNat_ofNat', Nat.mod_eq_of_lt (by omega)]; omega
  have q4 : (x.toNat : Int) < 8 := by omega
  clear fr RG C11 HR2 b2 b3' hu
  go_upto_region 11 with fail
  clear x0 C8 hw
  go_region
  go_upto_region 40 with fail
  have HR4 := Lib.hid HH.out.drew
  generalize World.drew _ = W4 at *
  clear HH f0 fz q2 q3 q4 q5 q6 x1 x2 x3
  obtain ⟨-, D8, -, -, -, -, fr8, -⟩ := df_of HR4.out.tail
  have z8 := fr8 8
  have HR5 := Lib.hid ((d_at HR4.out.up1 ((k : Int) + 1)).up1)
  clear fr8
  go_upto_region 41 with fail
  generalize World.setCell _ _ _ = HR5w at *
  clear HR4 D8 z8
  rw [← hk] at HR5
  obtain ⟨d0, d1, d2, d3, d4, z0, z1, z2, z3, z4⟩ := zf_of HR5.out
  have HZ := Lib.hid (z_set HR5.out ak0)
  clear HR5
  go_wp2
  exact bodyPost_ret (res3d _ rfl rfl rfl HZ.out) rfl ⟨rfl, HZ.out.tail.up1.tail⟩
set_option maxHeartbeats 16000000 in
set_option maxRecDepth 20000 in
theorem rstep_move {w0 w : World} {r : List Thing} {b : Nat} {c : List I4} {s : Cs} (ha : s.asked = false) (k : Nat) (hk : s.at_ = (k : Int)) (hlt : k < c.length) (hlen : c.length ≤ 1024) (o x y z : UInt8) (hx : c[k] = (o, x, y, z)) (ho : o.toNat = 2) (hxr : x.toNat < 8) (hyr : y.toNat < 8) (u : UInt32) (hu : rg s y = u) (H : Hp w0 w (DR b c s :: r)) :
    Calls Tryz.prog 19 #[.pointer (some ⟨b, 0, none⟩)] w fun e w' => e = .returned (stV false ak0 0) ∧ Hp w0 w' (DR b c { wrg s x u with at_ := s.at_ + 1 } :: r) := by
  have HO := Lib.hid ho
  clear ho
  have HR := Lib.hid (blk_new H ZA)
  clear H
  go_enter Tryz.func19, Tryz.ntmps19
  go_upto_region 1 with fail
  generalize w.heap.size = b3 at *
  generalize w.alloc _ = W at *
  obtain ⟨mb, C1, -, ⟨a, cc, C4, -⟩, -, C3, -, -⟩ := df_of HR.out.tail
  rw [ha] at C3
  rw [hk] at C1
  have hn2 : decide ((k : Int) < 0) = false := by simp
  have hn3 : decide ((c.length : Int) ≤ (k : Int)) = false := by simp; omega
  go_wp2
  go_quiet (fail)
  go_upto_region 5 with fail
  have HR1 := Lib.hid (HR.out.drewN nq)
  generalize W.drewN nq = W1 at *
  clear HR C1 C3 C4 hn2 hn3
  obtain ⟨mb', C1, -, ⟨a', cc', C4, C4'⟩, -, -, -, -⟩ := df_of HR1.out.tail
  obtain ⟨g, oo, rfl, i0, i1, i2, i3⟩ := ins_cells C4' hlt
  rw [hx] at i0 i1 i2 i3
  rw [hk] at C1
  have hSS : S8 b g oo k c.length cc' (o, x, y, z) W1.drew := ⟨C4, C1, i0, i1, i2, i3⟩
  have hlt' : (k : Int) < (c.length : Int) := by omega
  clear C1 C4 C4' i0 i1 i2 i3
  refine wp_region_S 11 (S8 b g oo k c.length cc' (o, x, y, z)) (by as_aux_lemma => kernel_rfl) ?_
  refine wpAnyS_tk (i := 0) (by as_aux_lemma => kernel_rfl) (by intro c a d v w h; cases d <;> exact h) hSS (fun oi hoi => ?_)
  simp only [List.getElem?_toArray, List.getElem?_cons_zero, List.getElem?_cons_succ, Option.some.injEq] at hoi; subst hoi
  refine ⟨?_, by rfl, fun wx hSx => ?_, ?_⟩
  rotate_left
  · obtain ⟨s1, s2, s3, s4, s5, s6⟩ := hSx
    go_simp
    try with_reducible rfl
  try simp only [Act.put, List.setIfInBounds_toArray, List.set_cons_zero, List.set_cons_succ]
  refine wpAnyS_tk (i := 1) (by as_aux_lemma => kernel_rfl) (by intro c a d v w h; cases d <;> exact h) hSS (fun oi hoi => ?_)
  simp only [List.getElem?_toArray, List.getElem?_cons_zero, List.getElem?_cons_succ, Option.some.injEq] at hoi; subst hoi
  refine ⟨?_, by rfl, fun wx hSx => ?_, ?_⟩
  rotate_left
  · obtain ⟨s1, s2, s3, s4, s5, s6⟩ := hSx
    go_simp
    try with_reducible rfl
  try simp only [Act.put, List.setIfInBounds_toArray, List.set_cons_zero, List.set_cons_succ]
  refine wpAnyS_tk (i := 2) (by as_aux_lemma => kernel_rfl) (by intro c a d v w h; cases d <;> exact h) hSS (fun oi hoi => ?_)
  simp only [List.getElem?_toArray, List.getElem?_cons_zero, List.getElem?_cons_succ, Option.some.injEq] at hoi; subst hoi
  refine ⟨?_, by rfl, fun wx hSx => ?_, ?_⟩
  rotate_left
  · obtain ⟨s1, s2, s3, s4, s5, s6⟩ := hSx
    go_simp
    try with_reducible rfl
  try simp only [Act.put, List.setIfInBounds_toArray, List.set_cons_zero, List.set_cons_succ]
  refine wpAnyS_tk (i := 3) (by as_aux_lemma => kernel_rfl) (by intro c a d v w h; cases d <;> exact h) hSS (fun oi hoi => ?_)
  simp only [List.getElem?_toArray, List.getElem?_cons_zero, List.getElem?_cons_succ, Option.some.injEq] at hoi; subst hoi
  refine ⟨?_, by rfl, fun wx hSx => ?_, ?_⟩
  rotate_left
  · obtain ⟨s1, s2, s3, s4, s5, s6⟩ := hSx
    go_simp
    try with_reducible rfl
  try simp only [Act.put, List.setIfInBounds_toArray, List.set_cons_zero, List.set_cons_succ]
  refine wpAnyS_tk (i := 4) (by as_aux_lemma => kernel_rfl) (by intro c a d v w h; cases d <;> exact h) hSS (fun oi hoi => ?_)
  simp only [List.getElem?_toArray, List.getElem?_cons_zero, List.getElem?_cons_succ, Option.some.injEq] at hoi; subst hoi
  refine ⟨?_, by rfl, fun wx hSx => ?_, ?_⟩
  rotate_left
  · obtain ⟨s1, s2, s3, s4, s5, s6⟩ := hSx
    go_simp
    try with_reducible rfl
  try simp only [Act.put, List.setIfInBounds_toArray, List.set_cons_zero, List.set_cons_succ]
  refine wpAnyS_tk (i := 5) (by as_aux_lemma => kernel_rfl) (by intro c a d v w h; cases d <;> exact h) hSS (fun oi hoi => ?_)
  simp only [List.getElem?_toArray, List.getElem?_cons_zero, List.getElem?_cons_succ, Option.some.injEq] at hoi; subst hoi
  refine ⟨?_, by rfl, fun wx hSx => ?_, ?_⟩
  rotate_left
  · obtain ⟨s1, s2, s3, s4, s5, s6⟩ := hSx
    go_simp
    try with_reducible rfl
  try simp only [Act.put, List.setIfInBounds_toArray, List.set_cons_zero, List.set_cons_succ]
  refine wpAnyS_tk (i := 6) (by as_aux_lemma => kernel_rfl) (by intro c a d v w h; cases d <;> exact h) hSS (fun oi hoi => ?_)
  simp only [List.getElem?_toArray, List.getElem?_cons_zero, List.getElem?_cons_succ, Option.some.injEq] at hoi; subst hoi
  refine ⟨?_, by rfl, fun wx hSx => ?_, ?_⟩
  rotate_left
  · obtain ⟨s1, s2, s3, s4, s5, s6⟩ := hSx
    go_simp
    try with_reducible rfl
  try simp only [Act.put, List.setIfInBounds_toArray, List.set_cons_zero, List.set_cons_succ]
  refine wpAnyS_tk (i := 7) (by as_aux_lemma => kernel_rfl) (by intro c a d v w h; cases d <;> exact h) hSS (fun oi hoi => ?_)
  simp only [List.getElem?_toArray, List.getElem?_cons_zero, List.getElem?_cons_succ, Option.some.injEq] at hoi; subst hoi
  refine ⟨?_, by rfl, fun wx hSx => ?_, ?_⟩
  rotate_left
  · obtain ⟨s1, s2, s3, s4, s5, s6⟩ := hSx
    go_simp
    try with_reducible rfl
  try simp only [Act.put, List.setIfInBounds_toArray, List.set_cons_zero, List.set_cons_succ]
  refine wpAnyS_tk (i := 8) (by as_aux_lemma => kernel_rfl) (by intro c a d v w h; cases d <;> exact h) hSS (fun oi hoi => ?_)
  simp only [List.getElem?_toArray, List.getElem?_cons_zero, List.getElem?_cons_succ, Option.some.injEq] at hoi; subst hoi
  refine ⟨?_, by rfl, fun wx hSx => ?_, ?_⟩
  rotate_left
  · obtain ⟨s1, s2, s3, s4, s5, s6⟩ := hSx
    go_simp
    try with_reducible rfl
  try simp only [Act.put, List.setIfInBounds_toArray, List.set_cons_zero, List.set_cons_succ]
  refine wpAnyS_tk (i := 9) (by as_aux_lemma => kernel_rfl) (by intro c a d v w h; cases d <;> exact h) hSS (fun oi hoi => ?_)
  simp only [List.getElem?_toArray, List.getElem?_cons_zero, List.getElem?_cons_succ, Option.some.injEq] at hoi; subst hoi
  refine ⟨?_, by rfl, fun wx hSx => ?_, ?_⟩
  rotate_left
  · obtain ⟨s1, s2, s3, s4, s5, s6⟩ := hSx
    go_simp
    try with_reducible rfl
  try simp only [Act.put, List.setIfInBounds_toArray, List.set_cons_zero, List.set_cons_succ]
  refine wpAnyS_one (i := 10) (by as_aux_lemma => kernel_rfl) ?_
  intro oi hoi K hK
  simp only [List.getElem?_toArray, List.getElem?_cons_zero, List.getElem?_cons_succ, Option.some.injEq] at hoi; subst hoi
  go_simp
  refine hK.out _ _ (fun _ => hSS.alloc _) ?_
  clear hK K
  try simp only [Act.put, List.setIfInBounds_toArray, List.set_cons_zero, List.set_cons_succ]
  refine wpAnyS_one (i := 11) (by as_aux_lemma => kernel_rfl) ?_
  intro oi hoi K hK
  simp only [List.getElem?_toArray, List.getElem?_cons_zero, List.getElem?_cons_succ, Option.some.injEq] at hoi; subst hoi
  go_simp
  refine hK.out _ _ (fun h => absurd h (by decide)) ?_
  clear hK K
  try simp only [Act.put, List.setIfInBounds_toArray, List.set_cons_zero, List.set_cons_succ]
  refine wpAnyS_done (by as_aux_lemma => kernel_rfl) ?_ _
  clear hSS hlt'
  have HR2 : Hid (Hp w0 _ (Blk b3 ZA :: DR b c s :: XB W1.heap.size (o, x, y, z) :: r)) := Lib.hid (((blk_new HR1.out (.cells #[bv o, bv x, bv y, bv z] 26)).drew.pull 2 rfl).pull 2 rfl)
  generalize W1.heap.size = xb at *
  generalize (W1.alloc _).drew = W2 at *
  clear HR1
  have x0 : W2.cell? ⟨xb, 0, none⟩ = some (bv o) := cell_blk (blk_get (HR2.out.pull 2 rfl)) 0
  have x1 : W2.cell? ⟨xb, 1, none⟩ = some (bv x) := cell_blk (blk_get (HR2.out.pull 2 rfl)) 1
  have x2 : W2.cell? ⟨xb, 2, none⟩ = some (bv y) := cell_blk (blk_get (HR2.out.pull 2 rfl)) 2
  have x3 : W2.cell? ⟨xb, 3, none⟩ = some (bv z) := cell_blk (blk_get (HR2.out.pull 2 rfl)) 3
  have hw : IntKind.i64.wrap ((k : Int) + 1) = (k : Int) + 1 := by rw [IntKind.wrap_i64]; omega
  obtain ⟨mb2, C8, -, -, C11, -, fr, RG⟩ := df_of HR2.out.tail
  rw [hk] at C8
  rw [show bv o = .int .u8 2 by unfold bv; rw [HO.out]; rfl] at x0
  have f0 := RG x.toNat hxr
  have f1 : W2.cell? ⟨b, y.toNat, none⟩ = some (wv u) := hu ▸ RG y.toNat hyr
  have fz := fr x.toNat
  have HH := Lib.hid ((d_reg HR2.out.up1 x hxr u).up1)
  have q4 : (x.toNat : Int) < 8 := by omega
  have q5 : (y.toNat : Int) < 8 := by omega
  clear fr RG C11 HR2 hu
  go_upto_region 13 with fail
  clear x0 C8 hw
  go_region
  go_upto_region 40 with fail
  have HR4 := Lib.hid HH.out.drew
  generalize World.drew _ = W4 at *
  clear HH f0 f1 fz q4 q5 x1 x2 x3
  obtain ⟨-, D8, -, -, -, -, fr8, -⟩ := df_of HR4.out.tail
  have z8 := fr8 8
  have HR5 := Lib.hid ((d_at HR4.out.up1 ((k : Int) + 1)).up1)
  clear fr8
  go_upto_region 41 with fail
  generalize World.setCell _ _ _ = HR5w at *
  clear HR4 D8 z8
  rw [← hk] at HR5
  obtain ⟨d0, d1, d2, d3, d4, z0, z1, z2, z3, z4⟩ := zf_of HR5.out
  have HZ := Lib.hid (z_set HR5.out ak0)
  clear HR5
  go_wp2
  exact bodyPost_ret (res3d _ rfl rfl rfl HZ.out) rfl ⟨rfl, HZ.out.tail.up1.tail⟩
set_option maxHeartbeats 16000000 in
set_option maxRecDepth 20000 in
theorem rstep_go {w0 w : World} {r : List Thing} {b : Nat} {c : List I4} {s : Cs} (ha : s.asked = false) (k : Nat) (hk : s.at_ = (k : Int)) (hlt : k < c.length) (hlen : c.length ≤ 1024) (o x y z : UInt8) (hx : c[k] = (o, x, y, z)) (ho : o.toNat = 19) (nx : Nat) (hnx : x.toNat * 256 + y.toNat = nx) (H : Hp w0 w (DR b c s :: r)) :
    Calls Tryz.prog 19 #[.pointer (some ⟨b, 0, none⟩)] w fun e w' => e = .returned (stV false ak0 0) ∧ Hp w0 w' (DR b c { s with at_ := (nx : Int) } :: r) := by
  have HO := Lib.hid ho
  clear ho
  have HR := Lib.hid (blk_new H ZA)
  clear H
  go_enter Tryz.func19, Tryz.ntmps19
  go_upto_region 1 with fail
  generalize w.heap.size = b3 at *
  generalize w.alloc _ = W at *
  obtain ⟨mb, C1, -, ⟨a, cc, C4, -⟩, -, C3, -, -⟩ := df_of HR.out.tail
  rw [ha] at C3
  rw [hk] at C1
  have hn2 : decide ((k : Int) < 0) = false := by simp
  have hn3 : decide ((c.length : Int) ≤ (k : Int)) = false := by simp; omega
  go_wp2
  go_quiet (fail)
  go_upto_region 5 with fail
  have HR1 := Lib.hid (HR.out.drewN nq)
  generalize W.drewN nq = W1 at *
  clear HR C1 C3 C4 hn2 hn3
  obtain ⟨mb', C1, -, ⟨a', cc', C4, C4'⟩, -, -, -, -⟩ := df_of HR1.out.tail
  obtain ⟨g, oo, rfl, i0, i1, i2, i3⟩ := ins_cells C4' hlt
  rw [hx] at i0 i1 i2 i3
  rw [hk] at C1
  have hSS : S8 b g oo k c.length cc' (o, x, y, z) W1.drew := ⟨C4, C1, i0, i1, i2, i3⟩
  have hlt' : (k : Int) < (c.length : Int) := by omega
  clear C1 C4 C4' i0 i1 i2 i3
  refine wp_region_S 11 (S8 b g oo k c.length cc' (o, x, y, z)) (by as_aux_lemma => kernel_rfl) ?_
  refine wpAnyS_tk (i := 0) (by as_aux_lemma => kernel_rfl) (by intro c a d v w h; cases d <;> exact h) hSS (fun oi hoi => ?_)
  simp only [List.getElem?_toArray, List.getElem?_cons_zero, List.getElem?_cons_succ, Option.some.injEq] at hoi; subst hoi
  refine ⟨?_, by rfl, fun wx hSx => ?_, ?_⟩
  rotate_left
  · obtain ⟨s1, s2, s3, s4, s5, s6⟩ := hSx
    go_simp
    try with_reducible rfl
  try simp only [Act.put, List.setIfInBounds_toArray, List.set_cons_zero, List.set_cons_succ]
  refine wpAnyS_tk (i := 1) (by as_aux_lemma => kernel_rfl) (by intro c a d v w h; cases d <;> exact h) hSS (fun oi hoi => ?_)
  simp only [List.getElem?_toArray, List.getElem?_cons_zero, List.getElem?_cons_succ, Option.some.injEq] at hoi; subst hoi
  refine ⟨?_, by rfl, fun wx hSx => ?_, ?_⟩
  rotate_left
  · obtain ⟨s1, s2, s3, s4, s5, s6⟩ := hSx
    go_simp
    try with_reducible rfl
  try simp only [Act.put, List.setIfInBounds_toArray, List.set_cons_zero, List.set_cons_succ]
  refine wpAnyS_tk (i := 2) (by as_aux_lemma => kernel_rfl) (by intro c a d v w h; cases d <;> exact h) hSS (fun oi hoi => ?_)
  simp only [List.getElem?_toArray, List.getElem?_cons_zero, List.getElem?_cons_succ, Option.some.injEq] at hoi; subst hoi
  refine ⟨?_, by rfl, fun wx hSx => ?_, ?_⟩
  rotate_left
  · obtain ⟨s1, s2, s3, s4, s5, s6⟩ := hSx
    go_simp
    try with_reducible rfl
  try simp only [Act.put, List.setIfInBounds_toArray, List.set_cons_zero, List.set_cons_succ]
  refine wpAnyS_tk (i := 3) (by as_aux_lemma => kernel_rfl) (by intro c a d v w h; cases d <;> exact h) hSS (fun oi hoi => ?_)
  simp only [List.getElem?_toArray, List.getElem?_cons_zero, List.getElem?_cons_succ, Option.some.injEq] at hoi; subst hoi
  refine ⟨?_, by rfl, fun wx hSx => ?_, ?_⟩
  rotate_left
  · obtain ⟨s1, s2, s3, s4, s5, s6⟩ := hSx
    go_simp
    try with_reducible rfl
  try simp only [Act.put, List.setIfInBounds_toArray, List.set_cons_zero, List.set_cons_succ]
  refine wpAnyS_tk (i := 4) (by as_aux_lemma => kernel_rfl) (by intro c a d v w h; cases d <;> exact h) hSS (fun oi hoi => ?_)
  simp only [List.getElem?_toArray, List.getElem?_cons_zero, List.getElem?_cons_succ, Option.some.injEq] at hoi; subst hoi
  refine ⟨?_, by rfl, fun wx hSx => ?_, ?_⟩
  rotate_left
  · obtain ⟨s1, s2, s3, s4, s5, s6⟩ := hSx
    go_simp
    try with_reducible rfl
  try simp only [Act.put, List.setIfInBounds_toArray, List.set_cons_zero, List.set_cons_succ]
  refine wpAnyS_tk (i := 5) (by as_aux_lemma => kernel_rfl) (by intro c a d v w h; cases d <;> exact h) hSS (fun oi hoi => ?_)
  simp only [List.getElem?_toArray, List.getElem?_cons_zero, List.getElem?_cons_succ, Option.some.injEq] at hoi; subst hoi
  refine ⟨?_, by rfl, fun wx hSx => ?_, ?_⟩
  rotate_left
  · obtain ⟨s1, s2, s3, s4, s5, s6⟩ := hSx
    go_simp
    try with_reducible rfl
  try simp only [Act.put, List.setIfInBounds_toArray, List.set_cons_zero, List.set_cons_succ]
  refine wpAnyS_tk (i := 6) (by as_aux_lemma => kernel_rfl) (by intro c a d v w h; cases d <;> exact h) hSS (fun oi hoi => ?_)
  simp only [List.getElem?_toArray, List.getElem?_cons_zero, List.getElem?_cons_succ, Option.some.injEq] at hoi; subst hoi
  refine ⟨?_, by rfl, fun wx hSx => ?_, ?_⟩
  rotate_left
  · obtain ⟨s1, s2, s3, s4, s5, s6⟩ := hSx
    go_simp
    try with_reducible rfl
  try simp only [Act.put, List.setIfInBounds_toArray, List.set_cons_zero, List.set_cons_succ]
  refine wpAnyS_tk (i := 7) (by as_aux_lemma => kernel_rfl) (by intro c a d v w h; cases d <;> exact h) hSS (fun oi hoi => ?_)
  simp only [List.getElem?_toArray, List.getElem?_cons_zero, List.getElem?_cons_succ, Option.some.injEq] at hoi; subst hoi
  refine ⟨?_, by rfl, fun wx hSx => ?_, ?_⟩
  rotate_left
  · obtain ⟨s1, s2, s3, s4, s5, s6⟩ := hSx
    go_simp
    try with_reducible rfl
  try simp only [Act.put, List.setIfInBounds_toArray, List.set_cons_zero, List.set_cons_succ]
  refine wpAnyS_tk (i := 8) (by as_aux_lemma => kernel_rfl) (by intro c a d v w h; cases d <;> exact h) hSS (fun oi hoi => ?_)
  simp only [List.getElem?_toArray, List.getElem?_cons_zero, List.getElem?_cons_succ, Option.some.injEq] at hoi; subst hoi
  refine ⟨?_, by rfl, fun wx hSx => ?_, ?_⟩
  rotate_left
  · obtain ⟨s1, s2, s3, s4, s5, s6⟩ := hSx
    go_simp
    try with_reducible rfl
  try simp only [Act.put, List.setIfInBounds_toArray, List.set_cons_zero, List.set_cons_succ]
  refine wpAnyS_tk (i := 9) (by as_aux_lemma => kernel_rfl) (by intro c a d v w h; cases d <;> exact h) hSS (fun oi hoi => ?_)
  simp only [List.getElem?_toArray, List.getElem?_cons_zero, List.getElem?_cons_succ, Option.some.injEq] at hoi; subst hoi
  refine ⟨?_, by rfl, fun wx hSx => ?_, ?_⟩
  rotate_left
  · obtain ⟨s1, s2, s3, s4, s5, s6⟩ := hSx
    go_simp
    try with_reducible rfl
  try simp only [Act.put, List.setIfInBounds_toArray, List.set_cons_zero, List.set_cons_succ]
  refine wpAnyS_one (i := 10) (by as_aux_lemma => kernel_rfl) ?_
  intro oi hoi K hK
  simp only [List.getElem?_toArray, List.getElem?_cons_zero, List.getElem?_cons_succ, Option.some.injEq] at hoi; subst hoi
  go_simp
  refine hK.out _ _ (fun _ => hSS.alloc _) ?_
  clear hK K
  try simp only [Act.put, List.setIfInBounds_toArray, List.set_cons_zero, List.set_cons_succ]
  refine wpAnyS_one (i := 11) (by as_aux_lemma => kernel_rfl) ?_
  intro oi hoi K hK
  simp only [List.getElem?_toArray, List.getElem?_cons_zero, List.getElem?_cons_succ, Option.some.injEq] at hoi; subst hoi
  go_simp
  refine hK.out _ _ (fun h => absurd h (by decide)) ?_
  clear hK K
  try simp only [Act.put, List.setIfInBounds_toArray, List.set_cons_zero, List.set_cons_succ]
  refine wpAnyS_done (by as_aux_lemma => kernel_rfl) ?_ _
  clear hSS hlt'
  have HR2 : Hid (Hp w0 _ (Blk b3 ZA :: DR b c s :: XB W1.heap.size (o, x, y, z) :: r)) := Lib.hid (((blk_new HR1.out (.cells #[bv o, bv x, bv y, bv z] 26)).drew.pull 2 rfl).pull 2 rfl)
  generalize W1.heap.size = xb at *
  generalize (W1.alloc _).drew = W2 at *
  clear HR1
  have x0 : W2.cell? ⟨xb, 0, none⟩ = some (bv o) := cell_blk (blk_get (HR2.out.pull 2 rfl)) 0
  have x1 : W2.cell? ⟨xb, 1, none⟩ = some (bv x) := cell_blk (blk_get (HR2.out.pull 2 rfl)) 1
  have x2 : W2.cell? ⟨xb, 2, none⟩ = some (bv y) := cell_blk (blk_get (HR2.out.pull 2 rfl)) 2
  have x3 : W2.cell? ⟨xb, 3, none⟩ = some (bv z) := cell_blk (blk_get (HR2.out.pull 2 rfl)) 3
  have hw : IntKind.i64.wrap ((k : Int) + 1) = (k : Int) + 1 := by rw [IntKind.wrap_i64]; omega
  obtain ⟨mb2, C8, -, -, C11, -, fr, RG⟩ := df_of HR2.out.tail
  rw [hk] at C8
  rw [show bv o = .int .u8 19 by unfold bv; rw [HO.out]; rfl] at x0
  have b2 := x.toNat_lt
  have b3' := y.toNat_lt
  have q2 := w8_64 x
  have q3 := w8_64 y
  have q5 : IntKind.i64.wrap (256 * (x.toNat : Int)) = 256 * (x.toNat : Int) := by rw [IntKind.wrap_i64]; omega
  have q6 : IntKind.i64.wrap (256 * (x.toNat : Int) + (y.toNat : Int)) = (nx : Int) := by rw [IntKind.wrap_i64]; omega
  clear fr RG C11 x3 b2 b3' hnx
  go_upto_region 40 with fail
  clear x0 C8 hw x1 x2 q2 q3 q5 q6
  have HR4 := HR2
  clear HR2
  obtain ⟨-, D8, -, -, -, -, fr8, -⟩ := df_of HR4.out.tail
  have z8 := fr8 8
  have HR5 := Lib.hid ((d_at HR4.out.up1 (nx : Int)).up1)
  clear fr8
  go_upto_region 41 with fail
  generalize World.setCell _ _ _ = HR5w at *
  clear HR4 D8 z8
  obtain ⟨d0, d1, d2, d3, d4, z0, z1, z2, z3, z4⟩ := zf_of HR5.out
  have HZ := Lib.hid (z_set HR5.out ak0)
  clear HR5
  go_wp2
  exact bodyPost_ret (res3d _ rfl rfl rfl HZ.out) rfl ⟨rfl, HZ.out.tail.up1.tail⟩
set_option maxHeartbeats 16000000 in
set_option maxRecDepth 20000 in
theorem rstep_end {w0 w : World} {r : List Thing} {b : Nat} {c : List I4} {s : Cs} (ha : s.asked = false) (k : Nat) (hk : s.at_ = (k : Int)) (hlt : k < c.length) (hlen : c.length ≤ 1024) (o x y z : UInt8) (hx : c[k] = (o, x, y, z)) (ho : o.toNat = 22) (H : Hp w0 w (DR b c s :: r)) :
    Calls Tryz.prog 19 #[.pointer (some ⟨b, 0, none⟩)] w fun e w' => e = .returned (stV true { ak0 with what := 20 } 0) ∧ Hp w0 w' (DR b c { s with asked := true, at_ := s.at_ + 1 } :: r) := by
  have HO := Lib.hid ho
  clear ho
  have HR := Lib.hid (blk_new H ZA)
  clear H
  go_enter Tryz.func19, Tryz.ntmps19
  go_upto_region 1 with fail
  generalize w.heap.size = b3 at *
  generalize w.alloc _ = W at *
  obtain ⟨mb, C1, -, ⟨a, cc, C4, -⟩, -, C3, -, -⟩ := df_of HR.out.tail
  rw [ha] at C3
  rw [hk] at C1
  have hn2 : decide ((k : Int) < 0) = false := by simp
  have hn3 : decide ((c.length : Int) ≤ (k : Int)) = false := by simp; omega
  go_wp2
  go_quiet (fail)
  go_upto_region 5 with fail
  have HR1 := Lib.hid (HR.out.drewN nq)
  generalize W.drewN nq = W1 at *
  clear HR C1 C3 C4 hn2 hn3
  obtain ⟨mb', C1, -, ⟨a', cc', C4, C4'⟩, -, -, -, -⟩ := df_of HR1.out.tail
  obtain ⟨g, oo, rfl, i0, i1, i2, i3⟩ := ins_cells C4' hlt
  rw [hx] at i0 i1 i2 i3
  rw [hk] at C1
  have hSS : S8 b g oo k c.length cc' (o, x, y, z) W1.drew := ⟨C4, C1, i0, i1, i2, i3⟩
  have hlt' : (k : Int) < (c.length : Int) := by omega
  clear C1 C4 C4' i0 i1 i2 i3
  refine wp_region_S 11 (S8 b g oo k c.length cc' (o, x, y, z)) (by as_aux_lemma => kernel_rfl) ?_
  refine wpAnyS_tk (i := 0) (by as_aux_lemma => kernel_rfl) (by intro c a d v w h; cases d <;> exact h) hSS (fun oi hoi => ?_)
  simp only [List.getElem?_toArray, List.getElem?_cons_zero, List.getElem?_cons_succ, Option.some.injEq] at hoi; subst hoi
  refine ⟨?_, by rfl, fun wx hSx => ?_, ?_⟩
  rotate_left
  · obtain ⟨s1, s2, s3, s4, s5, s6⟩ := hSx
    go_simp
    try with_reducible rfl
  try simp only [Act.put, List.setIfInBounds_toArray, List.set_cons_zero, List.set_cons_succ]
  refine wpAnyS_tk (i := 1) (by as_aux_lemma => kernel_rfl) (by intro c a d v w h; cases d <;> exact h) hSS (fun oi hoi => ?_)
  simp only [List.getElem?_toArray, List.getElem?_cons_zero, List.getElem?_cons_succ, Option.some.injEq] at hoi; subst hoi
  refine ⟨?_, by rfl, fun wx hSx => ?_, ?_⟩
  rotate_left
  · obtain ⟨s1, s2, s3, s4, s5, s6⟩ := hSx
    go_simp
    try with_reducible rfl
  try simp only [Act.put, List.setIfInBounds_toArray, List.set_cons_zero, List.set_cons_succ]
  refine wpAnyS_tk (i := 2) (by as_aux_lemma => kernel_rfl) (by intro c a d v w h; cases d <;> exact h) hSS (fun oi hoi => ?_)
  simp only [List.getElem?_toArray, List.getElem?_cons_zero, List.getElem?_cons_succ, Option.some.injEq] at hoi; subst hoi
  refine ⟨?_, by rfl, fun wx hSx => ?_, ?_⟩
  rotate_left
  · obtain ⟨s1, s2, s3, s4, s5, s6⟩ := hSx
    go_simp
    try with_reducible rfl
  try simp only [Act.put, List.setIfInBounds_toArray, List.set_cons_zero, List.set_cons_succ]
  refine wpAnyS_tk (i := 3) (by as_aux_lemma => kernel_rfl) (by intro c a d v w h; cases d <;> exact h) hSS (fun oi hoi => ?_)
  simp only [List.getElem?_toArray, List.getElem?_cons_zero, List.getElem?_cons_succ, Option.some.injEq] at hoi; subst hoi
  refine ⟨?_, by rfl, fun wx hSx => ?_, ?_⟩
  rotate_left
  · obtain ⟨s1, s2, s3, s4, s5, s6⟩ := hSx
    go_simp
    try with_reducible rfl
  try simp only [Act.put, List.setIfInBounds_toArray, List.set_cons_zero, List.set_cons_succ]
  refine wpAnyS_tk (i := 4) (by as_aux_lemma => kernel_rfl) (by intro c a d v w h; cases d <;> exact h) hSS (fun oi hoi => ?_)
  simp only [List.getElem?_toArray, List.getElem?_cons_zero, List.getElem?_cons_succ, Option.some.injEq] at hoi; subst hoi
  refine ⟨?_, by rfl, fun wx hSx => ?_, ?_⟩
  rotate_left
  · obtain ⟨s1, s2, s3, s4, s5, s6⟩ := hSx
    go_simp
    try with_reducible rfl
  try simp only [Act.put, List.setIfInBounds_toArray, List.set_cons_zero, List.set_cons_succ]
  refine wpAnyS_tk (i := 5) (by as_aux_lemma => kernel_rfl) (by intro c a d v w h; cases d <;> exact h) hSS (fun oi hoi => ?_)
  simp only [List.getElem?_toArray, List.getElem?_cons_zero, List.getElem?_cons_succ, Option.some.injEq] at hoi; subst hoi
  refine ⟨?_, by rfl, fun wx hSx => ?_, ?_⟩
  rotate_left
  · obtain ⟨s1, s2, s3, s4, s5, s6⟩ := hSx
    go_simp
    try with_reducible rfl
  try simp only [Act.put, List.setIfInBounds_toArray, List.set_cons_zero, List.set_cons_succ]
  refine wpAnyS_tk (i := 6) (by as_aux_lemma => kernel_rfl) (by intro c a d v w h; cases d <;> exact h) hSS (fun oi hoi => ?_)
  simp only [List.getElem?_toArray, List.getElem?_cons_zero, List.getElem?_cons_succ, Option.some.injEq] at hoi; subst hoi
  refine ⟨?_, by rfl, fun wx hSx => ?_, ?_⟩
  rotate_left
  · obtain ⟨s1, s2, s3, s4, s5, s6⟩ := hSx
    go_simp
    try with_reducible rfl
  try simp only [Act.put, List.setIfInBounds_toArray, List.set_cons_zero, List.set_cons_succ]
  refine wpAnyS_tk (i := 7) (by as_aux_lemma => kernel_rfl) (by intro c a d v w h; cases d <;> exact h) hSS (fun oi hoi => ?_)
  simp only [List.getElem?_toArray, List.getElem?_cons_zero, List.getElem?_cons_succ, Option.some.injEq] at hoi; subst hoi
  refine ⟨?_, by rfl, fun wx hSx => ?_, ?_⟩
  rotate_left
  · obtain ⟨s1, s2, s3, s4, s5, s6⟩ := hSx
    go_simp
    try with_reducible rfl
  try simp only [Act.put, List.setIfInBounds_toArray, List.set_cons_zero, List.set_cons_succ]
  refine wpAnyS_tk (i := 8) (by as_aux_lemma => kernel_rfl) (by intro c a d v w h; cases d <;> exact h) hSS (fun oi hoi => ?_)
  simp only [List.getElem?_toArray, List.getElem?_cons_zero, List.getElem?_cons_succ, Option.some.injEq] at hoi; subst hoi
  refine ⟨?_, by rfl, fun wx hSx => ?_, ?_⟩
  rotate_left
  · obtain ⟨s1, s2, s3, s4, s5, s6⟩ := hSx
    go_simp
    try with_reducible rfl
  try simp only [Act.put, List.setIfInBounds_toArray, List.set_cons_zero, List.set_cons_succ]
  refine wpAnyS_tk (i := 9) (by as_aux_lemma => kernel_rfl) (by intro c a d v w h; cases d <;> exact h) hSS (fun oi hoi => ?_)
  simp only [List.getElem?_toArray, List.getElem?_cons_zero, List.getElem?_cons_succ, Option.some.injEq] at hoi; subst hoi
  refine ⟨?_, by rfl, fun wx hSx => ?_, ?_⟩
  rotate_left
  · obtain ⟨s1, s2, s3, s4, s5, s6⟩ := hSx
    go_simp
    try with_reducible rfl
  try simp only [Act.put, List.setIfInBounds_toArray, List.set_cons_zero, List.set_cons_succ]
  refine wpAnyS_one (i := 10) (by as_aux_lemma => kernel_rfl) ?_
  intro oi hoi K hK
  simp only [List.getElem?_toArray, List.getElem?_cons_zero, List.getElem?_cons_succ, Option.some.injEq] at hoi; subst hoi
  go_simp
  refine hK.out _ _ (fun _ => hSS.alloc _) ?_
  clear hK K
  try simp only [Act.put, List.setIfInBounds_toArray, List.set_cons_zero, List.set_cons_succ]
  refine wpAnyS_one (i := 11) (by as_aux_lemma => kernel_rfl) ?_
  intro oi hoi K hK
  simp only [List.getElem?_toArray, List.getElem?_cons_zero, List.getElem?_cons_succ, Option.some.injEq] at hoi; subst hoi
  go_simp
  refine hK.out _ _ (fun h => absurd h (by decide)) ?_
  clear hK K
  try simp only [Act.put, List.setIfInBounds_toArray, List.set_cons_zero, List.set_cons_succ]
  refine wpAnyS_done (by as_aux_lemma => kernel_rfl) ?_ _
  clear hSS hlt'
  have HR2 : Hid (Hp w0 _ (Blk b3 ZA :: DR b c s :: XB W1.heap.size (o, x, y, z) :: r)) := Lib.hid (((blk_new HR1.out (.cells #[bv o, bv x, bv y, bv z] 26)).drew.pull 2 rfl).pull 2 rfl)
  generalize W1.heap.size = xb at *
  generalize (W1.alloc _).drew = W2 at *
  clear HR1
  have x0 : W2.cell? ⟨xb, 0, none⟩ = some (bv o) := cell_blk (blk_get (HR2.out.pull 2 rfl)) 0
  have x1 : W2.cell? ⟨xb, 1, none⟩ = some (bv x) := cell_blk (blk_get (HR2.out.pull 2 rfl)) 1
  have x2 : W2.cell? ⟨xb, 2, none⟩ = some (bv y) := cell_blk (blk_get (HR2.out.pull 2 rfl)) 2
  have x3 : W2.cell? ⟨xb, 3, none⟩ = some (bv z) := cell_blk (blk_get (HR2.out.pull 2 rfl)) 3
  have hw : IntKind.i64.wrap ((k : Int) + 1) = (k : Int) + 1 := by rw [IntKind.wrap_i64]; omega
  obtain ⟨mb2, C8, -, -, C11, -, fr, RG⟩ := df_of HR2.out.tail
  rw [hk] at C8
  rw [show bv o = .int .u8 22 by unfold bv; rw [HO.out]; rfl] at x0
  clear fr RG C11 x1 x2 x3
  go_upto_region 35 with fail
  clear C8 hw
  have HR4 := HR2
  clear HR2 x0
  obtain ⟨-, D8, -, -, -, -, fr8, -⟩ := df_of HR4.out.tail
  have z8 := fr8 8
  have HR5 := Lib.hid ((d_at HR4.out.up1 ((k : Int) + 1)).up1)
  clear fr8
  go_upto_region 36 with fail
  generalize World.setCell _ _ _ = W5 at *
  clear D8 z8
  obtain ⟨-, -, -, -, -, D12, fr8, -⟩ := df_of HR5.out.tail
  have z8 := fr8 12
  have HR6 := Lib.hid ((d_asked HR5.out.up1 true).up1)
  clear fr8 HR4
  rw [show ({ s with at_ := (k : Int) + 1 } : Cs).asked = false from ha] at D12
  go_upto_region 37 with fail
  generalize World.setCell _ _ _ = W6 at *
  clear HR5 D12 z8
  have x0 : W6.cell? ⟨xb, 0, none⟩ = some (bv o) := cell_blk (blk_get (HR6.out.pull 2 rfl)) 0
  rw [show bv o = .int .u8 22 by unfold bv; rw [HO.out]; rfl] at x0
  go_upto_region 38 with fail
  clear x0
  obtain ⟨d0, d1, d2, d3, d4, z0, z1, z2, z3, z4⟩ := zf_of HR6.out
  have HZ := Lib.hid (z_set HR6.out { ak0 with what := 20 })
  clear HR6
  go_wp2
  exact bodyPost_ret (res3d _ rfl rfl rfl HZ.out) rfl ⟨rfl, HZ.out.tail.up1.tail⟩
end Go.Proofs.YtijkkompnfpdeaaGreatDoor
