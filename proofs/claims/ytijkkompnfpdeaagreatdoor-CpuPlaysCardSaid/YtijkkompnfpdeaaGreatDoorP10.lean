/- Cores: a step: walked. Cores: a step that asks: walked. -/
import Derived.Test.YtijkkompnfpdeaaGreatDoorP09
set_option linter.unusedVariables false
set_option linter.unusedSimpArgs false
namespace Go.Proofs.YtijkkompnfpdeaaGreatDoor
open Go.RowKit Go.Joins Go.Shelf
attribute [local go_sem] Oper.semAt_some

/-- An instruction, where it stands in the code. -/
structure S8 (b g oo k cl cc : Nat) (x : I4) (W : World) : Prop where
  s10 : W.cell? ⟨b, 10, none⟩ = some (.slice (some ⟨g, oo, none⟩) cl cc)
  s8 : W.cell? ⟨b, 8, none⟩ = some (.int .i64 (k : Int))
  i0 : W.cell? ⟨g, oo + k * 4, none⟩ = some (bv x.1)
  i1 : W.cell? ⟨g, oo + k * 4 + 1, none⟩ = some (bv x.2.1)
  i2 : W.cell? ⟨g, oo + k * 4 + 2, none⟩ = some (bv x.2.2.1)
  i3 : W.cell? ⟨g, oo + k * 4 + 3, none⟩ = some (bv x.2.2.2)
theorem S8.alloc {b g oo k cl cc : Nat} {x : I4} {W : World} (h : S8 b g oo k cl cc x W) (o : Obj) : S8 b g oo k cl cc x (W.alloc o) :=
  ⟨cell_alloc_l' o h.1, cell_alloc_l' o h.2, cell_alloc_l' o h.3, cell_alloc_l' o h.4, cell_alloc_l' o h.5, cell_alloc_l' o h.6⟩
section
variable {P : Program} {ops : Array Oper} {Q : Exit → Act → World → Prop} {md : Region.Mode} {S : World → Prop} {s : Nat}
/-- A take, where what is behind a panic reads results. -/
theorem wpAnyS_td {i : Nat} {fuel : Nat} {listed : Array Bool} {a : Act} {w : World}
    (hb : (Region.noSelect ops && Region.sinkB md ops s && Region.chainB md ops s && decide (s < ops.size) && decide (i < s) && headB md ops s listed && Region.free md ops listed i && (Region.ready md ops listed).contains i) = true)
    (hS : S w)
    (h : ∀ oi, ops[i]? = some oi → ∃ v, Region.wanted oi (yielded ops a.tmps) = true ∧ (∀ w, S w → (execOp a.eval oi).run P w = .ok (.value v) w) ∧ (∀ c a w, Q (.panic c) (a.put oi.dst v) w → Q (.panic c) a w) ∧ wpAnyS P md ops Q S s fuel (listed.setIfInBounds i true) (a.put oi.dst v) w) : wpAnyS P md ops Q S s (fuel + 1) listed a w := by
  simp only [Bool.and_eq_true] at hb
  obtain ⟨⟨⟨⟨⟨⟨⟨h1, h2⟩, h3⟩, h4⟩, h5⟩, h6⟩, h7⟩, h8⟩ := hb
  have hs' := of_decide_eq_true h4
  have his' := of_decide_eq_true h5
  obtain ⟨oi, hi⟩ : ∃ oi, ops[i]? = some oi := ⟨_, Array.getElem?_eq_getElem (by omega)⟩
  obtain ⟨v, hw, hy, hQ, h⟩ := h oi hi
  exact wpAnyS_first hi (Region.noSelect_spec h1) hQ h2 h3 hs' his' fuel listed a w (headB_spec h6) (Region.free_spec hi h7) (by simpa using h8) (Or.inl ⟨hw, hy⟩) hS h
theorem leaves_res {fn : Func} {t t' : Array Value} {R : Ending → World → Prop} (he : results fn t = results fn t') : ∀ (ds : List Deferred) (u : FrameMode) (w : World), Leaves P fn t R ds u w → Leaves P fn t' R ds u w
  | [], .returning, w, h => by
    obtain ⟨v, h1, h2⟩ := h
    exact ⟨v, he ▸ h1, h2⟩
  | [], .panicking chain, w, h => h
  | [], .run, w, h => h
  | d :: ds, u, w, h => by
    obtain ⟨hu, fv, cap, f, args, h1, h2, h3⟩ := h
    refine ⟨hu, fv, cap, f, args, h1, h2, h3.mono ?_⟩
    intro e u' w' h
    cases e with
    | returned v => exact leaves_res he ds _ _ h
    | panicked c => exact leaves_res he ds _ _ h
    | outgrown => exact h
end
theorem step_q {R : Ending → World → Prop} {c : List PanicEntry} {a : Act} {d : Option Tmp} {v : Value} {w : World} (hd : (d != some 2 && d != some 3 && d != some 4) = true) (h : bodyPostD Tryz.prog Tryz.f9 R (.panic c) (a.put d v) w) : bodyPostD Tryz.prog Tryz.f9 R (.panic c) a w := by
  cases d with
  | none => exact h
  | some d =>
    simp only [Bool.and_eq_true, bne_iff_ne, ne_eq, Option.some.injEq] at hd
    obtain ⟨⟨h2, h3⟩, h4⟩ := hd
    refine leaves_res ?_ a.defers (.panicking c) w h
    simp only [results, Tryz.results9, Act.put]
    simp [Array.getElem?_setIfInBounds_ne, h2, h3, h4]
theorem r3_ask {w0 w : World} {r : List Thing} {b2 b3 b4 : Nat} {x : Bool} {a d : Ak} {e : Int} (H : Hp w0 w (R3 b2 b3 b4 x a e ++ r)) :
    Hp w0 (((((w.setCell ⟨b3, 0, none⟩ (bv d.what)).setCell ⟨b3, 1, none⟩ (wv d.h)).setCell ⟨b3, 2, none⟩ (wv d.v)).setCell ⟨b3, 3, none⟩ (wv d.m)).setCell ⟨b3, 4, none⟩ (.int .i64 d.wait)) (R3 b2 b3 b4 x d e ++ r) :=
  (blk_set (blk_set (blk_set (blk_set (blk_set (H.pull 1 rfl) 0 (bv d.what)) 1 (wv d.h)) 2 (wv d.v)) 3 (wv d.m)) 4 (.int .i64 d.wait)).pull 1 rfl
theorem cr_asked {w0 w : World} {r : List Thing} {b b2 b3 b4 : Nat} {c : List I4} {s : Cs} {x : Bool} {a : Ak} {e : Int} (H : Hp w0 w (R3 b2 b3 b4 x a e ++ (CR b c s :: r))) (v : Bool) : Hp w0 (w.setCell ⟨b, 12, none⟩ (.bool v)) (R3 b2 b3 b4 x a e ++ (CR b c { s with asked := v } :: r)) := by
  obtain ⟨rb, mb, vc, vs, hl, hm, H2⟩ := cr_open (H.pull 3 rfl)
  exact (((cr_shut (s := { s with asked := v }) hl hm (cb_setasked H2 hl v)).pull 3 rfl).pull 3 rfl).pull 3 rfl
theorem cr_at {w0 w : World} {r : List Thing} {b b2 b3 b4 : Nat} {c : List I4} {s : Cs} {x : Bool} {a : Ak} {e : Int} (H : Hp w0 w (R3 b2 b3 b4 x a e ++ (CR b c s :: r))) (v : Int) : Hp w0 (w.setCell ⟨b, 8, none⟩ (.int .i64 v)) (R3 b2 b3 b4 x a e ++ (CR b c { s with at_ := v } :: r)) := by
  obtain ⟨rb, mb, vc, vs, hl, hm, H2⟩ := cr_open (H.pull 3 rfl)
  exact (((cr_shut (s := { s with at_ := v }) hl hm (cb_setat H2 hl v)).pull 3 rfl).pull 3 rfl).pull 3 rfl
set_option maxHeartbeats 16000000 in
set_option maxRecDepth 20000 in
theorem step_end {w0 w : World} {r : List Thing} {b : Nat} {c : List I4} {s : Cs} (ha : s.asked = false) (k : Nat) (hk : s.at_ = (k : Int)) (hlt : k < c.length) (hlen : c.length ≤ 1024) (o x y z : UInt8) (hx : c[k] = (o, x, y, z)) (ho : o.toNat = 22) (H : Hp w0 w (CR b c s :: r)) :
    Calls Tryz.prog 9 #[.pointer (some ⟨b, 0, none⟩)] w fun e w' => e = .returned (stV true { ak0 with what := 20 } 0) ∧ Hp w0 w' (CR b c { s with asked := true, at_ := s.at_ + 1 } :: r) := by
  have HO := Lib.hid ho
  clear ho
  have HR := Lib.hid (r3_new H)
  have hmf : ∀ (fn : Fn) (first cap : Array Value) (w : World), (Instr.makeFunc fn first cap).run Tryz.prog w = .ok (.func fn first cap) w := fun _ _ _ _ => rfl
  go_enter_defers Tryz.func9, Tryz.ntmps9
  go_upto_region 1 with fail
  generalize w.heap.size + 1 + 1 = b4 at *
  generalize w.heap.size + 1 = b3 at *
  generalize w.heap.size = b2 at *
  generalize ((w.alloc _).alloc _).alloc _ = W at *
  obtain ⟨rb, C1, C2, C3, ⟨a, cc, C4, _⟩, C5, C6⟩ := cf_of (HR.out.pull 3 rfl)
  rw [ha] at C3
  rw [hk] at C1
  clear H C5 C6
  have hn2 : decide ((k : Int) < 0) = false := by simp
  have hn3 : decide ((c.length : Int) ≤ (k : Int)) = false := by simp; omega
  go_wp2
  go_quiet (fail)
  go_upto_region 8 with fail
  have HR1 := Lib.hid (HR.out.drewN nq)
  generalize W.drewN nq = W1 at *
  clear HR C1 C2 C3 C4 hn2 hn3 hmf
  obtain ⟨rb', C1, C2, C3, ⟨a', cc', C4, C4'⟩, C5, C6⟩ := cf_of (HR1.out.pull 3 rfl)
  obtain ⟨g, oo, rfl, i0, i1, i2, i3⟩ := ins_cells C4' hlt
  rw [hx] at i0 i1 i2 i3
  rw [hk] at C1
  have hSS : S8 b g oo k c.length cc' (o, x, y, z) W1.drew := ⟨C4, C1, i0, i1, i2, i3⟩
  have hlt' : (k : Int) < (c.length : Int) := by omega
  clear C1 C2 C3 C4 C4' C5 C6 i0 i1 i2 i3
  refine wp_region_S 11 (S8 b g oo k c.length cc' (o, x, y, z)) (by as_aux_lemma => kernel_rfl) ?_
  refine wpAnyS_td (i := 0) (by as_aux_lemma => kernel_rfl) hSS (fun oi hoi => ?_)
  simp only [List.getElem?_toArray, List.getElem?_cons_zero, List.getElem?_cons_succ, Option.some.injEq] at hoi; subst hoi
  refine ⟨?_, by rfl, fun wx hSx => ?_, fun _ _ _ h => step_q (by decide) h, ?_⟩
  rotate_left
  · obtain ⟨s1, s2, s3, s4, s5, s6⟩ := hSx
    go_simp
    try with_reducible rfl
  try simp only [Act.put, List.setIfInBounds_toArray, List.set_cons_zero, List.set_cons_succ]
  refine wpAnyS_td (i := 1) (by as_aux_lemma => kernel_rfl) hSS (fun oi hoi => ?_)
  simp only [List.getElem?_toArray, List.getElem?_cons_zero, List.getElem?_cons_succ, Option.some.injEq] at hoi; subst hoi
  refine ⟨?_, by rfl, fun wx hSx => ?_, fun _ _ _ h => step_q (by decide) h, ?_⟩
  rotate_left
  · obtain ⟨s1, s2, s3, s4, s5, s6⟩ := hSx
    go_simp
    try with_reducible rfl
  try simp only [Act.put, List.setIfInBounds_toArray, List.set_cons_zero, List.set_cons_succ]
  refine wpAnyS_td (i := 2) (by as_aux_lemma => kernel_rfl) hSS (fun oi hoi => ?_)
  simp only [List.getElem?_toArray, List.getElem?_cons_zero, List.getElem?_cons_succ, Option.some.injEq] at hoi; subst hoi
  refine ⟨?_, by rfl, fun wx hSx => ?_, fun _ _ _ h => step_q (by decide) h, ?_⟩
  rotate_left
  · obtain ⟨s1, s2, s3, s4, s5, s6⟩ := hSx
    go_simp
    try with_reducible rfl
  try simp only [Act.put, List.setIfInBounds_toArray, List.set_cons_zero, List.set_cons_succ]
  refine wpAnyS_td (i := 3) (by as_aux_lemma => kernel_rfl) hSS (fun oi hoi => ?_)
  simp only [List.getElem?_toArray, List.getElem?_cons_zero, List.getElem?_cons_succ, Option.some.injEq] at hoi; subst hoi
  refine ⟨?_, by rfl, fun wx hSx => ?_, fun _ _ _ h => step_q (by decide) h, ?_⟩
  rotate_left
  · obtain ⟨s1, s2, s3, s4, s5, s6⟩ := hSx
    go_simp
    try with_reducible rfl
  try simp only [Act.put, List.setIfInBounds_toArray, List.set_cons_zero, List.set_cons_succ]
  refine wpAnyS_td (i := 4) (by as_aux_lemma => kernel_rfl) hSS (fun oi hoi => ?_)
  simp only [List.getElem?_toArray, List.getElem?_cons_zero, List.getElem?_cons_succ, Option.some.injEq] at hoi; subst hoi
  refine ⟨?_, by rfl, fun wx hSx => ?_, fun _ _ _ h => step_q (by decide) h, ?_⟩
  rotate_left
  · obtain ⟨s1, s2, s3, s4, s5, s6⟩ := hSx
    go_simp
    try with_reducible rfl
  try simp only [Act.put, List.setIfInBounds_toArray, List.set_cons_zero, List.set_cons_succ]
  refine wpAnyS_td (i := 5) (by as_aux_lemma => kernel_rfl) hSS (fun oi hoi => ?_)
  simp only [List.getElem?_toArray, List.getElem?_cons_zero, List.getElem?_cons_succ, Option.some.injEq] at hoi; subst hoi
  refine ⟨?_, by rfl, fun wx hSx => ?_, fun _ _ _ h => step_q (by decide) h, ?_⟩
  rotate_left
  · obtain ⟨s1, s2, s3, s4, s5, s6⟩ := hSx
    go_simp
    try with_reducible rfl
  try simp only [Act.put, List.setIfInBounds_toArray, List.set_cons_zero, List.set_cons_succ]
  refine wpAnyS_td (i := 6) (by as_aux_lemma => kernel_rfl) hSS (fun oi hoi => ?_)
  simp only [List.getElem?_toArray, List.getElem?_cons_zero, List.getElem?_cons_succ, Option.some.injEq] at hoi; subst hoi
  refine ⟨?_, by rfl, fun wx hSx => ?_, fun _ _ _ h => step_q (by decide) h, ?_⟩
  rotate_left
  · obtain ⟨s1, s2, s3, s4, s5, s6⟩ := hSx
    go_simp
    try with_reducible rfl
  try simp only [Act.put, List.setIfInBounds_toArray, List.set_cons_zero, List.set_cons_succ]
  refine wpAnyS_td (i := 7) (by as_aux_lemma => kernel_rfl) hSS (fun oi hoi => ?_)
  simp only [List.getElem?_toArray, List.getElem?_cons_zero, List.getElem?_cons_succ, Option.some.injEq] at hoi; subst hoi
  refine ⟨?_, by rfl, fun wx hSx => ?_, fun _ _ _ h => step_q (by decide) h, ?_⟩
  rotate_left
  · obtain ⟨s1, s2, s3, s4, s5, s6⟩ := hSx
    go_simp
    try with_reducible rfl
  try simp only [Act.put, List.setIfInBounds_toArray, List.set_cons_zero, List.set_cons_succ]
  refine wpAnyS_td (i := 8) (by as_aux_lemma => kernel_rfl) hSS (fun oi hoi => ?_)
  simp only [List.getElem?_toArray, List.getElem?_cons_zero, List.getElem?_cons_succ, Option.some.injEq] at hoi; subst hoi
  refine ⟨?_, by rfl, fun wx hSx => ?_, fun _ _ _ h => step_q (by decide) h, ?_⟩
  rotate_left
  · obtain ⟨s1, s2, s3, s4, s5, s6⟩ := hSx
    go_simp
    try with_reducible rfl
  try simp only [Act.put, List.setIfInBounds_toArray, List.set_cons_zero, List.set_cons_succ]
  refine wpAnyS_td (i := 9) (by as_aux_lemma => kernel_rfl) hSS (fun oi hoi => ?_)
  simp only [List.getElem?_toArray, List.getElem?_cons_zero, List.getElem?_cons_succ, Option.some.injEq] at hoi; subst hoi
  refine ⟨?_, by rfl, fun wx hSx => ?_, fun _ _ _ h => step_q (by decide) h, ?_⟩
  rotate_left
  · obtain ⟨s1, s2, s3, s4, s5, s6⟩ := hSx
    go_simp
    try with_reducible rfl
  try simp only [Act.put, List.setIfInBounds_toArray, List.set_cons_zero, List.set_cons_succ]
  refine wpAnyS_one (i := 10) (by as_aux_lemma => kernel_rfl) ?_
  intro oi hoi K hK
  simp only [List.getElem?_toArray, List.getElem?_cons_zero, List.getElem?_cons_succ, Option.some.injEq] at hoi; subst hoi
  go_simp
  refine hK.out _ _ (fun _ => hSS.alloc _) ?_
  clear hK K
  try simp only [Act.put, List.setIfInBounds_toArray, List.set_cons_zero, List.set_cons_succ]
  refine wpAnyS_one (i := 11) (by as_aux_lemma => kernel_rfl) ?_
  intro oi hoi K hK
  simp only [List.getElem?_toArray, List.getElem?_cons_zero, List.getElem?_cons_succ, Option.some.injEq] at hoi; subst hoi
  go_simp
  refine hK.out _ _ (fun h => absurd h (by decide)) ?_
  clear hK K
  try simp only [Act.put, List.setIfInBounds_toArray, List.set_cons_zero, List.set_cons_succ]
  refine wpAnyS_done (by as_aux_lemma => kernel_rfl) ?_ _
  clear hSS hlt'
  have HR2 := Lib.hid (((((blk_new HR1.out (.cells #[bv o, bv x, bv y, bv z] 26)).drew.pull 4 rfl).pull 4 rfl).pull 4 rfl).pull 4 rfl)
  generalize W1.heap.size = xb at *
  generalize (W1.alloc _).drew = W2 at *
  clear HR1
  have x0 : W2.cell? ⟨xb, 0, none⟩ = some (bv o) := cell_blk (blk_get (HR2.out.pull 4 rfl)) 0
  have x1 : W2.cell? ⟨xb, 1, none⟩ = some (bv x) := cell_blk (blk_get (HR2.out.pull 4 rfl)) 1
  rw [show bv o = .int .u8 22 by unfold bv; rw [HO.out]; rfl] at x0
  obtain ⟨c2, d0, d1, d2, d3, d4, c4, z2, z30, z31, z32, z33, z34, z4, n1, n2, n3, n4, n5, n6⟩ := r3_facts HR2.out
  have HR3 : Hid (Hp w0 (((((W2.setCell ⟨b3, 0, none⟩ (.int .u8 20)).setCell ⟨b3, 1, none⟩ (.int .u32 0)).setCell ⟨b3, 2, none⟩ (.int .u32 0)).setCell ⟨b3, 3, none⟩ (.int .u32 0)).setCell ⟨b3, 4, none⟩ (.int .i64 0)) (R3 b2 b3 b4 false { ak0 with what := 20 } 0 ++ (CR b c s :: XB xb (o, x, y, z) :: r))) := Lib.hid (r3_ask (d := { ak0 with what := 20 }) HR2.out)
  go_upto_region 16 with fail
  clear x0 x1
  generalize World.setCell _ _ _ = W3 at *
  clear c2 d0 d1 d2 d3 d4 c4 z2 z30 z31 z32 z33 z34 z4 n1 n2 n3 n4 n5 n6
  clear HR2
  obtain ⟨rb3, C1, C2, C3, -, C5, -⟩ := cf_of (HR3.out.pull 3 rfl)
  have C5' := C5 12
  clear C5 C1 C2
  rw [ha] at C3
  have HR4 := Lib.hid (cr_asked HR3.out true)
  go_upto_region 17 with fail
  generalize W3.setCell _ _ = W4 at *
  clear HR3 C3 C5'
  obtain ⟨rb4, C1, C2, C3, -, C5, -⟩ := cf_of (HR4.out.pull 3 rfl)
  have C5' := C5 8
  clear C5 C2 C3
  rw [show ({ s with asked := true } : Cs).at_ = (k : Int) from hk] at C1
  have HR5 := Lib.hid (cr_at HR4.out ((k : Int) + 1))
  have hw : IntKind.i64.wrap ((k : Int) + 1) = (k : Int) + 1 := by rw [IntKind.wrap_i64]; omega
  go_upto_region 18 with fail
  generalize W4.setCell _ _ = W5 at *
  clear HR4 C1 C5' hw
  rw [← hk] at HR5
  obtain ⟨c2, d0, d1, d2, d3, d4, c4, z2, z30, z31, z32, z33, z34, z4, n1, n2, n3, n4, n5, n6⟩ := r3_facts HR5.out
  have HZ := Lib.hid (r3_set (y := true) (d := { ak0 with what := 20 }) (f := 0) HR5.out)
  clear HR5
  go_wp2
  go_region
  go_wp2
  refine leaves_cons (f := 33) (args := #[.pointer (some ⟨b2, 0, none⟩), .pointer (some ⟨b3, 0, none⟩), .pointer (some ⟨b4, 0, none⟩)]) (by simp) (by simp [go_sem]) ?_
  refine (catch_r _ _ _ _).mono ?_
  rintro e u' w'' ⟨rfl, rfl, rfl⟩
  exact ⟨_, res3 _ rfl rfl rfl HZ.out.drew, rfl, HZ.out.drew.tail.tail.tail.up1.tail⟩
end Go.Proofs.YtijkkompnfpdeaaGreatDoor
set_option linter.unusedVariables false
set_option linter.unusedSimpArgs false
namespace Go.Proofs.YtijkkompnfpdeaaGreatDoor
open Go.RowKit Go.Joins Go.Shelf
attribute [local go_sem] Oper.semAt_some

set_option maxHeartbeats 16000000 in
set_option maxRecDepth 20000 in
theorem step_ask {w0 w : World} {r : List Thing} {b : Nat} {c : List I4} {s : Cs} (ha : s.asked = false) (k : Nat) (hk : s.at_ = (k : Int)) (hlt : k < c.length) (hlen : c.length ≤ 1024) (o x y z : UInt8) (hx : c[k] = (o, x, y, z)) (ho : o.toNat = 21) (u0 u1 u2 u3 : UInt32) (e0 : s.r.getD 0 0 = u0) (e1 : s.r.getD 1 0 = u1) (e2 : s.r.getD 2 0 = u2) (e3 : s.r.getD 3 0 = u3) (H : Hp w0 w (CR b c s :: r)) :
    Calls Tryz.prog 9 #[.pointer (some ⟨b, 0, none⟩)] w fun e w' => e = .returned (stV true ⟨x, u0, u1, u2, sg u3⟩ 0) ∧ Hp w0 w' (CR b c { s with asked := true, at_ := s.at_ + 1 } :: r) := by
  have HO := Lib.hid ho
  clear ho
  have HR := Lib.hid (r3_new H)
  have hmf : ∀ (fn : Fn) (first cap : Array Value) (w : World), (Instr.makeFunc fn first cap).run Tryz.prog w = .ok (.func fn first cap) w := fun _ _ _ _ => rfl
  go_enter_defers Tryz.func9, Tryz.ntmps9
  go_upto_region 1 with fail
  generalize w.heap.size + 1 + 1 = b4 at *
  generalize w.heap.size + 1 = b3 at *
  generalize w.heap.size = b2 at *
  generalize ((w.alloc _).alloc _).alloc _ = W at *
  obtain ⟨rb, C1, C2, C3, ⟨a, cc, C4, _⟩, C5, C6⟩ := cf_of (HR.out.pull 3 rfl)
  rw [ha] at C3
  rw [hk] at C1
  clear H C5 C6
  have hn2 : decide ((k : Int) < 0) = false := by simp
  have hn3 : decide ((c.length : Int) ≤ (k : Int)) = false := by simp; omega
  go_wp2
  go_quiet (fail)
  go_upto_region 8 with fail
  have HR1 := Lib.hid (HR.out.drewN nq)
  generalize W.drewN nq = W1 at *
  clear HR C1 C2 C3 C4 hn2 hn3 hmf
  obtain ⟨rb', C1, C2, C3, ⟨a', cc', C4, C4'⟩, C5, C6⟩ := cf_of (HR1.out.pull 3 rfl)
  obtain ⟨g, oo, rfl, i0, i1, i2, i3⟩ := ins_cells C4' hlt
  rw [hx] at i0 i1 i2 i3
  rw [hk] at C1
  have hSS : S8 b g oo k c.length cc' (o, x, y, z) W1.drew := ⟨C4, C1, i0, i1, i2, i3⟩
  have hlt' : (k : Int) < (c.length : Int) := by omega
  clear C1 C2 C3 C4 C4' C5 C6 i0 i1 i2 i3
  refine wp_region_S 11 (S8 b g oo k c.length cc' (o, x, y, z)) (by as_aux_lemma => kernel_rfl) ?_
  refine wpAnyS_td (i := 0) (by as_aux_lemma => kernel_rfl) hSS (fun oi hoi => ?_)
  simp only [List.getElem?_toArray, List.getElem?_cons_zero, List.getElem?_cons_succ, Option.some.injEq] at hoi; subst hoi
  refine ⟨?_, by rfl, fun wx hSx => ?_, fun _ _ _ h => step_q (by decide) h, ?_⟩
  rotate_left
  · obtain ⟨s1, s2, s3, s4, s5, s6⟩ := hSx
    go_simp
    try with_reducible rfl
  try simp only [Act.put, List.setIfInBounds_toArray, List.set_cons_zero, List.set_cons_succ]
  refine wpAnyS_td (i := 1) (by as_aux_lemma => kernel_rfl) hSS (fun oi hoi => ?_)
  simp only [List.getElem?_toArray, List.getElem?_cons_zero, List.getElem?_cons_succ, Option.some.injEq] at hoi; subst hoi
  refine ⟨?_, by rfl, fun wx hSx => ?_, fun _ _ _ h => step_q (by decide) h, ?_⟩
  rotate_left
  · obtain ⟨s1, s2, s3, s4, s5, s6⟩ := hSx
    go_simp
    try with_reducible rfl
  try simp only [Act.put, List.setIfInBounds_toArray, List.set_cons_zero, List.set_cons_succ]
  refine wpAnyS_td (i := 2) (by as_aux_lemma => kernel_rfl) hSS (fun oi hoi => ?_)
  simp only [List.getElem?_toArray, List.getElem?_cons_zero, List.getElem?_cons_succ, Option.some.injEq] at hoi; subst hoi
  refine ⟨?_, by rfl, fun wx hSx => ?_, fun _ _ _ h => step_q (by decide) h, ?_⟩
  rotate_left
  · obtain ⟨s1, s2, s3, s4, s5, s6⟩ := hSx
    go_simp
    try with_reducible rfl
  try simp only [Act.put, List.setIfInBounds_toArray, List.set_cons_zero, List.set_cons_succ]
  refine wpAnyS_td (i := 3) (by as_aux_lemma => kernel_rfl) hSS (fun oi hoi => ?_)
  simp only [List.getElem?_toArray, List.getElem?_cons_zero, List.getElem?_cons_succ, Option.some.injEq] at hoi; subst hoi
  refine ⟨?_, by rfl, fun wx hSx => ?_, fun _ _ _ h => step_q (by decide) h, ?_⟩
  rotate_left
  · obtain ⟨s1, s2, s3, s4, s5, s6⟩ := hSx
    go_simp
    try with_reducible rfl
  try simp only [Act.put, List.setIfInBounds_toArray, List.set_cons_zero, List.set_cons_succ]
  refine wpAnyS_td (i := 4) (by as_aux_lemma => kernel_rfl) hSS (fun oi hoi => ?_)
  simp only [List.getElem?_toArray, List.getElem?_cons_zero, List.getElem?_cons_succ, Option.some.injEq] at hoi; subst hoi
  refine ⟨?_, by rfl, fun wx hSx => ?_, fun _ _ _ h => step_q (by decide) h, ?_⟩
  rotate_left
  · obtain ⟨s1, s2, s3, s4, s5, s6⟩ := hSx
    go_simp
    try with_reducible rfl
  try simp only [Act.put, List.setIfInBounds_toArray, List.set_cons_zero, List.set_cons_succ]
  refine wpAnyS_td (i := 5) (by as_aux_lemma => kernel_rfl) hSS (fun oi hoi => ?_)
  simp only [List.getElem?_toArray, List.getElem?_cons_zero, List.getElem?_cons_succ, Option.some.injEq] at hoi; subst hoi
  refine ⟨?_, by rfl, fun wx hSx => ?_, fun _ _ _ h => step_q (by decide) h, ?_⟩
  rotate_left
  · obtain ⟨s1, s2, s3, s4, s5, s6⟩ := hSx
    go_simp
    try with_reducible rfl
  try simp only [Act.put, List.setIfInBounds_toArray, List.set_cons_zero, List.set_cons_succ]
  refine wpAnyS_td (i := 6) (by as_aux_lemma => kernel_rfl) hSS (fun oi hoi => ?_)
  simp only [List.getElem?_toArray, List.getElem?_cons_zero, List.getElem?_cons_succ, Option.some.injEq] at hoi; subst hoi
  refine ⟨?_, by rfl, fun wx hSx => ?_, fun _ _ _ h => step_q (by decide) h, ?_⟩
  rotate_left
  · obtain ⟨s1, s2, s3, s4, s5, s6⟩ := hSx
    go_simp
    try with_reducible rfl
  try simp only [Act.put, List.setIfInBounds_toArray, List.set_cons_zero, List.set_cons_succ]
  refine wpAnyS_td (i := 7) (by as_aux_lemma => kernel_rfl) hSS (fun oi hoi => ?_)
  simp only [List.getElem?_toArray, List.getElem?_cons_zero, List.getElem?_cons_succ, Option.some.injEq] at hoi; subst hoi
  refine ⟨?_, by rfl, fun wx hSx => ?_, fun _ _ _ h => step_q (by decide) h, ?_⟩
  rotate_left
  · obtain ⟨s1, s2, s3, s4, s5, s6⟩ := hSx
    go_simp
    try with_reducible rfl
  try simp only [Act.put, List.setIfInBounds_toArray, List.set_cons_zero, List.set_cons_succ]
  refine wpAnyS_td (i := 8) (by as_aux_lemma => kernel_rfl) hSS (fun oi hoi => ?_)
  simp only [List.getElem?_toArray, List.getElem?_cons_zero, List.getElem?_cons_succ, Option.some.injEq] at hoi; subst hoi
  refine ⟨?_, by rfl, fun wx hSx => ?_, fun _ _ _ h => step_q (by decide) h, ?_⟩
  rotate_left
  · obtain ⟨s1, s2, s3, s4, s5, s6⟩ := hSx
    go_simp
    try with_reducible rfl
  try simp only [Act.put, List.setIfInBounds_toArray, List.set_cons_zero, List.set_cons_succ]
  refine wpAnyS_td (i := 9) (by as_aux_lemma => kernel_rfl) hSS (fun oi hoi => ?_)
  simp only [List.getElem?_toArray, List.getElem?_cons_zero, List.getElem?_cons_succ, Option.some.injEq] at hoi; subst hoi
  refine ⟨?_, by rfl, fun wx hSx => ?_, fun _ _ _ h => step_q (by decide) h, ?_⟩
  rotate_left
  · obtain ⟨s1, s2, s3, s4, s5, s6⟩ := hSx
    go_simp
    try with_reducible rfl
  try simp only [Act.put, List.setIfInBounds_toArray, List.set_cons_zero, List.set_cons_succ]
  refine wpAnyS_one (i := 10) (by as_aux_lemma => kernel_rfl) ?_
  intro oi hoi K hK
  simp only [List.getElem?_toArray, List.getElem?_cons_zero, List.getElem?_cons_succ, Option.some.injEq] at hoi; subst hoi
  go_simp
  refine hK.out _ _ (fun _ => hSS.alloc _) ?_
  clear hK K
  try simp only [Act.put, List.setIfInBounds_toArray, List.set_cons_zero, List.set_cons_succ]
  refine wpAnyS_one (i := 11) (by as_aux_lemma => kernel_rfl) ?_
  intro oi hoi K hK
  simp only [List.getElem?_toArray, List.getElem?_cons_zero, List.getElem?_cons_succ, Option.some.injEq] at hoi; subst hoi
  go_simp
  refine hK.out _ _ (fun h => absurd h (by decide)) ?_
  clear hK K
  try simp only [Act.put, List.setIfInBounds_toArray, List.set_cons_zero, List.set_cons_succ]
  refine wpAnyS_done (by as_aux_lemma => kernel_rfl) ?_ _
  clear hSS hlt'
  have HR2 := Lib.hid (((((blk_new HR1.out (.cells #[bv o, bv x, bv y, bv z] 26)).drew.pull 4 rfl).pull 4 rfl).pull 4 rfl).pull 4 rfl)
  generalize W1.heap.size = xb at *
  generalize (W1.alloc _).drew = W2 at *
  clear HR1
  have x0 : W2.cell? ⟨xb, 0, none⟩ = some (bv o) := cell_blk (blk_get (HR2.out.pull 4 rfl)) 0
  have x1 : W2.cell? ⟨xb, 1, none⟩ = some (bv x) := cell_blk (blk_get (HR2.out.pull 4 rfl)) 1
  rw [show bv o = .int .u8 21 by unfold bv; rw [HO.out]; rfl] at x0
  obtain ⟨rb2, -, -, -, -, -, C6⟩ := cf_of (HR2.out.pull 3 rfl)
  have p0 := C6 0 (by omega)
  have p1 := C6 1 (by omega)
  have p2 := C6 2 (by omega)
  have p3 := C6 3 (by omega)
  rw [e0] at p0
  rw [e1] at p1
  rw [e2] at p2
  rw [e3] at p3
  clear C6 e0 e1 e2 e3
  have SC := Lib.hid (fun W => signed_c u3 W)
  go_upto_region 15 with fail

  refine wp_region_S 24 (fun W => W.cell? ⟨xb, 1, none⟩ = some (bv x) ∧ W.cell? ⟨b, 0, none⟩ = some (wv u0) ∧ W.cell? ⟨b, 1, none⟩ = some (wv u1) ∧ W.cell? ⟨b, 2, none⟩ = some (wv u2) ∧ W.cell? ⟨b, 3, none⟩ = some (wv u3)) (by as_aux_lemma => kernel_rfl) ?_
  have hSS : (fun (W : World) => W.cell? ⟨xb, 1, none⟩ = some (bv x) ∧ W.cell? ⟨b, 0, none⟩ = some (wv u0) ∧ W.cell? ⟨b, 1, none⟩ = some (wv u1) ∧ W.cell? ⟨b, 2, none⟩ = some (wv u2) ∧ W.cell? ⟨b, 3, none⟩ = some (wv u3)) W2.drew := ⟨x1, p0, p1, p2, p3⟩
  refine wpAnyS_td (i := 0) (by as_aux_lemma => kernel_rfl) hSS (fun oi hoi => ?_)
  simp only [List.getElem?_toArray, List.getElem?_cons_zero, List.getElem?_cons_succ, Option.some.injEq] at hoi; subst hoi
  refine ⟨?_, by rfl, fun wx hSx => ?_, fun _ _ _ h => step_q (by decide) h, ?_⟩
  rotate_left
  · obtain ⟨s1, s2, s3, s4, s5⟩ := hSx
    go_simp
    try with_reducible rfl
  try simp only [Act.put, List.setIfInBounds_toArray, List.set_cons_zero, List.set_cons_succ]
  refine wpAnyS_td (i := 1) (by as_aux_lemma => kernel_rfl) hSS (fun oi hoi => ?_)
  simp only [List.getElem?_toArray, List.getElem?_cons_zero, List.getElem?_cons_succ, Option.some.injEq] at hoi; subst hoi
  refine ⟨?_, by rfl, fun wx hSx => ?_, fun _ _ _ h => step_q (by decide) h, ?_⟩
  rotate_left
  · obtain ⟨s1, s2, s3, s4, s5⟩ := hSx
    go_simp
    try with_reducible rfl
  try simp only [Act.put, List.setIfInBounds_toArray, List.set_cons_zero, List.set_cons_succ]
  refine wpAnyS_td (i := 2) (by as_aux_lemma => kernel_rfl) hSS (fun oi hoi => ?_)
  simp only [List.getElem?_toArray, List.getElem?_cons_zero, List.getElem?_cons_succ, Option.some.injEq] at hoi; subst hoi
  refine ⟨?_, by rfl, fun wx hSx => ?_, fun _ _ _ h => step_q (by decide) h, ?_⟩
  rotate_left
  · obtain ⟨s1, s2, s3, s4, s5⟩ := hSx
    go_simp
    try with_reducible rfl
  try simp only [Act.put, List.setIfInBounds_toArray, List.set_cons_zero, List.set_cons_succ]
  refine wpAnyS_td (i := 3) (by as_aux_lemma => kernel_rfl) hSS (fun oi hoi => ?_)
  simp only [List.getElem?_toArray, List.getElem?_cons_zero, List.getElem?_cons_succ, Option.some.injEq] at hoi; subst hoi
  refine ⟨?_, by rfl, fun wx hSx => ?_, fun _ _ _ h => step_q (by decide) h, ?_⟩
  rotate_left
  · obtain ⟨s1, s2, s3, s4, s5⟩ := hSx
    go_simp
    try with_reducible rfl
  try simp only [Act.put, List.setIfInBounds_toArray, List.set_cons_zero, List.set_cons_succ]
  refine wpAnyS_td (i := 4) (by as_aux_lemma => kernel_rfl) hSS (fun oi hoi => ?_)
  simp only [List.getElem?_toArray, List.getElem?_cons_zero, List.getElem?_cons_succ, Option.some.injEq] at hoi; subst hoi
  refine ⟨?_, by rfl, fun wx hSx => ?_, fun _ _ _ h => step_q (by decide) h, ?_⟩
  rotate_left
  · obtain ⟨s1, s2, s3, s4, s5⟩ := hSx
    go_simp
    try with_reducible rfl
  try simp only [Act.put, List.setIfInBounds_toArray, List.set_cons_zero, List.set_cons_succ]
  refine wpAnyS_td (i := 5) (by as_aux_lemma => kernel_rfl) hSS (fun oi hoi => ?_)
  simp only [List.getElem?_toArray, List.getElem?_cons_zero, List.getElem?_cons_succ, Option.some.injEq] at hoi; subst hoi
  refine ⟨?_, by rfl, fun wx hSx => ?_, fun _ _ _ h => step_q (by decide) h, ?_⟩
  rotate_left
  · obtain ⟨s1, s2, s3, s4, s5⟩ := hSx
    go_simp
    try with_reducible rfl
  try simp only [Act.put, List.setIfInBounds_toArray, List.set_cons_zero, List.set_cons_succ]
  refine wpAnyS_td (i := 6) (by as_aux_lemma => kernel_rfl) hSS (fun oi hoi => ?_)
  simp only [List.getElem?_toArray, List.getElem?_cons_zero, List.getElem?_cons_succ, Option.some.injEq] at hoi; subst hoi
  refine ⟨?_, by rfl, fun wx hSx => ?_, fun _ _ _ h => step_q (by decide) h, ?_⟩
  rotate_left
  · obtain ⟨s1, s2, s3, s4, s5⟩ := hSx
    go_simp
    try with_reducible rfl
  try simp only [Act.put, List.setIfInBounds_toArray, List.set_cons_zero, List.set_cons_succ]
  refine wpAnyS_td (i := 7) (by as_aux_lemma => kernel_rfl) hSS (fun oi hoi => ?_)
  simp only [List.getElem?_toArray, List.getElem?_cons_zero, List.getElem?_cons_succ, Option.some.injEq] at hoi; subst hoi
  refine ⟨?_, by rfl, fun wx hSx => ?_, fun _ _ _ h => step_q (by decide) h, ?_⟩
  rotate_left
  · obtain ⟨s1, s2, s3, s4, s5⟩ := hSx
    go_simp
    try with_reducible rfl
  try simp only [Act.put, List.setIfInBounds_toArray, List.set_cons_zero, List.set_cons_succ]
  refine wpAnyS_td (i := 8) (by as_aux_lemma => kernel_rfl) hSS (fun oi hoi => ?_)
  simp only [List.getElem?_toArray, List.getElem?_cons_zero, List.getElem?_cons_succ, Option.some.injEq] at hoi; subst hoi
  refine ⟨?_, by rfl, fun wx hSx => ?_, fun _ _ _ h => step_q (by decide) h, ?_⟩
  rotate_left
  · obtain ⟨s1, s2, s3, s4, s5⟩ := hSx
    go_simp
    try with_reducible rfl
  try simp only [Act.put, List.setIfInBounds_toArray, List.set_cons_zero, List.set_cons_succ]
  refine wpAnyS_td (i := 9) (by as_aux_lemma => kernel_rfl) hSS (fun oi hoi => ?_)
  simp only [List.getElem?_toArray, List.getElem?_cons_zero, List.getElem?_cons_succ, Option.some.injEq] at hoi; subst hoi
  refine ⟨?_, by rfl, fun wx hSx => ?_, fun _ _ _ h => step_q (by decide) h, ?_⟩
  rotate_left
  · obtain ⟨s1, s2, s3, s4, s5⟩ := hSx
    go_simp
    try with_reducible rfl
  try simp only [Act.put, List.setIfInBounds_toArray, List.set_cons_zero, List.set_cons_succ]
  refine wpAnyS_td (i := 10) (by as_aux_lemma => kernel_rfl) hSS (fun oi hoi => ?_)
  simp only [List.getElem?_toArray, List.getElem?_cons_zero, List.getElem?_cons_succ, Option.some.injEq] at hoi; subst hoi
  refine ⟨?_, by rfl, fun wx hSx => ?_, fun _ _ _ h => step_q (by decide) h, ?_⟩
  rotate_left
  · obtain ⟨s1, s2, s3, s4, s5⟩ := hSx
    go_simp
    try with_reducible rfl
  try simp only [Act.put, List.setIfInBounds_toArray, List.set_cons_zero, List.set_cons_succ]
  refine wpAnyS_td (i := 11) (by as_aux_lemma => kernel_rfl) hSS (fun oi hoi => ?_)
  simp only [List.getElem?_toArray, List.getElem?_cons_zero, List.getElem?_cons_succ, Option.some.injEq] at hoi; subst hoi
  refine ⟨?_, by rfl, fun wx hSx => ?_, fun _ _ _ h => step_q (by decide) h, ?_⟩
  rotate_left
  · obtain ⟨s1, s2, s3, s4, s5⟩ := hSx
    go_simp
    try with_reducible rfl
  try simp only [Act.put, List.setIfInBounds_toArray, List.set_cons_zero, List.set_cons_succ]
  refine wpAnyS_td (i := 12) (by as_aux_lemma => kernel_rfl) hSS (fun oi hoi => ?_)
  simp only [List.getElem?_toArray, List.getElem?_cons_zero, List.getElem?_cons_succ, Option.some.injEq] at hoi; subst hoi
  refine ⟨?_, by rfl, fun wx hSx => ?_, fun _ _ _ h => step_q (by decide) h, ?_⟩
  rotate_left
  · obtain ⟨s1, s2, s3, s4, s5⟩ := hSx
    go_simp
    try with_reducible rfl
  try simp only [Act.put, List.setIfInBounds_toArray, List.set_cons_zero, List.set_cons_succ]
  refine wpAnyS_td (i := 13) (by as_aux_lemma => kernel_rfl) hSS (fun oi hoi => ?_)
  simp only [List.getElem?_toArray, List.getElem?_cons_zero, List.getElem?_cons_succ, Option.some.injEq] at hoi; subst hoi
  refine ⟨?_, by rfl, fun wx hSx => ?_, fun _ _ _ h => step_q (by decide) h, ?_⟩
  rotate_left
  · obtain ⟨s1, s2, s3, s4, s5⟩ := hSx
    go_simp
    try with_reducible rfl
  try simp only [Act.put, List.setIfInBounds_toArray, List.set_cons_zero, List.set_cons_succ]
  refine wpAnyS_td (i := 14) (by as_aux_lemma => kernel_rfl) hSS (fun oi hoi => ?_)
  simp only [List.getElem?_toArray, List.getElem?_cons_zero, List.getElem?_cons_succ, Option.some.injEq] at hoi; subst hoi
  refine ⟨?_, by rfl, fun wx hSx => ?_, fun _ _ _ h => step_q (by decide) h, ?_⟩
  rotate_left
  · obtain ⟨s1, s2, s3, s4, s5⟩ := hSx
    go_simp
    try with_reducible rfl
  try simp only [Act.put, List.setIfInBounds_toArray, List.set_cons_zero, List.set_cons_succ]
  refine wpAnyS_td (i := 15) (by as_aux_lemma => kernel_rfl) hSS (fun oi hoi => ?_)
  simp only [List.getElem?_toArray, List.getElem?_cons_zero, List.getElem?_cons_succ, Option.some.injEq] at hoi; subst hoi
  refine ⟨?_, by rfl, fun wx hSx => ?_, fun _ _ _ h => step_q (by decide) h, ?_⟩
  rotate_left
  · obtain ⟨s1, s2, s3, s4, s5⟩ := hSx
    go_simp
    try with_reducible rfl
  try simp only [Act.put, List.setIfInBounds_toArray, List.set_cons_zero, List.set_cons_succ]
  refine wpAnyS_td (i := 16) (by as_aux_lemma => kernel_rfl) hSS (fun oi hoi => ?_)
  simp only [List.getElem?_toArray, List.getElem?_cons_zero, List.getElem?_cons_succ, Option.some.injEq] at hoi; subst hoi
  refine ⟨?_, by rfl, fun wx hSx => ?_, fun _ _ _ h => step_q (by decide) h, ?_⟩
  rotate_left
  · obtain ⟨s1, s2, s3, s4, s5⟩ := hSx
    go_simp
    try with_reducible rfl
  try simp only [Act.put, List.setIfInBounds_toArray, List.set_cons_zero, List.set_cons_succ]
  refine wpAnyS_td (i := 17) (by as_aux_lemma => kernel_rfl) hSS (fun oi hoi => ?_)
  simp only [List.getElem?_toArray, List.getElem?_cons_zero, List.getElem?_cons_succ, Option.some.injEq] at hoi; subst hoi
  refine ⟨?_, by rfl, fun wx hSx => ?_, fun _ _ _ h => step_q (by decide) h, ?_⟩
  rotate_left
  · obtain ⟨s1, s2, s3, s4, s5⟩ := hSx
    go_simp
    try with_reducible rfl
  try simp only [Act.put, List.setIfInBounds_toArray, List.set_cons_zero, List.set_cons_succ]
  refine wpAnyS_td (i := 18) (by as_aux_lemma => kernel_rfl) hSS (fun oi hoi => ?_)
  simp only [List.getElem?_toArray, List.getElem?_cons_zero, List.getElem?_cons_succ, Option.some.injEq] at hoi; subst hoi
  refine ⟨?_, by rfl, fun wx hSx => ?_, fun _ _ _ h => step_q (by decide) h, ?_⟩
  rotate_left
  · obtain ⟨s1, s2, s3, s4, s5⟩ := hSx
    go_simp
    try with_reducible rfl
  try simp only [Act.put, List.setIfInBounds_toArray, List.set_cons_zero, List.set_cons_succ]
  refine wpAnyS_td (i := 19) (by as_aux_lemma => kernel_rfl) hSS (fun oi hoi => ?_)
  simp only [List.getElem?_toArray, List.getElem?_cons_zero, List.getElem?_cons_succ, Option.some.injEq] at hoi; subst hoi
  refine ⟨?_, by rfl, fun wx hSx => ?_, fun _ _ _ h => step_q (by decide) h, ?_⟩
  rotate_left
  · obtain ⟨s1, s2, s3, s4, s5⟩ := hSx
    go_simp
    try with_reducible rfl
  try simp only [Act.put, List.setIfInBounds_toArray, List.set_cons_zero, List.set_cons_succ]
  refine wpAnyS_td (i := 20) (by as_aux_lemma => kernel_rfl) hSS (fun oi hoi => ?_)
  simp only [List.getElem?_toArray, List.getElem?_cons_zero, List.getElem?_cons_succ, Option.some.injEq] at hoi; subst hoi
  refine ⟨?_, by rfl, fun wx hSx => ?_, fun _ _ _ h => step_q (by decide) h, ?_⟩
  rotate_left
  · obtain ⟨s1, s2, s3, s4, s5⟩ := hSx
    go_simp
    try with_reducible rfl
  try simp only [Act.put, List.setIfInBounds_toArray, List.set_cons_zero, List.set_cons_succ]
  refine wpAnyS_td (i := 21) (by as_aux_lemma => kernel_rfl) hSS (fun oi hoi => ?_)
  simp only [List.getElem?_toArray, List.getElem?_cons_zero, List.getElem?_cons_succ, Option.some.injEq] at hoi; subst hoi
  refine ⟨?_, by rfl, fun wx hSx => ?_, fun _ _ _ h => step_q (by decide) h, ?_⟩
  rotate_left
  · obtain ⟨s1, s2, s3, s4, s5⟩ := hSx
    go_simp
    try with_reducible rfl
  try simp only [Act.put, List.setIfInBounds_toArray, List.set_cons_zero, List.set_cons_succ]
  refine wpAnyS_one (i := 22) (by as_aux_lemma => kernel_rfl) ?_
  intro oi hoi K hK
  simp only [List.getElem?_toArray, List.getElem?_cons_zero, List.getElem?_cons_succ, Option.some.injEq] at hoi; subst hoi
  go_simp
  go_at_call 34
  refine (SC.out _).mono ?_; rintro e w2 ⟨rfl, rfl⟩
  refine hK.out _ _ (fun _ => hSS) ?_
  clear hK K
  try simp only [Act.put, List.setIfInBounds_toArray, List.set_cons_zero, List.set_cons_succ]
  refine wpAnyS_td (i := 23) (by as_aux_lemma => kernel_rfl) hSS (fun oi hoi => ?_)
  simp only [List.getElem?_toArray, List.getElem?_cons_zero, List.getElem?_cons_succ, Option.some.injEq] at hoi; subst hoi
  refine ⟨?_, by rfl, fun wx hSx => ?_, fun _ _ _ h => step_q (by decide) h, ?_⟩
  rotate_left
  · obtain ⟨s1, s2, s3, s4, s5⟩ := hSx
    go_simp
    try with_reducible rfl
  try simp only [Act.put, List.setIfInBounds_toArray, List.set_cons_zero, List.set_cons_succ]
  obtain ⟨c2, d0, d1, d2, d3, d4, c4, z2, z30, z31, z32, z33, z34, z4, n1, n2, n3, n4, n5, n6⟩ := r3_facts HR2.out
  have HR3 := Lib.hid (r3_ask (d := ⟨x, u0, u1, u2, sg u3⟩) HR2.out).drew
  refine wpAnyS_one (i := 24) (by as_aux_lemma => kernel_rfl) ?_
  intro oi hoi K hK
  simp only [List.getElem?_toArray, List.getElem?_cons_zero, List.getElem?_cons_succ, Option.some.injEq] at hoi; subst hoi
  go_simp
  refine hK.out _ _ (fun h => absurd h (by decide)) ?_
  clear hK K
  try simp only [Act.put, List.setIfInBounds_toArray, List.set_cons_zero, List.set_cons_succ]
  refine wpAnyS_done (by as_aux_lemma => kernel_rfl) ?_ _
  clear hSS x0 x1 p0 p1 p2 p3 SC
  go_upto_region 16 with fail
  generalize World.drew (World.setCell _ _ _) = W3 at *
  clear c2 d0 d1 d2 d3 d4 c4 z2 z30 z31 z32 z33 z34 z4 n1 n2 n3 n4 n5 n6
  clear HR2
  obtain ⟨rb3, C1, C2, C3, -, C5, -⟩ := cf_of (HR3.out.pull 3 rfl)
  have C5' := C5 12
  clear C5 C1 C2
  rw [ha] at C3
  have HR4 := Lib.hid (cr_asked HR3.out true)
  go_upto_region 17 with fail
  generalize W3.setCell _ _ = W4 at *
  clear HR3 C3 C5'
  obtain ⟨rb4, C1, C2, C3, -, C5, -⟩ := cf_of (HR4.out.pull 3 rfl)
  have C5' := C5 8
  clear C5 C2 C3
  rw [show ({ s with asked := true } : Cs).at_ = (k : Int) from hk] at C1
  have HR5 := Lib.hid (cr_at HR4.out ((k : Int) + 1))
  have hw : IntKind.i64.wrap ((k : Int) + 1) = (k : Int) + 1 := by rw [IntKind.wrap_i64]; omega
  go_upto_region 18 with fail
  generalize W4.setCell _ _ = W5 at *
  clear HR4 C1 C5' hw
  rw [← hk] at HR5
  obtain ⟨c2, d0, d1, d2, d3, d4, c4, z2, z30, z31, z32, z33, z34, z4, n1, n2, n3, n4, n5, n6⟩ := r3_facts HR5.out
  have HZ := Lib.hid (r3_set (y := true) (d := ⟨x, u0, u1, u2, sg u3⟩) (f := 0) HR5.out)
  clear HR5
  go_wp2
  go_region
  go_wp2
  refine leaves_cons (f := 33) (args := #[.pointer (some ⟨b2, 0, none⟩), .pointer (some ⟨b3, 0, none⟩), .pointer (some ⟨b4, 0, none⟩)]) (by simp) (by simp [go_sem]) ?_
  refine (catch_r _ _ _ _).mono ?_
  rintro e u' w'' ⟨rfl, rfl, rfl⟩
  exact ⟨_, res3 _ rfl rfl rfl HZ.out.drew, rfl, HZ.out.drew.tail.tail.tail.up1.tail⟩
end Go.Proofs.YtijkkompnfpdeaaGreatDoor
