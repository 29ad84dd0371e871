/- Cores: any step; made; what one has, handed out; an answer: walked. Cores: what one has, handed out; an answer: walked. Cores: the chapter's own core lives: walked. The document's words and units (timekeeperref01, timekeeperref03): walked. -/
import Derived.Test.YtijkkompnfpdeaaGreatDoorP10
import Derived.Test.YtijkkompnfpdeaaGreatDoorP11
import Derived.Lib.BufferRead
set_option linter.unusedVariables false
set_option linter.unusedSimpArgs false
namespace Go.Proofs.YtijkkompnfpdeaaGreatDoor
open Go.RowKit Go.Joins Go.Shelf
attribute [local go_sem] Oper.semAt_some

/-- Any step. -/
theorem step_c {w0 w : World} {r : List Thing} {b : Nat} {c : List I4} {s : Cs} (hc : c.all ik = true) (hlen : c.length ≤ 1024) (hs : s.says.length < 256) (H : Hp w0 w (CR b c s :: r)) :
    Calls Tryz.prog 9 #[.pointer (some ⟨b, 0, none⟩)] w fun e w' => e = .returned (stV (stepC c s).2.1 (stepC c s).2.2.1 (stepC c s).2.2.2) ∧ Hp w0 w' (CR b c (stepC c s).1 :: r) := by
  unfold stepC
  cases ha : s.asked with
  | true => simp only [if_true]; exact step_asked ha H
  | false =>
    simp only [Bool.false_eq_true, if_false]
    by_cases h0 : s.at_ < 0
    · rw [dif_neg (by omega)]; exact step_low ha h0 H
    · by_cases h1 : (c.length : Int) ≤ s.at_
      · rw [dif_neg (by omega)]; exact step_high ha h0 h1 H
      · rw [dif_pos (by omega)]
        have hlt : s.at_.toNat < c.length := by omega
        have hk : s.at_ = (s.at_.toNat : Int) := by omega
        have hik : ik c[s.at_.toNat] = true := List.all_eq_true.1 hc _ (List.getElem_mem hlt)
        generalize hx : c[s.at_.toNat] = x at *
        obtain ⟨o, x, y, z⟩ := x
        have R := ik_regs hik
        simp only []
        by_cases h21 : 21 ≤ o.toNat
        · rw [if_pos h21]
          by_cases h22 : o.toNat = 22
          · have e : askC (o, x, y, z) s = { ak0 with what := 20 } := by simp [askC, h22]
            simp only [e]
            exact step_end ha _ hk hlt hlen o x y z hx h22 H
          · have e : askC (o, x, y, z) s = ⟨x, s.r.getD 0 0, s.r.getD 1 0, s.r.getD 2 0, sg (s.r.getD 3 0)⟩ := by unfold askC; rw [if_neg h22]
            simp only [e]
            exact step_ask ha _ hk hlt hlen o x y z hx (by have := R.ra; omega) _ _ _ _ rfl rfl rfl rfl H
        · rw [if_neg h21]
          cases hd : doesC (o, x, y, z) s with
          | some q =>
            obtain ⟨t, d⟩ := q
            exact step_do ha _ hk hlt hlen o x y z hx hik (by omega) hs t d hd H
          | none => exact step_fault ha _ hk hlt hlen o x y z hx hik (by omega) hs hd H
theorem regs_info : (Tryz.prog.info? 40).map (·.size) = some 8 := by kernel_rfl
theorem coreL_first (n : Nat) (d : List UInt8) (rb : Nat) (vc : Value) : #[Value.int .u32 0, .int .u32 0, .int .u32 0, .int .u32 0, .int .u32 0, .int .u32 0, .int .u32 0, .int .u32 0, .int .i64 0, .pointer (some ⟨rb, 0, none⟩), vc, .slice none 0 0, .bool false] = (coreL (firstC n d) rb vc (.slice none 0 0)).toArray := rfl
def NewP (w0 : World) (r : List Thing) (c : List I4) (s : Cs) (e : Ending) (w' : World) : Prop := ∃ b, e = .returned (.tuple #[.pointer (some ⟨b, 0, none⟩), .int .i64 0]) ∧ Hp w0 w' (CR b c s :: r)
theorem NewP.mk' {w0 : World} {r : List Thing} {c : List I4} {s : Cs} {e : Ending} {w' : World} (b : Nat) (h1 : e = .returned (.tuple #[.pointer (some ⟨b, 0, none⟩), .int .i64 0])) (h2 : Hp w0 w' (CR b c s :: r)) : NewP w0 r c s e w' := ⟨b, h1, h2⟩
theorem oneCell_ics : ∀ (c : List I4), ∀ u ∈ ics c, u.oneCell' = true
  | [], u, h => by simp [ics] at h
  | x :: c, u, h => by
    simp only [ics, List.flatMap_cons, List.mem_append] at h
    rcases h with h | h
    · simp [i4c] at h; rcases h with rfl | rfl | rfl | rfl <;> rfl
    · exact oneCell_ics c u h
set_option maxHeartbeats 4000000 in
set_option maxRecDepth 20000 in
theorem new_y {w0 w : World} {r : List Thing} (n : Nat) (ad ac : Option Addr) (dc cc : Nat) (d : List UInt8) (c : List I4) (hk : imck n d c = true) (hd : CellsIn w ad (d.map bv)) (hc : CellsIn w ac (ics c)) (H : Hp w0 w r) :
    Calls Tryz.prog 8 #[imV n ad d.length dc ac c.length cc] w (NewP w0 r c (firstC n d)) := by
  have hb := hk
  unfold imck at hb
  simp only [Bool.and_eq_true, decide_eq_true_eq] at hb
  obtain ⟨⟨b1, b2, b3, b4⟩, _⟩ := hb
  have H1 := blk_new H (.cells #[.int .i64 (n : Int), .slice ad d.length dc, .slice ac c.length cc] 29)
  have hB : Below w.heap.size w (w.alloc (.cells #[.int .i64 (n : Int), .slice ad d.length dc, .slice ac c.length cc] 29)) := (Below.refl _ w).alloc (Nat.le_refl _) _
  have CK := Lib.hid (imcheck_c (n : Int) ad ac dc cc d c _ (hc.below hB))
  rw [hk] at CK
  have HD := Lib.hid (hd.below hB)
  have HC := Lib.hid (hc.below hB)
  have HB := Lib.hid (show n ≤ 4096 ∧ d.length ≤ n ∧ c.length ≤ 1024 from ⟨by omega, by omega, b4⟩)
  have HH := Lib.hid H1
  clear hB b1 b2 b3 b4 hk hd hc H H1
  go_enter Tryz.func8, Tryz.ntmps8
  go_upto_region 1 with fail
  generalize w.heap.size = xb at *
  generalize (w.alloc _) = w1 at *
  have x0 : w1.cell? ⟨xb, 0, none⟩ = _ := cell_blk (blk_get HH.out) 0
  have x1 : w1.cell? ⟨xb, 1, none⟩ = _ := cell_blk (blk_get HH.out) 1
  have x2 : w1.cell? ⟨xb, 2, none⟩ = _ := cell_blk (blk_get HH.out) 2
  go_wp2_with fail
  refine CK.out.mono ?_; rintro e w2 ⟨rfl, hb⟩
  have H2 := Lib.hid (HH.out.below_read hb)
  have HD2 := Lib.hid (HD.out.below hb)
  have HC2 := Lib.hid (HC.out.below hb)
  clear hb CK HH HD HC x0 x1 x2
  have x0 : w2.cell? ⟨xb, 0, none⟩ = _ := cell_blk (blk_get H2.out) 0
  have x1 : w2.cell? ⟨xb, 1, none⟩ = _ := cell_blk (blk_get H2.out) 1
  have x2 : w2.cell? ⟨xb, 2, none⟩ = _ := cell_blk (blk_get H2.out) 2
  go_wp2_with fail
  refine (rnew_c n ad dc d HB.out.1 HB.out.2.1 HD2.out (Hp.start w2)).mono ?_; rintro e w3 ⟨rb, mb, rfl, H3'⟩
  have H3 : Hid (Hp w0 w3 (MB mb (d ++ List.replicate (n - d.length) 0) :: RGN rb mb n :: Blk xb _ :: r)) := Lib.hid (H2.out.lift H3')
  have HC3 := Lib.hid (HC2.out.below H3'.below)
  clear H3' H2 HD2 HC2 x0 x1 x2
  have x2 : w3.cell? ⟨xb, 2, none⟩ = _ := cell_blk (blk_get (H3.out.pull 2 rfl)) 2
  go_wp2_with fail
  refine (clone_i ac cc c.length (ics c) (by have := HB.out.2.2; omega) (ics_len c) HC3.out (oneCell_ics c) H3.out).mono ?_; rintro e w4 ⟨v, rfl, H4⟩
  obtain ⟨av, cv, rfl⟩ := own_slice H4
  have H5 := blk_new (own_nil H4 5 1) (.cells #[Value.int .u32 0, .int .u32 0, .int .u32 0, .int .u32 0, .int .u32 0, .int .u32 0, .int .u32 0, .int .u32 0, .int .i64 0, .pointer (some ⟨rb, 0, none⟩), .slice av c.length cv, .slice none 0 0, .bool false] 79)
  have hl : (firstC n d).mem.length = n := firstC_mem HB.out.2.1
  have H6 := (((((H5.pull 1 rfl).pull 2 rfl).pull 4 rfl).pull 4 rfl).pull 4 rfl)
  have H7 := Lib.hid ((cr_shut (r := Blk xb (.cells #[.int .i64 (n : Int), .slice ad d.length dc, .slice ac c.length cc] 29 (0, 0)) :: r) (b := w4.heap.size) (rb := rb) (mb := mb) (c := c) (vc := .slice av c.length cv) (vs := .slice none 0 0) (s := firstC n d) (by rfl) (by rw [hl]; exact HB.out.1) (by rw [hl]; exact H6)).up1.tail)
  clear H6 H5 H4 H3 HC3 x2
  go_wp2
  go_ret2
  exact NewP.mk' _ rfl H7.out
end Go.Proofs.YtijkkompnfpdeaaGreatDoor
set_option linter.unusedVariables false
set_option linter.unusedSimpArgs false
namespace Go.Proofs.YtijkkompnfpdeaaGreatDoor
open Go.RowKit Go.Joins Go.Shelf
attribute [local go_sem] Oper.semAt_some

theorem conv_cells (w : World) (a : Option Addr) (c : Nat) (l : List UInt8) (h : CellsIn w a (l.map bv)) : (convert 22 9 (.slice a l.length c)).run Tryz.prog w = .ok (.string ⟨l.toArray⟩) w := by
  cases a with
  | none =>
    have hl : l = [] := by
      cases l with
      | nil => rfl
      | cons x l => obtain ⟨g, o, e, _⟩ := h 0 (by simp); cases e
    subst hl
    exact Lib.run_convert_nil_bytes w _ _ 5 c Tryz.underlying22 Tryz.underlying5 Tryz.underlying9
  | some ad =>
    refine Go.run_convert_bytes_back _ _ _ 5 ad c l Tryz.underlying22 Tryz.underlying5 Tryz.underlying9 (fun j hj => ?_)
    obtain ⟨g, o, e, hc⟩ := h j (by simpa using hj)
    cases e
    rw [show (⟨g, o, none⟩ : Addr).add j = ⟨g, o + j, none⟩ from Addr.add_lit g o j, hc]
    simp
set_option maxHeartbeats 2000000 in
set_option maxRecDepth 20000 in
theorem at_of {w0 w : World} {r : List Thing} {b : Nat} {c : List I4} {s : Cs} (H : Hp w0 w (CR b c s :: r)) :
    Calls Tryz.prog 18 #[.pointer (some ⟨b, 0, none⟩)] w fun e w' => e = .returned (.int .i64 s.at_) ∧ Hp w0 w' (CR b c s :: r) := by
  obtain ⟨rb, C1, C2, -, -, -, -⟩ := cf_of H
  have HH := Lib.hid H
  clear H
  go_enter Tryz.func18, Tryz.ntmps18
  go_wp2
  go_ret
  exact ⟨rfl, HH.out⟩
set_option maxHeartbeats 2000000 in
set_option maxRecDepth 20000 in
theorem console_of {w0 w : World} {r : List Thing} {b : Nat} {c : List I4} {s : Cs} (H : Hp w0 w (CR b c s :: r)) :
    Calls Tryz.prog 11 #[.pointer (some ⟨b, 0, none⟩)] w fun e w' => e = .returned (.string ⟨s.says.toArray⟩) ∧ Hp w0 w' (CR b c s :: r) := by
  obtain ⟨rb, mb, vc, vs, hl, hm, H2⟩ := cr_open H
  obtain ⟨a, n, rfl⟩ := own_slice (H2.pull 4 rfl)
  have C2 : w.cell? ⟨b, 9, none⟩ = _ := cb_cell H2 hl 1
  have C4 : w.cell? ⟨b, 11, none⟩ = _ := cb_cell H2 hl 3
  have hc := conv_cells w a n s.says (CellsIn.own (H2.pull 4 rfl))
  have HH := Lib.hid H
  clear H H2 hl hm
  go_enter Tryz.func11, Tryz.ntmps11
  go_wp2
  go_ret
  exact ⟨rfl, HH.out⟩
set_option maxHeartbeats 2000000 in
theorem there_c (b rb : Nat) (w : World) (C2 : w.cell? ⟨b, 9, none⟩ = some (.pointer (some ⟨rb, 0, none⟩))) :
    Calls Tryz.prog 32 #[.pointer (some ⟨b, 0, none⟩)] w fun e w' => e = .returned (.bool true) ∧ w' = w := by
  go_enter Tryz.func32, Tryz.ntmps32
  go_wp2
  go_ret
  exact ⟨rfl, rfl⟩
set_option maxHeartbeats 2000000 in
set_option maxRecDepth 20000 in
theorem bytes_of {w0 w : World} {r : List Thing} {b : Nat} {c : List I4} {s : Cs} (H : Hp w0 w (CR b c s :: r)) :
    Calls Tryz.prog 13 #[.pointer (some ⟨b, 0, none⟩)] w fun e w' => ∃ v, e = .returned v ∧ Hp w0 w' (OwnU8 v s.mem :: CR b c s :: r) := by
  obtain ⟨rb, mb, vc, vs, hl, hm, H2⟩ := cr_open H
  have C2 : w.cell? ⟨b, 9, none⟩ = _ := cb_cell H2 hl 1
  have BC := Lib.hid (rbytes_c rb mb s.mem hm (H2.pull 1 rfl |>.pull 2 rfl |>.up1))
  have HM := Lib.hid hm
  have HL := Lib.hid hl
  clear H H2 hl hm
  go_enter Tryz.func13, Tryz.ntmps13
  go_wp2_with fail
  refine (there_c b rb w C2).mono ?_; rintro e w1 ⟨rfl, rfl⟩
  go_wp2_with fail
  refine BC.out.mono ?_; rintro e w2 ⟨v, rfl, H3⟩
  obtain ⟨a, n, rfl⟩ := own_slice H3
  have HZ := Lib.hid ((cr_shut HL.out HM.out (((((H3.pull 5 rfl).pull 5 rfl).pull 4 rfl).pull 4 rfl).pull 5 rfl)).up1)
  clear BC H3 C2
  go_wp2
  go_ret
  exact ⟨_, rfl, HZ.out⟩
set_option maxHeartbeats 2000000 in
set_option maxRecDepth 20000 in
theorem regs_of {w0 w : World} {r : List Thing} {b : Nat} {c : List I4} {s : Cs} (u0 u1 u2 u3 u4 u5 u6 u7 : UInt32) (hr : s.r = [u0, u1, u2, u3, u4, u5, u6, u7]) (H : Hp w0 w (CR b c s :: r)) :
    Calls Tryz.prog 10 #[.pointer (some ⟨b, 0, none⟩)] w fun e w' => e = .returned (.agg (s.r.map wv).toArray) ∧ Hp w0 w' (CR b c s :: r) := by
  have HN := Lib.hid (blk_new H (.cells #[wv u0, wv u1, wv u2, wv u3, wv u4, wv u5, wv u6, wv u7] 40))
  have HH := Lib.hid (blk_new H (.cells #[.int .u32 0, .int .u32 0, .int .u32 0, .int .u32 0, .int .u32 0, .int .u32 0, .int .u32 0, .int .u32 0] 40))
  rw [hr]
  go_enter Tryz.func10, Tryz.ntmps10
  go_upto_region 1 with fail
  generalize w.heap.size = n at *
  generalize (w.alloc (.cells #[.int .u32 0, .int .u32 0, .int .u32 0, .int .u32 0, .int .u32 0, .int .u32 0, .int .u32 0, .int .u32 0] 40)) = W at *
  obtain ⟨rb, C1, C2, -, -, -, C6⟩ := cf_of HH.out.tail
  rw [hr] at C6
  have p0 : W.cell? ⟨b, 0, none⟩ = some (wv u0) := C6 0 (by omega)
  have p1 : W.cell? ⟨b, 1, none⟩ = some (wv u1) := C6 1 (by omega)
  have p2 : W.cell? ⟨b, 2, none⟩ = some (wv u2) := C6 2 (by omega)
  have p3 : W.cell? ⟨b, 3, none⟩ = some (wv u3) := C6 3 (by omega)
  have p4 : W.cell? ⟨b, 4, none⟩ = some (wv u4) := C6 4 (by omega)
  have p5 : W.cell? ⟨b, 5, none⟩ = some (wv u5) := C6 5 (by omega)
  have p6 : W.cell? ⟨b, 6, none⟩ = some (wv u6) := C6 6 (by omega)
  have p7 : W.cell? ⟨b, 7, none⟩ = some (wv u7) := C6 7 (by omega)
  have hb := blk_get HH.out
  have z0 : W.cell? ⟨n, 0, none⟩ = _ := cell_blk hb 0
  have z1 : W.cell? ⟨n, 1, none⟩ = _ := cell_blk hb 1
  have z2 : W.cell? ⟨n, 2, none⟩ = _ := cell_blk hb 2
  have z3 : W.cell? ⟨n, 3, none⟩ = _ := cell_blk hb 3
  have z4 : W.cell? ⟨n, 4, none⟩ = _ := cell_blk hb 4
  have z5 : W.cell? ⟨n, 5, none⟩ = _ := cell_blk hb 5
  have z6 : W.cell? ⟨n, 6, none⟩ = _ := cell_blk hb 6
  have z7 : W.cell? ⟨n, 7, none⟩ = _ := cell_blk hb 7
  have y0 := free_blk hb 0
  have y1 := free_blk hb 1
  have y2 := free_blk hb 2
  have y3 := free_blk hb 3
  have y4 := free_blk hb 4
  have y5 := free_blk hb 5
  have y6 := free_blk hb 6
  have y7 := free_blk hb 7
  have HZ := Lib.hid (blk_set (blk_set (blk_set (blk_set (blk_set (blk_set (blk_set (blk_set HH.out 0 (wv u0)) 1 (wv u1)) 2 (wv u2)) 3 (wv u3)) 4 (wv u4)) 5 (wv u5)) 6 (wv u6)) 7 (wv u7))
  clear C6 hb HN
  go_wp2
  exact bodyPost_ret (results_cell_row rfl _ _ n _ _ _ _ rfl (blk_get HZ.out) Tryz.underlying40 rfl regs_info) rfl ⟨rfl, HZ.out.tail⟩
set_option maxHeartbeats 4000000 in
set_option maxRecDepth 20000 in
theorem of_c (e : Int) (w : World) : Calls Tryz.prog 47 #[.int .i64 e] w fun e' w' => e' = .returned (wv (UInt32.ofNat (e % 4294967296).toNat)) ∧ w' = w := by
  have h1 : IntKind.u32.wrap e = ((UInt32.ofNat (e % 4294967296).toNat).toNat : Int) := by
    rw [IntKind.wrap_u32, UInt32.toNat_ofNat', Nat.mod_eq_of_lt (by omega)]; omega
  generalize UInt32.ofNat (e % 4294967296).toNat = u at *
  go_enter Tryz.func47, Tryz.ntmps47
  go_wp2
  go_ret
  exact ⟨rfl, rfl⟩
theorem answC_y {s : Cs} (h : s.asked = true) (e : Int) (v : UInt32) : answC s e v = ({ s with asked := false, r := (s.r.set 0 (UInt32.ofNat (e % 4294967296).toNat)).set 1 v }, 0) := by simp [answC, h]
theorem answC_n {s : Cs} (h : s.asked = false) (e : Int) (v : UInt32) : answC s e v = (s, 7) := by simp [answC, h]
set_option maxHeartbeats 4000000 in
set_option maxRecDepth 20000 in
theorem answer_n {w0 w : World} {r : List Thing} {b : Nat} {c : List I4} {s : Cs} (h : s.asked = false) (e : Int) (v : UInt32) (H : Hp w0 w (CR b c s :: r)) :
    Calls Tryz.prog 20 #[.pointer (some ⟨b, 0, none⟩), .int .i64 e, wv v] w fun e' w' => e' = .returned (.int .i64 7) ∧ Hp w0 w' (CR b c s :: r) := by
  obtain ⟨rb, -, C2, C3, -, -, -⟩ := cf_of H
  rw [h] at C3
  have HH := Lib.hid H
  clear H
  go_enter Tryz.func20, Tryz.ntmps20
  go_wp2
  go_ret
  exact ⟨rfl, HH.out⟩
set_option maxHeartbeats 4000000 in
set_option maxRecDepth 20000 in
theorem answer_nil (e : Int) (v : UInt32) (w : World) :
    Calls Tryz.prog 20 #[.pointer none, .int .i64 e, wv v] w fun e' w' => e' = .returned (.int .i64 2) ∧ w' = w := by
  go_enter Tryz.func20, Tryz.ntmps20
  go_wp2
  go_ret
  exact ⟨rfl, rfl⟩
set_option maxHeartbeats 4000000 in
set_option maxRecDepth 20000 in
theorem answer_y {w0 w : World} {r : List Thing} {b : Nat} {c : List I4} {s : Cs} (h : s.asked = true) (e : Int) (v : UInt32) (H : Hp w0 w (CR b c s :: r)) :
    Calls Tryz.prog 20 #[.pointer (some ⟨b, 0, none⟩), .int .i64 e, wv v] w fun e' w' => e' = .returned (.int .i64 0) ∧ Hp w0 w' (CR b c (answC s e v).1 :: r) := by
  rw [answC_y h]
  obtain ⟨rb, mb, vc, vs, hl, hm, H2⟩ := cr_open H
  have C2 : w.cell? ⟨b, 9, none⟩ = _ := cb_cell H2 hl 1
  have C3 : w.cell? ⟨b, 12, none⟩ = _ := cb_cell H2 hl 4
  rw [h] at C3
  have z12 := free_blk (blk_get H2) 12
  have OC := Lib.hid (fun W => of_c e W)
  generalize UInt32.ofNat (e % 4294967296).toNat = u at *
  have H3 := Lib.hid (cb_setasked H2 hl false)
  have HL := Lib.hid hl
  have HM := Lib.hid hm
  clear H H2 hl hm
  go_enter Tryz.func20, Tryz.ntmps20
  go_wp2
  generalize w.setCell _ _ = W at *
  clear C2 C3 z12
  have p0 := cb_reg H3.out HL.out 0 (by omega)
  have p1 := cb_reg H3.out HL.out 1 (by omega)
  have y0 := free_blk (blk_get H3.out) 0
  have y1 := free_blk (blk_get H3.out) 1
  refine wp_region_S 12 (fun (_ : World) => True) (by as_aux_lemma => kernel_rfl) ?_
  have hSS : (fun (_ : World) => True) W.drew := trivial
  refine wpAnyS_tk (i := 0) (by as_aux_lemma => kernel_rfl) (by intro c a d v w h; cases d <;> exact h) hSS (fun oi hoi => ?_)
  simp only [List.getElem?_toArray, List.getElem?_cons_zero, List.getElem?_cons_succ, Option.some.injEq] at hoi; subst hoi
  refine ⟨?_, by rfl, fun wx hSx => ?_, ?_⟩
  rotate_left
  · skip
    go_simp
    try with_reducible rfl
  try simp only [Act.put, List.setIfInBounds_toArray, List.set_cons_zero, List.set_cons_succ]
  refine wpAnyS_tk (i := 1) (by as_aux_lemma => kernel_rfl) (by intro c a d v w h; cases d <;> exact h) hSS (fun oi hoi => ?_)
  simp only [List.getElem?_toArray, List.getElem?_cons_zero, List.getElem?_cons_succ, Option.some.injEq] at hoi; subst hoi
  refine ⟨?_, by rfl, fun wx hSx => ?_, ?_⟩
  rotate_left
  · skip
    go_simp
    try with_reducible rfl
  try simp only [Act.put, List.setIfInBounds_toArray, List.set_cons_zero, List.set_cons_succ]
  refine wpAnyS_tk (i := 2) (by as_aux_lemma => kernel_rfl) (by intro c a d v w h; cases d <;> exact h) hSS (fun oi hoi => ?_)
  simp only [List.getElem?_toArray, List.getElem?_cons_zero, List.getElem?_cons_succ, Option.some.injEq] at hoi; subst hoi
  refine ⟨?_, by rfl, fun wx hSx => ?_, ?_⟩
  rotate_left
  · skip
    go_simp
    try with_reducible rfl
  try simp only [Act.put, List.setIfInBounds_toArray, List.set_cons_zero, List.set_cons_succ]
  refine wpAnyS_tk (i := 4) (by as_aux_lemma => kernel_rfl) (by intro c a d v w h; cases d <;> exact h) hSS (fun oi hoi => ?_)
  simp only [List.getElem?_toArray, List.getElem?_cons_zero, List.getElem?_cons_succ, Option.some.injEq] at hoi; subst hoi
  refine ⟨?_, by rfl, fun wx hSx => ?_, ?_⟩
  rotate_left
  · skip
    go_simp
    try with_reducible rfl
  try simp only [Act.put, List.setIfInBounds_toArray, List.set_cons_zero, List.set_cons_succ]
  refine wpAnyS_tk (i := 5) (by as_aux_lemma => kernel_rfl) (by intro c a d v w h; cases d <;> exact h) hSS (fun oi hoi => ?_)
  simp only [List.getElem?_toArray, List.getElem?_cons_zero, List.getElem?_cons_succ, Option.some.injEq] at hoi; subst hoi
  refine ⟨?_, by rfl, fun wx hSx => ?_, ?_⟩
  rotate_left
  · skip
    go_simp
    try with_reducible rfl
  try simp only [Act.put, List.setIfInBounds_toArray, List.set_cons_zero, List.set_cons_succ]
  refine wpAnyS_tk (i := 6) (by as_aux_lemma => kernel_rfl) (by intro c a d v w h; cases d <;> exact h) hSS (fun oi hoi => ?_)
  simp only [List.getElem?_toArray, List.getElem?_cons_zero, List.getElem?_cons_succ, Option.some.injEq] at hoi; subst hoi
  refine ⟨?_, by rfl, fun wx hSx => ?_, ?_⟩
  rotate_left
  · skip
    go_simp
    try with_reducible rfl
  try simp only [Act.put, List.setIfInBounds_toArray, List.set_cons_zero, List.set_cons_succ]
  refine wpAnyS_tk (i := 9) (by as_aux_lemma => kernel_rfl) (by intro c a d v w h; cases d <;> exact h) hSS (fun oi hoi => ?_)
  simp only [List.getElem?_toArray, List.getElem?_cons_zero, List.getElem?_cons_succ, Option.some.injEq] at hoi; subst hoi
  refine ⟨?_, by rfl, fun wx hSx => ?_, ?_⟩
  rotate_left
  · skip
    go_simp
    try with_reducible rfl
  try simp only [Act.put, List.setIfInBounds_toArray, List.set_cons_zero, List.set_cons_succ]
  refine wpAnyS_tk (i := 10) (by as_aux_lemma => kernel_rfl) (by intro c a d v w h; cases d <;> exact h) hSS (fun oi hoi => ?_)
  simp only [List.getElem?_toArray, List.getElem?_cons_zero, List.getElem?_cons_succ, Option.some.injEq] at hoi; subst hoi
  refine ⟨?_, by rfl, fun wx hSx => ?_, ?_⟩
  rotate_left
  · skip
    go_simp
    try with_reducible rfl
  try simp only [Act.put, List.setIfInBounds_toArray, List.set_cons_zero, List.set_cons_succ]
  refine wpAnyS_one (i := 3) (by as_aux_lemma => kernel_rfl) ?_
  intro oi hoi K hK
  simp only [List.getElem?_toArray, List.getElem?_cons_zero, List.getElem?_cons_succ, Option.some.injEq] at hoi; subst hoi
  go_simp
  go_at_call 47
  refine (OC.out _).mono ?_; rintro e w2 ⟨rfl, rfl⟩
  refine hK.out _ _ (fun _ => trivial) ?_
  clear hK K
  try simp only [Act.put, List.setIfInBounds_toArray, List.set_cons_zero, List.set_cons_succ]
  refine wpAnyS_tk (i := 7) (by as_aux_lemma => kernel_rfl) (by intro c a d v w h; cases d <;> exact h) hSS (fun oi hoi => ?_)
  simp only [List.getElem?_toArray, List.getElem?_cons_zero, List.getElem?_cons_succ, Option.some.injEq] at hoi; subst hoi
  refine ⟨?_, by rfl, fun wx hSx => ?_, ?_⟩
  rotate_left
  · skip
    go_simp
    try with_reducible rfl
  try simp only [Act.put, List.setIfInBounds_toArray, List.set_cons_zero, List.set_cons_succ]
  refine wpAnyS_one (i := 8) (by as_aux_lemma => kernel_rfl) ?_
  intro oi hoi K hK
  simp only [List.getElem?_toArray, List.getElem?_cons_zero, List.getElem?_cons_succ, Option.some.injEq] at hoi; subst hoi
  go_simp
  refine hK.out _ _ (fun _ => trivial) ?_
  clear hK K
  try simp only [Act.put, List.setIfInBounds_toArray, List.set_cons_zero, List.set_cons_succ]
  have H4 := Lib.hid (cb_setreg H3.out HL.out 0 (by omega) u)
  have HL4 : Hid ((s.r.set 0 u).length = 8) := Lib.hid (by rw [List.length_set]; exact HL.out)
  have q1 := cb_reg H4.out HL4.out 1 (by omega)
  have x1 := free_blk (blk_get H4.out) 1
  refine wpAnyS_tk (i := 11) (by as_aux_lemma => kernel_rfl) (by intro c a d v w h; cases d <;> exact h) trivial (fun oi hoi => ?_)
  simp only [List.getElem?_toArray, List.getElem?_cons_zero, List.getElem?_cons_succ, Option.some.injEq] at hoi; subst hoi
  refine ⟨?_, by rfl, fun wx hSx => ?_, ?_⟩
  rotate_left
  · skip
    go_simp
    try with_reducible rfl
  try simp only [Act.put, List.setIfInBounds_toArray, List.set_cons_zero, List.set_cons_succ]
  refine wpAnyS_one (i := 12) (by as_aux_lemma => kernel_rfl) ?_
  intro oi hoi K hK
  simp only [List.getElem?_toArray, List.getElem?_cons_zero, List.getElem?_cons_succ, Option.some.injEq] at hoi; subst hoi
  go_simp
  refine hK.out _ _ (fun h => absurd h (by decide)) ?_
  clear hK K
  try simp only [Act.put, List.setIfInBounds_toArray, List.set_cons_zero, List.set_cons_succ]
  refine wpAnyS_done (by as_aux_lemma => kernel_rfl) ?_ _
  have H5 := Lib.hid (cr_shut (s := { s with asked := false, r := (s.r.set 0 u).set 1 v }) (by show ((s.r.set 0 u).set 1 v).length = 8; rw [List.length_set]; exact HL4.out) HM.out (cb_setreg H4.out HL4.out 1 (by omega) v))
  go_wp2
  go_ret
  exact ⟨rfl, H5.out.drew⟩
end Go.Proofs.YtijkkompnfpdeaaGreatDoor
set_option linter.unusedVariables false
set_option linter.unusedSimpArgs false
namespace Go.Proofs.YtijkkompnfpdeaaGreatDoor
open Go.RowKit Go.Joins Go.Shelf
attribute [local go_sem] Oper.semAt_some

/-- What a step hands back, spelled out. -/
abbrev stX (x : Bool) (a : Ak) (e : Int) : Value := .tuple #[.bool x, .agg #[bv a.what, wv a.h, wv a.v, wv a.m, .int .i64 a.wait], .int .i64 e]
theorem step_e {w0 w : World} {r : List Thing} {b : Nat} {c : List I4} {s t : Cs} {x : Bool} {a : Ak} {f : Int} (E : stepC c s = (t, x, a, f)) (hc : c.all ik = true) (hlen : c.length ≤ 1024) (hs : s.says.length < 256) (H : Hp w0 w (CR b c s :: r)) :
    Calls Tryz.prog 9 #[.pointer (some ⟨b, 0, none⟩)] w fun e w' => e = .returned (stX x a f) ∧ Hp w0 w' (CR b c t :: r) := by
  have h := step_c hc hlen hs H
  rw [E] at h
  exact h
def L5 : List I4 := [(1, 1, 0, 65), (14, 1, 0, 2), (20, 1, 0, 0), (21, 18, 0, 0), (11, 2, 0, 1)]
def S1 : Cs := ⟨[0, 65, 0, 0, 0, 0, 0, 0], 1, [0, 0, 0, 0], [], false⟩
def S2 : Cs := ⟨[0, 65, 0, 0, 0, 0, 0, 0], 2, [0, 0, 65, 0], [], false⟩
def S3 : Cs := ⟨[0, 65, 0, 0, 0, 0, 0, 0], 3, [0, 0, 65, 0], [65], false⟩
def S4 : Cs := ⟨[0, 65, 0, 0, 0, 0, 0, 0], 4, [0, 0, 65, 0], [65], true⟩
def S6 : Cs := ⟨[8, 7, 0, 0, 0, 0, 0, 0], 4, [0, 0, 65, 0], [65], false⟩
theorem E1 : stepC L5 (firstC 4 []) = (S1, false, ak0, 0) := by rfl
theorem E2 : stepC L5 S1 = (S2, false, ak0, 0) := by rfl
theorem E3 : stepC L5 S2 = (S3, false, ak0, 0) := by rfl
theorem E4 : stepC L5 S3 = (S4, true, ⟨18, 0, 65, 0, 0⟩, 0) := by rfl
theorem E5 : stepC L5 S4 = (S4, false, ak0, 7) := by rfl
theorem E6 : answC S4 8 7 = (S6, 0) := by rfl
theorem E7 : stepC L5 S6 = (S6, false, ak0, 15) := by rfl
theorem K5 : imck 4 [] L5 = true := by decide
theorem K5' : L5.all ik = true := by decide
set_option maxHeartbeats 16000000 in
set_option maxRecDepth 20000 in
theorem lives_c (w : World) : Calls Tryz.prog 7 #[] w fun e w' => e = .returned (.bool true) ∧ Below w.heap.size w w' := by
  have H0 := own_lit (n := 5) (size := 4) (e := 26) (cs := #[.int .u8 1, .int .u8 1, .int .u8 0, .int .u8 65, .int .u8 14, .int .u8 1, .int .u8 0, .int .u8 2, .int .u8 20, .int .u8 1, .int .u8 0, .int .u8 0, .int .u8 21, .int .u8 18, .int .u8 0, .int .u8 0, .int .u8 11, .int .u8 2, .int .u8 0, .int .u8 1]) (Hp.start w) rfl (by decide)
  have HC : CellsIn _ _ (ics L5) := CellsIn.own H0
  have NC := Lib.hid (new_y 4 none (some ⟨w.heap.size, 0, none⟩) 0 5 [] L5 K5 (CellsIn.nil _ _) HC H0)
  have HW := Lib.hid H0
  clear H0 HC
  go_enter Tryz.func7, Tryz.ntmps7
  go_wp2_with fail
  refine NC.out.mono ?_; rintro e w1 ⟨b, rfl, H1'⟩
  have H1 := Lib.hid H1'
  clear NC HW H1'
  go_wp2_with fail
  refine (step_e E1 K5' (by decide) (by decide) H1.out).mono ?_; rintro e w2 ⟨rfl, H2'⟩
  have H2 := Lib.hid H2'
  clear H1 H2'
  go_wp2_with fail
  refine (step_e E2 K5' (by decide) (by decide) H2.out).mono ?_; rintro e w3 ⟨rfl, H3'⟩
  have H3 := Lib.hid H3'
  clear H2 H3'
  go_wp2_with fail
  refine (step_e E3 K5' (by decide) (by decide) H3.out).mono ?_; rintro e w4 ⟨rfl, H4'⟩
  have H4 := Lib.hid H4'
  clear H3 H4'
  go_wp2_with fail
  refine (step_e E4 K5' (by decide) (by decide) H4.out).mono ?_; rintro e w5 ⟨rfl, H5'⟩
  have H5 := Lib.hid H5'
  clear H4 H5'
  go_wp2_with fail
  have HA := (blk_new H5.out (.cells #[.int .u8 18, .int .u32 0, .int .u32 65, .int .u32 0, .int .i64 0] 37)).up1
  generalize w5.heap.size = ab at *
  refine (step_e E5 K5' (by decide) (by decide) HA).mono ?_; rintro e w6 ⟨rfl, H6'⟩
  have H6 := Lib.hid H6'
  clear H5 HA H6'
  go_wp2_with fail
  refine (answer_y (s := S4) rfl 8 7 (H6.out.alloc _)).mono ?_; rintro e w7 ⟨rfl, H7'⟩
  rw [E6] at H7'
  have H7 := Lib.hid H7'
  clear H6 H7'
  go_wp2_with fail
  refine (regs_of (s := S6) 8 7 0 0 0 0 0 0 rfl H7.out).mono ?_; intro e w8 hp
  obtain ⟨rfl, H8'⟩ : e = .returned (.agg #[wv 8, wv 7, wv 0, wv 0, wv 0, wv 0, wv 0, wv 0]) ∧ _ := hp
  have H8 := Lib.hid H8'
  clear H7 H8'
  go_wp2_with fail
  have HB := (blk_new H8.out (.cells #[wv 8, wv 7, wv 0, wv 0, wv 0, wv 0, wv 0, wv 0] 40)).up1
  generalize w8.heap.size = rb at *
  refine (step_e E7 K5' (by decide) (by decide) HB).mono ?_; rintro e w9 ⟨rfl, H9'⟩
  have H9 := Lib.hid H9'
  clear H8 HB H9'
  go_upto_region 13 with fail
  have H10 := Lib.hid (H9.out.alloc (.cells #[bv ak0.what, wv ak0.h, wv ak0.v, wv ak0.m, .int .i64 ak0.wait] 37))
  generalize w9.alloc _ = W at *
  clear H9
  have hb1 := blk_get (H10.out.pull 1 rfl)
  have hb2 := blk_get (H10.out.pull 2 rfl)
  have q0 : W.cell? ⟨ab, 0, none⟩ = some (.int .u8 18) := cell_blk hb2 0
  have q1 : W.cell? ⟨ab, 1, none⟩ = some (.int .u32 0) := cell_blk hb2 1
  have q2 : W.cell? ⟨ab, 2, none⟩ = some (.int .u32 65) := cell_blk hb2 2
  have q3 : W.cell? ⟨ab, 3, none⟩ = some (.int .u32 0) := cell_blk hb2 3
  have q4 : W.cell? ⟨ab, 4, none⟩ = some (.int .i64 0) := cell_blk hb2 4
  have r0 : W.cell? ⟨rb, 0, none⟩ = some (wv 8) := cell_blk hb1 0
  have r1 : W.cell? ⟨rb, 1, none⟩ = some (wv 7) := cell_blk hb1 1
  clear hb1 hb2
  have he : ∀ w, (binOp .eql 37 (.agg #[.int .u8 18, .int .u32 0, .int .u32 65, .int .u32 0, .int .i64 0]) (.agg #[.int .u8 18, .int .u32 0, .int .u32 65, .int .u32 0, .int .i64 0])).run Tryz.prog w = .ok (.bool true) w := fun w => by kernel_rfl
  have BC := Lib.hid (bytes_of H10.out)
  go_wp2_with fail
  refine BC.out.mono ?_; rintro e wa ⟨v, rfl, HA⟩
  obtain ⟨a, n, rfl⟩ := own_slice HA
  have HB := own_lit (n := 4) (size := 1) (e := 5) (cs := #[.int .u8 0, .int .u8 0, .int .u8 65, .int .u8 0]) HA rfl (by decide)
  have SC := Lib.hid (same_bytes a (some ⟨wa.heap.size, 0, none⟩) n 4 [0, 0, 65, 0] [0, 0, 65, 0] _ (CellsIn.own (HB.pull 1 rfl)) (CellsIn.own HB) (by decide) (by decide))
  have H11 := Lib.hid (HB.pull 2 rfl)
  clear HA HB BC H10
  go_wp2_with fail
  refine SC.out.mono ?_; intro e wb hp
  obtain ⟨rfl, hb⟩ : e = .returned (.bool true) ∧ _ := hp
  have H12 := Lib.hid (H11.out.below_read hb)
  clear hb SC H11
  go_wp2_with fail
  refine (console_of H12.out).mono ?_; intro e wc hp
  obtain ⟨rfl, H13'⟩ : e = .returned (.string ⟨#[65]⟩) ∧ _ := hp
  have H13 := Lib.hid H13'
  clear H12 H13'
  go_wp2_with fail
  refine (answer_nil 0 0 _).mono ?_; rintro e wd ⟨rfl, rfl⟩
  go_wp2
  go_ret
  exact ⟨rfl, H13.out.below⟩
end Go.Proofs.YtijkkompnfpdeaaGreatDoor
set_option linter.unusedVariables false
set_option linter.unusedSimpArgs false
namespace Go.Proofs.YtijkkompnfpdeaaGreatDoor
open Go.RowKit Go.Joins Go.Shelf
attribute [local go_sem] Oper.semAt_some

theorem u32_of (n : Int) : ((UInt32.ofNat (n % 4294967296).toNat).toNat : Int) = n % 4294967296 := by
  rw [UInt32.toNat_ofNat', Nat.mod_eq_of_lt (by omega)]; omega
theorem tmod_pos {n m : Int} (h : 0 ≤ n) : n.tmod m = n % m := Int.tmod_eq_emod_of_nonneg h
set_option maxHeartbeats 2000000 in
set_option maxRecDepth 20000 in
theorem rof_p (n : Int) (h : 0 ≤ n) (w : World) : Calls Tryz.prog 105 #[.int .i64 n] w fun e w' => e = .returned (wv (UInt32.ofNat (n % 4294967296).toNat)) ∧ w' = w := by
  have e1 := tmod_pos (m := 4294967296) h
  have e2 : ¬ n % 4294967296 < 0 := by omega
  have e3 : IntKind.u32.wrap (n % 4294967296) = n % 4294967296 := by rw [IntKind.wrap_u32]; omega
  have hu := u32_of n
  generalize UInt32.ofNat (n % 4294967296).toNat = u at *
  generalize n % 4294967296 = r at *
  rw [← hu] at e1 e2 e3
  clear hu h
  go_enter Tryz.func105, Tryz.ntmps105
  go_wp2
  go_ret
  exact ⟨rfl, rfl⟩
set_option maxHeartbeats 2000000 in
set_option maxRecDepth 20000 in
theorem rof_n (n : Int) (h : n < 0) (h2 : -4294967296 < n) (w : World) : Calls Tryz.prog 105 #[.int .i64 n] w fun e w' => e = .returned (wv (UInt32.ofNat (n % 4294967296).toNat)) ∧ w' = w := by
  have e1 : n.tmod 4294967296 = n := by
    have h3 : (-n).tmod 4294967296 = -n := by rw [tmod_pos (by omega)]; omega
    have h4 := Int.neg_tmod (-n) 4294967296
    rw [Int.neg_neg, h3, Int.neg_neg] at h4
    exact h4
  have hu := u32_of n
  have e2 : n < 0 := h
  have e4 : n + 4294967296 = n % 4294967296 := by omega
  have e5 : IntKind.i64.wrap (n + 4294967296) = n % 4294967296 := by rw [IntKind.wrap_i64]; omega
  have e3 : IntKind.u32.wrap (n % 4294967296) = n % 4294967296 := by rw [IntKind.wrap_u32]; omega
  generalize UInt32.ofNat (n % 4294967296).toNat = u at *
  generalize n % 4294967296 = r at *
  rw [← hu] at e5 e3
  clear hu h e4 h2
  go_enter Tryz.func105, Tryz.ntmps105
  go_wp2
  go_ret
  exact ⟨rfl, rfl⟩
set_option maxHeartbeats 2000000 in
set_option maxRecDepth 20000 in
theorem rsigned_c (a : UInt32) (w : World) : Calls Tryz.prog 45 #[wv a] w fun e w' => e = .returned (.int .i64 (sg a)) ∧ w' = w := by
  have ha := a.toNat_lt
  have q1 : IntKind.i64.wrap (a.toNat : Int) = (a.toNat : Int) := by rw [IntKind.wrap_i64]; omega
  by_cases h : a.toNat < 2147483648
  · have e : sg a = (a.toNat : Int) := by unfold sg; rw [if_pos h]
    have q2 : ¬ (2147483648 : Int) ≤ (a.toNat : Int) := by omega
    rw [e]
    clear e h ha
    go_enter Tryz.func45, Tryz.ntmps45
    go_wp2
    go_ret
    exact ⟨rfl, rfl⟩
  · have e : sg a = (a.toNat : Int) - 4294967296 := by unfold sg; rw [if_neg h]
    have q2 : (2147483648 : Int) ≤ (a.toNat : Int) := by omega
    have q3 : IntKind.i64.wrap ((a.toNat : Int) - 4294967296) = sg a := by rw [e, IntKind.wrap_i64]; omega
    generalize sg a = s at *
    clear e h ha
    go_enter Tryz.func45, Tryz.ntmps45
    go_wp2
    go_ret
    exact ⟨rfl, rfl⟩
/-! ### Holds. -/
set_option maxHeartbeats 4000000 in
set_option maxRecDepth 20000 in
theorem rholds_15 (a b : UInt32) (w : World) :
    Calls Tryz.prog 44 #[.int .u8 15, wv a, wv b] w fun e w' => e = .returned (.tuple #[.bool (a == b), .int .i64 0]) ∧ w' = w := by
  have h1 := eq_u32 a b
  generalize hk : (a == b) = k at *
  have HK := Lib.hid hk
  clear hk
  go_enter Tryz.func44, Tryz.ntmps44
  go_wp2
  go_ret2
  exact ⟨by first | rfl | (rw [← HK.out]; first | rfl | simp [bne, h1]), rfl⟩
set_option maxHeartbeats 4000000 in
set_option maxRecDepth 20000 in
theorem rholds_16 (a b : UInt32) (w : World) :
    Calls Tryz.prog 44 #[.int .u8 16, wv a, wv b] w fun e w' => e = .returned (.tuple #[.bool (a != b), .int .i64 0]) ∧ w' = w := by
  have h1 := eq_u32 a b
  generalize hk : (a != b) = k at *
  have HK := Lib.hid hk
  clear hk
  go_enter Tryz.func44, Tryz.ntmps44
  go_wp2
  go_ret2
  exact ⟨by first | rfl | (rw [← HK.out]; first | rfl | simp [bne, h1]), rfl⟩
set_option maxHeartbeats 4000000 in
set_option maxRecDepth 20000 in
theorem rholds_17 (a b : UInt32) (w : World) :
    Calls Tryz.prog 44 #[.int .u8 17, wv a, wv b] w fun e w' => e = .returned (.tuple #[.bool (decide (sg a < sg b)), .int .i64 0]) ∧ w' = w := by
  have SA := Lib.hid (fun W => rsigned_c a W)
  have SB := Lib.hid (fun W => rsigned_c b W)
  generalize hk : (decide (sg a < sg b)) = k at *
  have HK := Lib.hid hk
  clear hk
  generalize sg a = x at *
  generalize sg b = y at *
  go_enter Tryz.func44, Tryz.ntmps44
  go_wp2_with fail
  refine (SA.out _).mono ?_; rintro e w2 ⟨rfl, rfl⟩
  go_wp2_with fail
  refine (SB.out _).mono ?_; rintro e w3 ⟨rfl, rfl⟩
  clear SA SB
  go_wp2
  go_ret2
  exact ⟨by first | rfl | (rw [← HK.out]; first | rfl | simp [bne, h1]), rfl⟩
set_option maxHeartbeats 4000000 in
set_option maxRecDepth 20000 in
theorem rholds_18 (a b : UInt32) (w : World) :
    Calls Tryz.prog 44 #[.int .u8 18, wv a, wv b] w fun e w' => e = .returned (.tuple #[.bool (decide (a.toNat < b.toNat)), .int .i64 0]) ∧ w' = w := by
  have h1 := lt_u32 a b
  generalize hk : (decide (a.toNat < b.toNat)) = k at *
  have HK := Lib.hid hk
  clear hk
  go_enter Tryz.func44, Tryz.ntmps44
  go_wp2
  go_ret2
  exact ⟨by first | rfl | (rw [← HK.out]; first | rfl | simp [bne, h1]), rfl⟩
/-! ### Do. -/
set_option maxHeartbeats 2000000 in
set_option maxRecDepth 20000 in
theorem rbit_c (a : UInt32) (i : Nat) (hi : i < 32) (w : World) : Calls Tryz.prog 133 #[wv a, .int .i64 (i : Int)] w fun e w' => e = .returned (.int .i64 ((a.toNat / 2 ^ i % 2 : Nat) : Int)) ∧ w' = w := by
  have q1 : IntKind.u64.wrap (i : Int) = (i : Int) := by rw [IntKind.wrap_u64]; omega
  have q2 : (a.toNat : Int) / 2 ^ i = ((a.toNat / 2 ^ i : Nat) : Int) := by simp
  have hle : a.toNat / 2 ^ i ≤ a.toNat := Nat.div_le_self _ _
  have := a.toNat_lt
  generalize a.toNat / 2 ^ i = y at *
  have q3 : IntKind.i64.wrap (y : Int) = (y : Int) := by rw [IntKind.wrap_i64]; omega
  have q4 : ((y : Int)).tmod 2 = ((y % 2 : Nat) : Int) := by rw [tmod_pos (by omega)]; omega
  generalize y % 2 = z at *
  have q5 : ¬ (i : Int) < 0 := by omega
  have hmin : min i 32 = i := by omega
  clear hle this hi
  go_enter Tryz.func133, Tryz.ntmps133
  go_wp2
  go_ret
  exact ⟨rfl, rfl⟩
theorem half (c i : Nat) : c / 2 ^ i = 2 * (c / 2 ^ (i + 1)) + c / 2 ^ i % 2 := by
  rw [Nat.pow_succ, ← Nat.div_div_eq_div_mul]; omega
set_option maxHeartbeats 4000000 in
set_option maxRecDepth 20000 in
theorem rbits_c (a b c : UInt32) (g : Nat) (w : World) (hc : ∀ i, i < 32 → w.cell? ⟨g, a.toNat / 2 ^ i % 2 + b.toNat / 2 ^ i % 2, none⟩ = some (.int .i64 ((c.toNat / 2 ^ i % 2 : Nat) : Int))) :
    Calls Tryz.prog 106 #[wv a, wv b, .slice (some ⟨g, 0, none⟩) 3 3] w fun e w' => e = .returned (wv c) ∧ w' = w := by
  have HC := Lib.hid hc
  have hl := c.toNat_lt
  have h0 : c.toNat / 2 ^ 32 = 0 := Nat.div_eq_of_lt (by omega)
  have OC := Lib.hid (rof_p (c.toNat : Int) (by omega) w)
  have HU : Hid (UInt32.ofNat ((c.toNat : Int) % 4294967296).toNat = c) := Lib.hid (by apply UInt32.toNat_inj.1; have := u32_of (c.toNat : Int); omega)
  have HL := Lib.hid hl
  clear hc hl
  go_enter Tryz.func106, Tryz.ntmps106
  go_wp2
  go_loopw [7, 8] (fun s7 s8 wr => ∃ j : Nat, j ≤ 32 ∧ s7 = .int .i64 ((c.toNat / 2 ^ j : Nat) : Int) ∧ s8 = .int .i64 ((j : Int) - 1) ∧ wr = w) (fun _ s8 _ => (intOf s8 + 1).toNat)
  case atStart => exact ⟨32, by omega, by rw [h0]; rfl, rfl, rfl⟩
  case round =>
    obtain ⟨j, hj, rfl, rfl, rfl⟩ := hrel
    clear h0
    cases j with
    | zero =>
      have t1 : ¬ (0 : Int) ≤ ((0 : Nat) : Int) - 1 := by omega
      rw [show c.toNat / 2 ^ 0 = c.toNat by simp]
      clear hj
      go_wp2_with fail
      refine OC.out.mono ?_; rintro e w2 ⟨rfl, rfl⟩
      rw [HU.out]
      go_wp2
      go_ret
      exact ⟨rfl, rfl⟩
    | succ i =>
      rw [show (((i + 1 : Nat) : Int) - 1) = (i : Int) by omega]
      have t1 : (0 : Int) ≤ (i : Int) := by omega
      have cc := HC.out i (by omega)
      have hh := half c.toNat i
      have BA := Lib.hid (fun W => rbit_c a i (by omega) W)
      have BB := Lib.hid (fun W => rbit_c b i (by omega) W)
      have l1 : c.toNat / 2 ^ i ≤ c.toNat := Nat.div_le_self _ _
      have l2 := HL.out
      have x1 : a.toNat / 2 ^ i % 2 < 2 := Nat.mod_lt _ (by omega)
      have x2 : b.toNat / 2 ^ i % 2 < 2 := Nat.mod_lt _ (by omega)
      generalize a.toNat / 2 ^ i % 2 = x at *
      generalize b.toNat / 2 ^ i % 2 = y at *
      generalize c.toNat / 2 ^ i % 2 = z at *
      have hq : ∃ q, q = c.toNat / 2 ^ i := ⟨_, rfl⟩
      generalize hqq : c.toNat / 2 ^ i = q at *
      have HQ := Lib.hid hqq
      clear hq hqq
      generalize c.toNat / 2 ^ (i + 1) = p at *
      have y1 : IntKind.i64.wrap (2 * (p : Int)) = 2 * (p : Int) := by rw [IntKind.wrap_i64]; omega
      have y2 : IntKind.i64.wrap ((x : Int) + (y : Int)) = (x : Int) + (y : Int) := by rw [IntKind.wrap_i64]; omega
      have y3 : IntKind.i64.wrap (2 * (p : Int) + (z : Int)) = (q : Int) := by rw [IntKind.wrap_i64]; omega
      have y4 : IntKind.i64.wrap ((i : Int) - 1) = (i : Int) - 1 := by rw [IntKind.wrap_i64]; omega
      have y5 : (x : Int) + (y : Int) < 3 := by omega
      have y6 : ((x : Int) + (y : Int)).toNat = x + y := by omega
      have y7 : 0 ≤ (x : Int) + (y : Int) := by omega
      clear hh l1 l2 x1 x2
      go_wp2_with fail
      refine (BA.out _).mono ?_; rintro e w2 ⟨rfl, rfl⟩
      go_wp2_with fail
      refine (BB.out _).mono ?_; rintro e w3 ⟨rfl, rfl⟩
      clear BA BB
      go_wp2
      go_roundw
      case rel => exact ⟨i, by omega, by rw [HQ.out], rfl, by trivial⟩
      case measure => first | (simp [intOf]; done) | (simp [intOf]; omega)
end Go.Proofs.YtijkkompnfpdeaaGreatDoor
