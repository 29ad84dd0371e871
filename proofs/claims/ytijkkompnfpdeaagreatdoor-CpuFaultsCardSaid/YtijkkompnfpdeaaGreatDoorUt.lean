/- Cores: any step; made; what one has, handed out; an answer: walked. -/
import Derived.Test.YtijkkompnfpdeaaGreatDoorUq
import Derived.Test.YtijkkompnfpdeaaGreatDoorUs
import Derived.Test.YtijkkompnfpdeaaGreatDoorLc
set_option linter.unusedVariables false
set_option linter.unusedSimpArgs false
namespace Go.Proofs.YtijkkompnfpdeaaGreatDoor
open Go.RowKit Go.Joins Go.Shelf
attribute [local go_sem] Oper.semAt_some

/-- Any step. -/
theorem step_c {w0 w : World} {r : List Thing} {b : Nat} {c : List I4} {s : Cs} (hc : c.all ik = true) (hlen : c.length ≤ 1024) (hs : s.says.length < 256) (H : Hp w0 w (CR b c s :: r)) :
    Calls Tryz.prog 9 #[.pointer (some ⟨b, 0, none⟩)] w fun e w' => e = .returned (stV (stepC c s).2.1 (stepC c s).2.2.1 (stepC c s).2.2.2) ∧ Hp w0 w' (CR b c (stepC c s).1 :: r) := by
  unfold stepC
  cases ha : s.asked with
  | true => simp only [if_true]; exact step_asked ha H
  | false =>
    simp only [Bool.false_eq_true, if_false]
    by_cases h0 : s.at_ < 0
    · rw [dif_neg (by omega)]; exact step_low ha h0 H
    · by_cases h1 : (c.length : Int) ≤ s.at_
      · rw [dif_neg (by omega)]; exact step_high ha h0 h1 H
      · rw [dif_pos (by omega)]
        have hlt : s.at_.toNat < c.length := by omega
        have hk : s.at_ = (s.at_.toNat : Int) := by omega
        have hik : ik c[s.at_.toNat] = true := List.all_eq_true.1 hc _ (List.getElem_mem hlt)
        generalize hx : c[s.at_.toNat] = x at *
        obtain ⟨o, x, y, z⟩ := x
        have R := ik_regs hik
        simp only []
        by_cases h21 : 21 ≤ o.toNat
        · rw [if_pos h21]
          by_cases h22 : o.toNat = 22
          · have e : askC (o, x, y, z) s = { ak0 with what := 20 } := by simp [askC, h22]
            simp only [e]
            exact step_end ha _ hk hlt hlen o x y z hx h22 H
          · have e : askC (o, x, y, z) s = ⟨x, s.r.getD 0 0, s.r.getD 1 0, s.r.getD 2 0, sg (s.r.getD 3 0)⟩ := by unfold askC; rw [if_neg h22]
            simp only [e]
            exact step_ask ha _ hk hlt hlen o x y z hx (by have := R.ra; omega) _ _ _ _ rfl rfl rfl rfl H
        · rw [if_neg h21]
          cases hd : doesC (o, x, y, z) s with
          | some q =>
            obtain ⟨t, d⟩ := q
            exact step_do ha _ hk hlt hlen o x y z hx hik (by omega) hs t d hd H
          | none => exact step_fault ha _ hk hlt hlen o x y z hx hik (by omega) hs hd H
theorem regs_info : (Tryz.prog.info? 40).map (·.size) = some 8 := by kernel_rfl
theorem coreL_first (n : Nat) (d : List UInt8) (rb : Nat) (vc : Value) : #[Value.int .u32 0, .int .u32 0, .int .u32 0, .int .u32 0, .int .u32 0, .int .u32 0, .int .u32 0, .int .u32 0, .int .i64 0, .pointer (some ⟨rb, 0, none⟩), vc, .slice none 0 0, .bool false] = (coreL (firstC n d) rb vc (.slice none 0 0)).toArray := rfl
def NewP (w0 : World) (r : List Thing) (c : List I4) (s : Cs) (e : Ending) (w' : World) : Prop := ∃ b, e = .returned (.tuple #[.pointer (some ⟨b, 0, none⟩), .int .i64 0]) ∧ Hp w0 w' (CR b c s :: r)
theorem NewP.mk' {w0 : World} {r : List Thing} {c : List I4} {s : Cs} {e : Ending} {w' : World} (b : Nat) (h1 : e = .returned (.tuple #[.pointer (some ⟨b, 0, none⟩), .int .i64 0])) (h2 : Hp w0 w' (CR b c s :: r)) : NewP w0 r c s e w' := ⟨b, h1, h2⟩
theorem oneCell_ics : ∀ (c : List I4), ∀ u ∈ ics c, u.oneCell' = true
  | [], u, h => by simp [ics] at h
  | x :: c, u, h => by
    simp only [ics, List.flatMap_cons, List.mem_append] at h
    rcases h with h | h
    · simp [i4c] at h; rcases h with rfl | rfl | rfl | rfl <;> rfl
    · exact oneCell_ics c u h
set_option maxHeartbeats 4000000 in
set_option maxRecDepth 20000 in
theorem new_y {w0 w : World} {r : List Thing} (n : Nat) (ad ac : Option Addr) (dc cc : Nat) (d : List UInt8) (c : List I4) (hk : imck n d c = true) (hd : CellsIn w ad (d.map bv)) (hc : CellsIn w ac (ics c)) (H : Hp w0 w r) :
    Calls Tryz.prog 8 #[imV n ad d.length dc ac c.length cc] w (NewP w0 r c (firstC n d)) := by
  have hb := hk
  unfold imck at hb
  simp only [Bool.and_eq_true, decide_eq_true_eq] at hb
  obtain ⟨⟨b1, b2, b3, b4⟩, _⟩ := hb
  have H1 := blk_new H (.cells #[.int .i64 (n : Int), .slice ad d.length dc, .slice ac c.length cc] 29)
  have hB : Below w.heap.size w (w.alloc (.cells #[.int .i64 (n : Int), .slice ad d.length dc, .slice ac c.length cc] 29)) := (Below.refl _ w).alloc (Nat.le_refl _) _
  have CK := Lib.hid (imcheck_c (n : Int) ad ac dc cc d c _ (hc.below hB))
  rw [hk] at CK
  have HD := Lib.hid (hd.below hB)
  have HC := Lib.hid (hc.below hB)
  have HB := Lib.hid (show n ≤ 4096 ∧ d.length ≤ n ∧ c.length ≤ 1024 from ⟨by omega, by omega, b4⟩)
  have HH := Lib.hid H1
  clear hB b1 b2 b3 b4 hk hd hc H H1
  go_enter Tryz.func8, Tryz.ntmps8
  go_upto_region 1 with fail
  generalize w.heap.size = xb at *
  generalize (w.alloc _) = w1 at *
  have x0 : w1.cell? ⟨xb, 0, none⟩ = _ := cell_blk (blk_get HH.out) 0
  have x1 : w1.cell? ⟨xb, 1, none⟩ = _ := cell_blk (blk_get HH.out) 1
  have x2 : w1.cell? ⟨xb, 2, none⟩ = _ := cell_blk (blk_get HH.out) 2
  go_wp2_with fail
  refine CK.out.mono ?_; rintro e w2 ⟨rfl, hb⟩
  have H2 := Lib.hid (HH.out.below_read hb)
  have HD2 := Lib.hid (HD.out.below hb)
  have HC2 := Lib.hid (HC.out.below hb)
  clear hb CK HH HD HC x0 x1 x2
  have x0 : w2.cell? ⟨xb, 0, none⟩ = _ := cell_blk (blk_get H2.out) 0
  have x1 : w2.cell? ⟨xb, 1, none⟩ = _ := cell_blk (blk_get H2.out) 1
  have x2 : w2.cell? ⟨xb, 2, none⟩ = _ := cell_blk (blk_get H2.out) 2
  go_wp2_with fail
  refine (rnew_c n ad dc d HB.out.1 HB.out.2.1 HD2.out (Hp.start w2)).mono ?_; rintro e w3 ⟨rb, mb, rfl, H3'⟩
  have H3 : Hid (Hp w0 w3 (MB mb (d ++ List.replicate (n - d.length) 0) :: RGN rb mb n :: Blk xb _ :: r)) := Lib.hid (H2.out.lift H3')
  have HC3 := Lib.hid (HC2.out.below H3'.below)
  clear H3' H2 HD2 HC2 x0 x1 x2
  have x2 : w3.cell? ⟨xb, 2, none⟩ = _ := cell_blk (blk_get (H3.out.pull 2 rfl)) 2
  go_wp2_with fail
  refine (clone_i ac cc c.length (ics c) (by have := HB.out.2.2; omega) (ics_len c) HC3.out (oneCell_ics c) H3.out).mono ?_; rintro e w4 ⟨v, rfl, H4⟩
  obtain ⟨av, cv, rfl⟩ := own_slice H4
  have H5 := blk_new (own_nil H4 5 1) (.cells #[Value.int .u32 0, .int .u32 0, .int .u32 0, .int .u32 0, .int .u32 0, .int .u32 0, .int .u32 0, .int .u32 0, .int .i64 0, .pointer (some ⟨rb, 0, none⟩), .slice av c.length cv, .slice none 0 0, .bool false] 79)
  have hl : (firstC n d).mem.length = n := firstC_mem HB.out.2.1
  have H6 := (((((H5.pull 1 rfl).pull 2 rfl).pull 4 rfl).pull 4 rfl).pull 4 rfl)
  have H7 := Lib.hid ((cr_shut (r := Blk xb (.cells #[.int .i64 (n : Int), .slice ad d.length dc, .slice ac c.length cc] 29 (0, 0)) :: r) (b := w4.heap.size) (rb := rb) (mb := mb) (c := c) (vc := .slice av c.length cv) (vs := .slice none 0 0) (s := firstC n d) (by rfl) (by rw [hl]; exact HB.out.1) (by rw [hl]; exact H6)).up1.tail)
  clear H6 H5 H4 H3 HC3 x2
  go_wp2
  go_ret2
  exact NewP.mk' _ rfl H7.out
end Go.Proofs.YtijkkompnfpdeaaGreatDoor
