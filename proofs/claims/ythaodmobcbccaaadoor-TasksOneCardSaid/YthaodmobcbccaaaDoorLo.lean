/- TasksOne: the walk. -/
import Derived.Test.YthaodmobcbccaaaDoorLt
set_option linter.unusedVariables false
set_option linter.unusedSimpArgs false
namespace Go.Proofs.YthaodmobcbccaaaDoor
open Go.RowKit Go.Shelf
attribute [local go_sem] Oper.semAt_some

/-- The one kind of which it may be asked; 1000: of none. -/
def kd (what : Int) : Nat :=
  if what = 3 ∨ what = 4 then 1 else if what = 5 ∨ what = 6 then 2 else if what = 7 ∨ what = 8 ∨ what = 9 ∨ what = 10 then 3 else if what = 11 ∨ what = 12 ∨ what = 13 then 4 else if what = 14 ∨ what = 15 then 5 else if what = 16 ∨ what = 17 then 6 else 1000
theorem fits_kd (what : Int) (k : Nat) (hk : k < 256) : fits what k = decide (k = kd what) := by
  rw [fits_eq, decide_eq_decide]
  unfold kd
  repeat' split
  all_goals omega
theorem kd_blk {what wait : Int} (h : ¬ kd what < 256) : blk what wait = false ∨ what = 2 := by
  by_cases h2 : what = 2
  · exact Or.inr h2
  · left
    unfold blk
    rw [decide_eq_false_iff_not]
    rintro ⟨_, hm⟩
    apply h
    simp at hm
    unfold kd
    repeat' split
    all_goals omega
def one (what : Int) (k : Nat) : Nat := if kd what < k then 1 else 0
theorem one_yes {what : Int} {k : Nat} (hk : k < 256) (h : fits what k = true) : one what k = 0 ∧ one what (k + 1) = 1 := by
  rw [fits_kd what k hk, decide_eq_true_eq] at h
  unfold one
  exact ⟨if_neg (by omega), if_pos (by omega)⟩
theorem one_no {what : Int} {k : Nat} (hk : k < 256) (h : fits what k = false) : one what (k + 1) = one what k := by
  rw [fits_kd what k hk, decide_eq_false_iff_not] at h
  unfold one
  by_cases h2 : kd what < k
  · rw [if_pos h2, if_pos (by omega)]
  · rw [if_neg h2, if_neg (by omega)]
theorem one_zero (what : Int) : one what 0 = 0 := if_neg (by omega)
theorem one_end (what wait : Int) : one what 256 = 1 ∨ (one what 256 = 0 ∧ (blk what wait = false ∨ what = 2)) := by
  unfold one
  by_cases h : kd what < 256
  · rw [if_pos h]; exact Or.inl rfl
  · rw [if_neg h]; exact Or.inr ⟨rfl, kd_blk h⟩

set_option maxHeartbeats 2000000 in
set_option maxRecDepth 20000 in
theorem one_c (w : World) (wh wH wV wM ww : Int) (ht : Tb w.heap.size w) :
    Calls Tryd.prog 6 #[.agg #[.int .u8 wh, .int .u32 wH, .int .u32 wV, .int .u32 wM, .int .i64 ww]] w fun e w' => e = .returned (.bool true) ∧ Below w.heap.size w w' := by
  have TB := Lib.hid ht
  have HC := Lib.hid (fun w => blocks_c w wh wH wV wM ww)
  have HT := Lib.hid (fun w k => fits_c w wh wH wV wM ww k)
  have H0 := Lib.hid (one_zero wh)
  have HY := Lib.hid (fun k (hk : k < 256) => @one_yes wh k hk)
  have HN := Lib.hid (fun k (hk : k < 256) => @one_no wh k hk)
  have HE := Lib.hid (one_end wh ww)
  generalize one wh = on at *
  clear ht
  go_enter Tryd.func6, Tryd.ntmps6
  go_upto_region 3 with fail
  have G := Lib.hid (Below.refl (w.heap.size + 1) (w.alloc (.cells #[.int .u8 wh, .int .u32 wH, .int .u32 wV, .int .u32 wM, .int .i64 ww] 26)))
  have GL := Lib.hid (show w.heap.size + 1 ≤ (w.alloc (.cells #[.int .u8 wh, .int .u32 wH, .int .u32 wV, .int .u32 wM, .int .i64 ww] 26)).heap.size by rw [sz]; exact Nat.le_refl _)
  have WB := Lib.hid (box_below w (.cells #[.int .u8 wh, .int .u32 wH, .int .u32 wV, .int .u32 wM, .int .i64 ww] 26))
  have KP := Lib.hid (show ∀ x, Below (w.heap.size + 1) (w.alloc (.cells #[.int .u8 wh, .int .u32 wH, .int .u32 wV, .int .u32 wM, .int .i64 ww] 26)) x → ∀ o, x.cell? ⟨w.heap.size, o, none⟩ = (#[.int .u8 wh, .int .u32 wH, .int .u32 wV, .int .u32 wM, .int .i64 ww] : Array Value)[o]? from fun x hx o => by rw [hx.cell (p := ⟨w.heap.size, o, none⟩) (Nat.lt_succ_self _), box_cell])
  generalize (w.alloc (.cells #[.int .u8 wh, .int .u32 wH, .int .u32 wV, .int .u32 wM, .int .i64 ww] 26)) = w1 at *
  have TB1 := Lib.hid (show ∀ x, Below (w.heap.size + 1) w1 x → Tb w.heap.size x from fun x hx => TB.out.on (WB.out.trans (hx.mono (Nat.le_succ _))))
  have LE := Lib.hid (show ∀ x, Below (w.heap.size + 1) w1 x → w.heap.size ≤ x.heap.size from fun x hx => Nat.le_of_succ_le (Nat.le_trans GL.out hx.size))
  go_wp2
  go_loopw [3, 4] (fun n i wr => ∃ k c : Nat, k ≤ 256 ∧ n = .int .i64 c ∧ i = .int .i64 k ∧ Hid (on k = c) ∧ Hid (Below (w.heap.size + 1) w1 wr)) (fun _ i _ => 256 - (intOf i).toNat)
  case atStart => exact ⟨0, 0, by omega, rfl, rfl, Lib.hid H0.out, G⟩
  case round =>
    obtain ⟨k, c, hk, rfl, rfl, hc, hG⟩ := hrel
    have k0 := KP.out _ hG.out 0
    have k1 := KP.out _ hG.out 1
    have k2 := KP.out _ hG.out 2
    have k3 := KP.out _ hG.out 3
    have k4 := KP.out _ hG.out 4
    by_cases h256 : k = 256
    · subst h256
      have hend := HE.out
      rw [hc.out] at hend
      have hL := LE.out _ hG.out
      have hTB := TB1.out _ hG.out
      have gb := Lib.hid (WB.out.trans (hG.out.mono (Nat.le_succ _)))
      rcases hend with h1 | ⟨h1, h2⟩
      · subst h1
        have HL := Lib.hid hL
        have HTB := Lib.hid hTB
        clear hL hTB
        go_wp2_with fail
        refine (lives_c w.heap.size _ HL.out HTB.out).mono ?_; rintro e w' ⟨rfl, hb⟩
        go_wp2
        go_ret
        exact ⟨rfl, gb.out.trans (hb.mono HL.out)⟩
      · subst h1
        have HL := Lib.hid hL
        have HTB := Lib.hid hTB
        have H2 := Lib.hid h2
        clear hL hTB h2
        go_wp2_with fail
        refine (HC.out _).mono ?_; rintro e w' ⟨rfl, hb⟩
        have k0 := (KP.out _ (gup hG.out GL.out hb) 0)
        have gb2 := Lib.hid (gb.out.trans (hb.mono HL.out))
        have HTB2 := Lib.hid (HTB.out.on (hb.mono HL.out))
        have HL2 := Lib.hid (Nat.le_trans HL.out hb.size)
        clear hb k1 k2 k3 k4
        generalize blk wh ww = bb at *
        by_cases hb2 : bb = false
        · subst hb2
          go_wp2_with fail
          refine (lives_c w.heap.size _ HL2.out HTB2.out).mono ?_; rintro e w3 ⟨rfl, hb⟩
          go_wp2
          go_ret
          exact ⟨rfl, gb2.out.trans (hb.mono HL2.out)⟩
        · have hb3 : bb = true := by simpa using hb2
          have hw : wh = 2 := H2.out.resolve_left hb2
          subst hb3
          subst hw
          go_wp2_with fail
          refine (lives_c w.heap.size _ HL2.out HTB2.out).mono ?_; rintro e w3 ⟨rfl, hb⟩
          go_wp2
          go_ret
          exact ⟨rfl, gb2.out.trans (hb.mono HL2.out)⟩
    · have hk2 : k < 256 := by omega
      have c1 : (k : Int) < 256 := by omega
      have c8 : IntKind.u8.wrap (k : Int) = k := by rw [IntKind.wrap_u8]; omega
      have hwz : IntKind.i64.wrap ((k : Int) + 1) = (k : Int) + 1 := by rw [IntKind.wrap_i64]; omega
      go_wp2_with fail
      refine (HT.out _ k).mono ?_; rintro e w' ⟨rfl, hb⟩
      have hG2 := Lib.hid (gup hG.out GL.out hb)
      have hy := HY.out k hk2
      have hn := HN.out k hk2
      rw [hc.out] at hy hn
      have Hy := Lib.hid hy
      have Hn := Lib.hid hn
      clear hb hy hn k0 k1 k2 k3 k4
      generalize fits wh k = ff at *
      cases ff with
      | true =>
        obtain ⟨e1, e2⟩ := Hy.out rfl
        subst e1
        have E2 := Lib.hid e2
        clear e2
        go_wp2
        go_roundw
        case rel => exact ⟨k + 1, 1, by omega, by go_num, by go_num, E2, hG2⟩
        case measure => simp [intOf]; omega
      | false =>
        have E2 := Lib.hid (Hn.out rfl)
        go_wp2
        go_roundw
        case rel => exact ⟨k + 1, c, by omega, by go_num, by go_num, E2, hG2⟩
        case measure => simp [intOf]; omega
end Go.Proofs.YthaodmobcbccaaaDoor
