/- Images: whether bytes, instructions and images are the same: walked. -/
import Derived.Test.YtijkkompnfpdeaaGreatDoorLb
set_option linter.unusedVariables false
set_option linter.unusedSimpArgs false
namespace Go.Proofs.YtijkkompnfpdeaaGreatDoor
open Go.RowKit Go.Joins Go.Shelf
attribute [local go_sem] Oper.semAt_some

set_option maxHeartbeats 4000000 in
set_option maxRecDepth 20000 in
theorem same_bytes (a b : Option Addr) (ca cb : Nat) (xs ys : List UInt8) (w : World) (ha : CellsIn w a (xs.map bv)) (hb : CellsIn w b (ys.map bv)) (hx : xs.length < 1000000000) (hy : ys.length < 1000000000) :
    Calls Tryz.prog 12 #[.slice a xs.length ca, .slice b ys.length cb] w fun e w' => e = .returned (.bool (decide (xs = ys))) ∧ Below w.heap.size w w' := by
  have HA := Lib.hid ha
  have HB := Lib.hid hb
  have H0 := Lib.hid (Hp.start w)
  have HX := Lib.hid hx
  generalize hr : decide (xs = ys) = res
  clear ha hb hx hy
  by_cases hl : xs.length = ys.length
  · have hne : ((xs.length : Int) != (ys.length : Int)) = false := by simp; omega
    have HL := Lib.hid hl
    have HR := Lib.hid hr
    clear hl hr
    go_enter Tryz.func12, Tryz.ntmps12
    go_wp2
    clear hne
    go_loopw [5] (fun s5 wr => ∃ k : Nat, k ≤ xs.length ∧ s5 = .int .i64 k ∧ Hid (xs.take k = ys.take k) ∧ Hid (Hp w wr [])) (fun s5 _ => xs.length - (intOf s5).toNat)
    case atStart => exact ⟨0, Nat.zero_le _, rfl, Lib.hid rfl, H0⟩
    case round =>
      obtain ⟨k, hk, rfl, hE, hH⟩ := hrel
      clear H0
      by_cases hlt : k < xs.length
      · have hlt2 : k < ys.length := by rw [← HL.out]; exact hlt
        have hkw : IntKind.i64.wrap ((k : Int) + 1) = (k : Int) + 1 := by rw [IntKind.wrap_i64]; have := HX.out; omega
        have hi1 : (k : Int) < (ys.length : Int) := by omega
        obtain ⟨g, o, rfl, c0⟩ := byte_cell (HA.out.hp hH.out) hlt
        obtain ⟨g', o', rfl, c0'⟩ := byte_cell (HB.out.hp hH.out) hlt2
        have HE2 : Hid (xs[k] = ys[k] → xs.take (k + 1) = ys.take (k + 1)) := Lib.hid (fun h => by rw [List.take_succ_eq_append_getElem hlt, List.take_succ_eq_append_getElem hlt2, hE.out, h])
        have HE3 : Hid (xs[k] ≠ ys[k] → res = false) := Lib.hid (fun h => by rw [← HR.out]; simp; intro h2; subst h2; exact h rfl)
        generalize xs[k] = x at *
        generalize ys[k] = y at *
        by_cases hxy : x = y
        · subst hxy
          have hn := Lib.hid (HE2.out rfl)
          have HLT := Lib.hid hlt
          clear hE HE2 HE3
          skip
          go_upto_region 6 with fail
          go_quiet (fail)
          go_wp2
          go_roundw
          case rel => exact ⟨k + 1, by have := HLT.out; omega, by go_num, hn, Lib.hid (hH.out.drewN _)⟩
          case measure => have := HLT.out; simp [intOf]; omega
        · have hn := HE3.out hxy
          subst hn
          clear hE HE2 HE3
          have h' : ¬ ((x.toNat : Nat) : Int) = ((y.toNat : Nat) : Int) := by intro h; apply hxy; rw [← UInt8.toNat_inj]; omega
          have h'' : (((x.toNat : Nat) : Int) != ((y.toNat : Nat) : Int)) = true := by simp; intro h; apply hxy; rw [← UInt8.toNat_inj]; omega
          have h3 : ¬ x.toNat = y.toNat := by intro h; apply hxy; rw [← UInt8.toNat_inj]; exact h
          clear hxy
          go_upto_region 6 with fail
          go_quiet (fail)
          all_goals go_wp2
          all_goals go_ret
          all_goals exact ⟨rfl, (hH.out.drewN _).below⟩
      · have hxe : xs = ys := by
          have h := hE.out
          rw [List.take_of_length_le (by omega), List.take_of_length_le (by have := HL.out; omega)] at h
          exact h
        obtain rfl : true = res := by rw [← HR.out]; simp [hxe]
        clear hE hxe
        go_wp2
        go_ret
        exact ⟨rfl, hH.out.below⟩
  · have hne : ((xs.length : Int) != (ys.length : Int)) = true := by simp; omega
    obtain rfl : false = res := by rw [← hr]; simp; intro h; subst h; exact hl rfl
    clear hr hl
    go_enter Tryz.func12, Tryz.ntmps12
    go_wp2
    go_ret
    exact ⟨rfl, H0.out.below⟩
end Go.Proofs.YtijkkompnfpdeaaGreatDoor
