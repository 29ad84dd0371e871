/- Instructions: the document's Parts and Parse, walked. -/
import Derived.Test.YtcfoljdpffonhaaGreatDoorJv
set_option linter.unusedVariables false
set_option linter.unusedSimpArgs false
namespace Go.Proofs.YtcfoljdpffonhaaGreatDoor
open Go.RowKit Go.Joins Go.Shelf
attribute [local go_sem] Oper.semAt_some

set_option maxHeartbeats 4000000 in
set_option maxRecDepth 20000 in
theorem rparts_c {w0 w : World} {r : List Thing} (s : List UInt8) (hs : s.length ≤ 1048576) (H : Hp w0 w r) :
    Calls Tryz.prog 101 #[strv s] w fun e w' => ∃ v, e = .returned v ∧ Hp w0 w' (OwnSp v (spl s) :: r) := by
  have H0 : Hid (Hp w0 w (OwnSp (.slice none 0 0) [] :: r)) := Lib.hid (own_nil H _ _)
  obtain ⟨i0, hi, hz0, hz1, hz2⟩ := info_parts info_strp
  have hsz : (⟨s.toArray⟩ : ByteArray).size = s.length := by simp [ByteArray.size]
  have HS := Lib.hid hs
  clear H hs hsz
  go_enter Tryz.func101, Tryz.ntmps101
  go_wp2
  go_loopw [3, 4, 5] (fun s3 s4 s5 wr => ∃ (k f : Nat) (l : List (List UInt8)), s5 = .int .i64 k ∧ s4 = .int .i64 f ∧ Hid (Hp w0 wr (OwnSp s3 l :: r)) ∧ Hid ((k ≤ s.length ∧ PartsAt s k f l) ∨ (k = s.length + 1 ∧ l = spl s))) (fun _ _ s5 _ => s.length + 1 - (intOf s5).toNat)
  case atStart => exact ⟨0, 0, [], rfl, rfl, H0, Lib.hid (Or.inl ⟨Nat.zero_le _, parts_zero s⟩)⟩
  case round =>
    obtain ⟨k, f, l, rfl, rfl, hH, hP⟩ := hrel
    clear H0
    rcases hP.out with ⟨hk, hpa⟩ | ⟨hk, hl⟩
    · have hkl : ¬ (s.length : Int) < (k : Int) := by omega
      have hkl2 : (k : Int) ≤ (s.length : Int) := by omega
      have hwk : IntKind.i64.wrap ((k : Int) + 1) = (k : Int) + 1 := by rw [IntKind.wrap_i64]; have := HS.out; omega
      have hfk := hpa.fk
      have hll := hpa.len
      have hext := ext_mid s f k hfk hk
      have hfk2 : (f : Int) ≤ (k : Int) := by omega
      obtain ⟨av, cv, rfl⟩ := own_slice hH.out
      by_cases hlt : k < s.length
      · obtain ⟨hx', hx⟩ := idx_str hlt
        have hne : ((k : Int) == (s.length : Int)) = false := by rw [beq_eq_false_iff_ne]; omega
        have hne2 : ¬ k = s.length := by omega
        have hne3 : (k == s.length) = false := by rw [beq_eq_false_iff_ne]; omega
        by_cases hc : s[k] = 32
        · have hp2 := Lib.hid (parts_blank hpa hlt hc)
          have hc' : ((s[k].toNat : Nat) : Int) = 32 := by rw [hc]; rfl
          generalize s[k] = ch at *
          generalize hpt : (s.take k).drop f = pt at *
          have HFK := Lib.hid hfk
          have HLL := Lib.hid hll
          have HLT := Lib.hid hlt
          clear hpa hc hP hpt hfk hll hk
          have hc2 : (((ch.toNat : Nat) : Int) == 32) = true := by simpa using hc'
          clear hlt
          go_wp2_with (at_builtin; refine wpList_append_big rfl (.tmp 22) (.tmp 27) 53 rfl 9 i0 _ 1 16 Tryz.underlying53 hi hz0 hz1 hz2 rfl (by decide) (hH.out.alloc _) rfl ⟨wr.heap.size, 0, none⟩ 1 1 [strv pt] rfl rfl (cell_one_at _ _ _ _ rfl) (by simp [Value.oneCell']) (by have := HS.out; have := HLL.out; have := HFK.out; have := HLT.out; simp; omega) (by omega) ?_)
          intro v' w6 HA0
          have HA := Lib.hid (os_snoc HA0)
          obtain ⟨a4, c4, rfl⟩ := own_slice HA0
          clear HA0 hH
          go_wp2
          go_roundw
          case rel => exact ⟨k + 1, k + 1, _, by go_num, by go_num, HA, Lib.hid (Or.inl ⟨by have := HLT.out; omega, hp2.out⟩)⟩
          case measure => have := HLT.out; simp [intOf]; omega
        · have hp2 := Lib.hid (parts_step hpa hlt hc)
          have hc' : ¬ ((s[k].toNat : Nat) : Int) = 32 := by intro h; apply hc; rw [← UInt8.toNat_inj]; show s[k].toNat = 32; omega
          have hc2 : (((s[k].toNat : Nat) : Int) == 32) = false := by rw [beq_eq_false_iff_ne]; exact hc'
          generalize s[k] = ch at *
          have HLT := Lib.hid hlt
          clear hpa hc hP hfk hll hk hext hlt
          go_wp2
          go_roundw
          case rel => exact ⟨k + 1, f, l, by go_num, rfl, hH, Lib.hid (Or.inl ⟨by have := HLT.out; omega, hp2.out⟩)⟩
          case measure => have := HLT.out; simp [intOf]; omega
      · obtain rfl : k = s.length := by omega
        have hp2 := Lib.hid (parts_end hpa)
        generalize hpt : (s.take s.length).drop f = pt at *
        have HFK := Lib.hid hfk
        have HLL := Lib.hid hll
        clear hpa hP hpt hfk hll hk hlt hkl hkl2
        go_wp2_with (at_builtin; refine wpList_append_big rfl (.tmp 22) (.tmp 27) 53 rfl 9 i0 _ 1 16 Tryz.underlying53 hi hz0 hz1 hz2 rfl (by decide) (hH.out.alloc _) rfl ⟨wr.heap.size, 0, none⟩ 1 1 [strv pt] rfl rfl (cell_one_at _ _ _ _ rfl) (by simp [Value.oneCell']) (by have := HS.out; have := HLL.out; have := HFK.out; simp; omega) (by omega) ?_)
        intro v' w6 HA0
        have HA := Lib.hid (os_snoc HA0)
        obtain ⟨a4, c4, rfl⟩ := own_slice HA0
        clear HA0 hH
        go_wp2
        go_roundw
        case rel => exact ⟨s.length + 1, s.length + 1, _, by go_num, by go_num, HA, Lib.hid (Or.inr ⟨rfl, hp2.out.symm⟩)⟩
        case measure => simp [intOf]
    · subst hk
      subst hl
      have hkl : ¬ ((s.length : Int) + 1 ≤ (s.length : Int)) := by omega
      have hkl2 : ¬ (((s.length + 1 : Nat) : Int) ≤ (s.length : Int)) := by omega
      obtain ⟨av, cv, rfl⟩ := own_slice hH.out
      clear hP
      go_wp2
      go_ret
      exact ⟨_, rfl, hH.out⟩
end Go.Proofs.YtcfoljdpffonhaaGreatDoor
