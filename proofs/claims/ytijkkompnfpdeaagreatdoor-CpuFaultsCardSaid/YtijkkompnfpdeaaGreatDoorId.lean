/- Instructions: Check, Put, Get; the document's. -/
import Derived.Test.YtijkkompnfpdeaaGreatDoorIc
import Derived.Laws.ResultCell
set_option linter.unusedVariables false
set_option linter.unusedSimpArgs false
namespace Go.Proofs.YtijkkompnfpdeaaGreatDoor
open Go.RowKit Go.Lib
attribute [local go_sem] Oper.semAt_some

abbrev inS (op : Nat) (a b c : Int) : Value := .agg #[.int .u8 op, .int .u8 a, .int .u8 b, .int .u8 c]
/-- Three bytes. -/
structure By3 (a b c : Int) : Prop where
  a : 0 ≤ a ∧ a < 256
  b : 0 ≤ b ∧ b < 256
  c : 0 ≤ c ∧ c < 256
theorem sp_ck {op : Nat} {a b c : Int} (h : op ≤ 22) (hb : By3 a b c) : (sp (fl op) [a, b, c]).isSome = ck op a b c := by
  obtain ⟨k1, k2⟩ := fl_ok op
  rw [sp_rck _ _ k1 (by simpa using k2) (by simp; exact ⟨hb.a, hb.b, hb.c⟩)]
  simp [ck, h]
/-- split: of whatever Op. -/
theorem split_yes {w0 w : World} {r : List Thing} {op : Nat} {a b c : Int} (H : Hp w0 w r) (hb : By3 a b c) (hk : ck op a b c = true) :
    ∃ l, sp (fl op) [a, b, c] = some l ∧ Calls Tryz.prog 126 #[inS op a b c] w fun e w' => ∃ v, e = .returned (.tuple #[v, .bool true]) ∧ Hp w0 w' (OwnI v l :: r) := by
  have h : op ≤ 22 := by unfold ck at hk; simp at hk; exact hk.1
  have h1 := sp_ck h hb
  rw [hk] at h1
  obtain ⟨l, hl⟩ := Option.isSome_iff_exists.1 h1
  have := split_ok op a b c H h hb.a hb.b hb.c
  rw [hl] at this
  exact ⟨l, hl, this⟩
theorem split_not {w0 w : World} {r : List Thing} {op : Nat} {a b c : Int} (H : Hp w0 w r) (hb : By3 a b c) (hk : ck op a b c = false) :
    Calls Tryz.prog 126 #[inS op a b c] w fun e w' => e = .returned (.tuple #[.slice none 0 0, .bool false]) ∧ Hp w0 w' r := by
  by_cases h : op ≤ 22
  · have h1 := sp_ck h hb
    rw [hk] at h1
    have h2 : sp (fl op) [a, b, c] = none := by simpa using h1
    have := split_ok op a b c H h hb.a hb.b hb.c
    rw [h2] at this
    exact this
  · exact split_bad op a b c H (by omega)

set_option maxHeartbeats 1000000 in
set_option maxRecDepth 20000 in
theorem check_c {w0 w : World} {r : List Thing} {op : Nat} {a b c : Int} (H : Hp w0 w r) (hb : By3 a b c) :
    Calls Tryz.prog 76 #[inS op a b c] w fun e w' => e = .returned (.bool (ck op a b c)) ∧ Hp w0 w' r := by
  have HX := Lib.hid (H.alloc (.cells #[.int .u8 op, .int .u8 a, .int .u8 b, .int .u8 c] 26))
  by_cases hk : ck op a b c = true
  · obtain ⟨l, hl, hc⟩ := split_yes HX.out hb hk
    have HC := Lib.hid hc
    rw [hk]
    clear hc hl H HX hk
    go_enter Tryz.func76, Tryz.ntmps76
    go_wp2_with fail
    refine HC.out.mono ?_; rintro e w1 ⟨v, rfl, H1⟩
    have H2 := Lib.hid H1.tail
    obtain ⟨av, cv, rfl⟩ := own_slice H1
    clear H1
    go_wp2
    go_ret
    exact ⟨rfl, H2.out⟩
  · have hk' : ck op a b c = false := by simpa using hk
    have HC := Lib.hid (split_not HX.out hb hk')
    rw [hk']
    clear H HX hk hk'
    go_enter Tryz.func76, Tryz.ntmps76
    go_wp2_with fail
    refine HC.out.mono ?_; rintro e w1 ⟨rfl, H1⟩
    have H2 := Lib.hid H1
    clear H1
    go_wp2
    go_ret
    exact ⟨rfl, H2.out⟩

theorem ins_info : (Tryz.prog.info? 26).map (·.size) = some 4 := by kernel_rfl
end Go.Proofs.YtijkkompnfpdeaaGreatDoor
