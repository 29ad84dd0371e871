/- 'filled' of timekeeperlaw10; who sleeps then, and behind some ticks. -/
import Derived.Test.YtgcakjcljfhmpaaAlv
import Derived.Test.YtgcakjcljfhmpaaPln
import Derived.Lib.SlBytesRowKit
set_option linter.unusedVariables false
set_option linter.unusedSimpArgs false
namespace Go.Proofs.Ytgcakjcljfhmpaa
open Go.RowKit Go.Shelf
attribute [local go_sem] Oper.semAt_some

/-- The argument reads as it did. -/
theorem bytes_cell {w0 w : World} {r : List Thing} {a : Option Addr} {n : Nat} {ts : List Int} (h : Hp w0 w r) (hb : Lib.BytesIn w0 a n ts) (i : Nat) (hi : i < n) : ∃ g off, a = some ⟨g, off, none⟩ ∧ w.cell? ⟨g, off + i, none⟩ = some (.int .u8 (ts.getD i 0)) := by
  obtain ⟨g, off, rfl, hc⟩ := hb (by omega)
  have h1 := hc i hi
  exact ⟨g, off, rfl, (h.below.cell (p := ⟨g, off + i, none⟩) (World.block_lt_of_cell? _ _ h1)).trans h1⟩

set_option maxHeartbeats 1000000 in
theorem filled_c {w0 w : World} {r : List Thing} (a : Option Addr) (n c : Nat) (ts : List Int) (h : Hp w0 w r) (hb : Lib.BytesIn w0 a n ts) (hts : ∀ x ∈ ts, 0 ≤ x ∧ x < 256) (hn : n ≤ 1000) :
    Calls Try.prog 15 #[.slice a n c] w fun e w' => ∃ b, e = .returned (.pointer (some ⟨b, 0, none⟩)) ∧ Hp w0 w' (Slp b (fil ts n) :: r) := by
  have hok := ok_fil (getD_bd hts)
  go_enter Try.func15, Try.ntmps15
  go_wp2_with fail
  refine (new_h h).mono ?_; rintro e w1 ⟨b, rfl, H1⟩
  go_wp2_with fail
  go_loopw [4] (fun i wr => ∃ k : Nat, k ≤ n ∧ i = .int .i64 k ∧ Hp w0 wr (Slp b (fil ts k) :: r)) (fun i _ => n - (intOf i).toNat)
  case atStart => exact ⟨0, Nat.zero_le _, rfl, H1⟩
  case round =>
    obtain ⟨k, hk, rfl, H⟩ := hrel
    by_cases hlt : k < n
    · obtain ⟨g, off, rfl, hc⟩ := bytes_cell H hb k hlt
      have hbd := getD_bd hts k
      have hok' := hok k
      have hmem : (k : Int) ∉ (fil ts k).map Prod.fst := fun hm => by obtain ⟨i, h1, h2⟩ := fil_fst.1 hm; omega
      have hfl := fil_len ts k
      have hfs : fil ts (k + 1) = ins (fil ts k) k (ts.getD k 0 + 1) := rfl
      have c1 : (k : Int) < (n : Int) := by omega
      generalize ts.getD k 0 = x at *
      generalize fil ts k = l at *
      have HFS := Lib.hid hfs
      clear hfs
      have hw1 : IntKind.i64.wrap x = x := by rw [IntKind.wrap_i64]; omega
      have hw2 : IntKind.i64.wrap (x + 1) = x + 1 := by rw [IntKind.wrap_i64]; omega
      go_wp2_with fail
      refine (put_h k (x + 1) H hok' (by omega) hmem (by omega) (by omega) (by omega)).mono ?_; rintro e w2 ⟨rfl, H2⟩
      clear H hok' hmem
      go_wp2
      go_roundw
      case rel => exact ⟨k + 1, by omega, by go_num, by rw [HFS.out]; exact H2⟩
      case measure => simp [intOf]; omega
    · have hke : k = n := by omega
      have c1 : ¬ (k : Int) < (n : Int) := by omega
      rw [hke] at H
      go_wp2
      go_ret
      exact ⟨b, rfl, H⟩
end Go.Proofs.Ytgcakjcljfhmpaa
