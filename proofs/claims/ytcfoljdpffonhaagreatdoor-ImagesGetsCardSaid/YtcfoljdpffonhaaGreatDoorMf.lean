/- Images: ImagesOdd, walked. -/
import Derived.Test.YtcfoljdpffonhaaGreatDoorMe
import Derived.Outline
set_option linter.unusedVariables false
set_option linter.unusedSimpArgs false
namespace Go.Proofs.YtcfoljdpffonhaaGreatDoor
open Go.RowKit Go.Joins Go.Shelf
attribute [local go_sem] Oper.semAt_some

theorem flat_len {cs : List UInt8} : ∀ {l : List Int}, mays cs l → ((txs cs l).flatMap (32 :: ·)).length ≤ 31 * cs.length := by
  induction cs with
  | nil => intro l _; simp [txs]
  | cons c cs ih =>
    intro l h
    cases l with
    | nil => exact h.elim
    | cons n ns =>
      have := tx_len h.1
      have := ih h.2
      simp [txs] at *
      omega
theorem til_len {x : I4} (hk : ik x = true) : (til x).length ≤ 200 := by
  obtain ⟨h22, l, hm, ht, hs, hl⟩ := txo_spl (by4 x) hk
  have h1 := flat_len hm
  have h2 := wl_len x.1.toNat
  have h3 := fl_len x.1.toNat
  have e : til x = wl x.1.toNat ++ (txs (fl x.1.toNat) l).flatMap (32 :: ·) := ht
  rw [e, List.length_append]
  omega
theorem lines_short {n m : Nat} {d : List UInt8} {c : List I4} (hm : m ≤ 40) (hn : n ≤ 4096) (hall : c.all ik = true) : ∀ l ∈ linesL n d c m, l.length ≤ 300 := by
  intro l hl
  unfold linesL at hl
  rw [List.mem_cons, List.mem_append, List.mem_map, List.mem_map] at hl
  rcases hl with rfl | ⟨j, _, rfl⟩ | ⟨x, hx, rfl⟩
  · have := siz_len hn; omega
  · unfold datl
    rw [List.length_append, hxl_len, List.length_take]
    simp only [List.length_cons, List.length_nil]
    omega
  · have := til_len (List.all_eq_true.1 hall x hx); omega
theorem lines_many {n m : Nat} {d : List UInt8} {c : List I4} (hm : 1 ≤ m) : (linesL n d c m).length ≤ 1 + d.length + c.length := by
  have h : partsN d.length m ≤ d.length := by
    rcases Nat.eq_zero_or_pos (partsN d.length m) with h | h
    · omega
    · have h1 := (parts_lt (n := d.length) (m := m) hm).1 (partsN d.length m - 1) (by omega)
      have h2 : (partsN d.length m - 1) * 1 ≤ (partsN d.length m - 1) * m := Nat.mul_le_mul_left _ hm
      omega
  unfold linesL
  simp only [List.length_cons, List.length_append, List.length_map, List.length_range]
  omega
end Go.Proofs.YtcfoljdpffonhaaGreatDoor
