/- Images: Get: walked. -/
import Derived.Test.YtcfoljdpffonhaaGreatDoorLd
import Derived.Test.YtcfoljdpffonhaaGreatDoorJb
import Derived.Lib.ConvBytes
import Derived.Lib.BufferRead
import Derived.Laws.IdiomStrings
set_option linter.unusedVariables false
set_option linter.unusedSimpArgs false
namespace Go.Proofs.YtcfoljdpffonhaaGreatDoor
open Go.RowKit Go.Joins Go.Shelf
attribute [local go_sem] Oper.semAt_some

theorem idx_strL {s : List UInt8} {k : Nat} (h : k < s.length) : ∃ h', (⟨s.toArray⟩ : ByteArray)[k]'h' = s[k] := ⟨by simpa [ByteArray.size] using h, rfl⟩
/-- A block that reads so. -/
def Rdr (g : Nat) (bs : List Value) : Thing where
  at_ w S := (∀ j (h : j < bs.length), w.cell? ⟨g, j, none⟩ = some bs[j]) ∧ g < w.heap.size ∧ S = fun k => k = g
  lt := by rintro w S ⟨_, h, rfl⟩ k rfl; exact h
  keeps := by
    rintro w w' S T ⟨h, hl, rfl⟩ ht hn
    exact ⟨fun j hj => (ht.cell (p := ⟨g, j, none⟩) hl (hn g rfl)).trans (h j hj), Nat.lt_of_lt_of_le hl ht.size, rfl⟩
theorem rdr_get {w0 w : World} {r : List Thing} {g : Nat} {bs : List Value} (H : Hp w0 w (Rdr g bs :: r)) : CellsIn w (some ⟨g, 0, none⟩) bs := fun j hj => by
  obtain ⟨S, ⟨h1, _⟩, _⟩ := H.lay
  exact ⟨g, 0, rfl, by rw [Nat.zero_add]; exact h1 j hj⟩
theorem rdr_bytes {w0 w : World} {r : List Thing} (H : Hp w0 w r) (l : List UInt8) : Hp w0 (Lib.bytesWorld w 5 ⟨l.toArray⟩) (Rdr w.heap.size (l.map bv) :: r) := by
  refine H.add (U := fun k => k = w.heap.size) ?_ ⟨?_, ?_, rfl⟩ (fun k hk => by subst hk; exact Nat.le_refl _)
  · have hb := Lib.bytesWorld_below w 5 ⟨l.toArray⟩
    exact ⟨hb.os, hb.tape, hb.output, hb.size, fun k hk _ => hb.block k hk⟩
  · intro j hj
    have hjl : j < l.length := by simpa using hj
    rw [Lib.bytesWorld_cell w 5 ⟨l.toArray⟩ j (by simpa [ByteArray.size] using hjl)]
    simp [bv, List.getD_eq_getElem?_getD, hjl]
  · rw [Lib.bytesWorld_size]; omega
theorem conv_in (w : World) (a : Option Addr) (c : Nat) (l : List UInt8) (h : CellsIn w a (l.map bv)) : (convert 22 9 (.slice a l.length c)).run Tryz.prog w = .ok (strv l) w := by
  cases a with
  | none =>
    have hl : l = [] := by
      cases l with
      | nil => rfl
      | cons x l => obtain ⟨g, o, e, _⟩ := h 0 (by simp); cases e
    subst hl
    exact Lib.run_convert_nil_bytes w _ _ 5 c Tryz.underlying22 Tryz.underlying5 Tryz.underlying9
  | some ad =>
    refine Go.run_convert_bytes_back _ _ _ 5 ad c l Tryz.underlying22 Tryz.underlying5 Tryz.underlying9 (fun j hj => ?_)
    obtain ⟨g, o, e, hc⟩ := h j (by simpa using hj)
    cases e
    rw [show (⟨g, o, none⟩ : Addr).add j = ⟨g, o + j, none⟩ from Addr.add_lit g o j, hc]
    simp
theorem conv_to (w : World) (l : List UInt8) : (convert 9 22 (strv l)).run Tryz.prog w = .ok (.slice (some ⟨w.heap.size, 0, none⟩) l.length (grownCap w l.length 0 5)) (Lib.bytesWorld w 5 ⟨l.toArray⟩) := by
  have := Lib.run_convert_string_bytes (P := Tryz.prog) w 9 22 5 ⟨l.toArray⟩ Tryz.underlying9 Tryz.underlying22 Tryz.underlying5
  have e : (⟨l.toArray⟩ : ByteArray).size = l.length := by simp [ByteArray.size]
  rw [e] at this
  exact this
def nb (x y : UInt8) : Nat := x.toNat * 256 + y.toNat
set_option maxHeartbeats 2000000 in
set_option maxRecDepth 20000 in
/-- Two bytes of what is left, as a number. -/
theorem num_c {w0 w : World} {r : List Thing} {rb : Nat} (x y : UInt8) (s : List UInt8) (hs : s.length < 1000000000) (H : Hp w0 w (Blk rb (.cells #[strv (x :: y :: s)] 9 (0, 0)) :: r)) :
    Calls Tryz.prog 63 #[.pointer (some ⟨rb, 0, none⟩)] w fun e w' => e = .returned (.int .i64 ((nb x y : Nat) : Int)) ∧ Hp w0 w' (Blk rb (.cells #[strv s] 9 (0, 0)) :: r) := by
  have c0 : w.cell? ⟨rb, 0, none⟩ = some (strv (x :: y :: s)) := cell_blk (blk_get H) 0
  have f0 := free_blk (blk_get H) 0
  obtain ⟨h0, e0⟩ := idx_strL (s := x :: y :: s) (k := 0) (by simp)
  obtain ⟨h1, e1⟩ := idx_strL (s := x :: y :: s) (k := 1) (by simp)
  simp only [List.getElem_cons_zero, List.getElem_cons_succ] at e0 e1
  have hx := x.toNat_lt
  have hy := y.toNat_lt
  have hor := i64_or8 (x := (x.toNat : Int) * 256) (y := (y.toNat : Int)) (by omega) (by omega) (by omega) (by omega) (by omega)
  have hw1 : IntKind.i64.wrap ((x.toNat : Int) * 256) = (x.toNat : Int) * 256 := by rw [IntKind.wrap_i64]; omega
  have hsum : (x.toNat : Int) * 256 + (y.toNat : Int) = ((nb x y : Nat) : Int) := by unfold nb; omega
  have hex : (⟨(x :: y :: s).toArray⟩ : ByteArray).extract 2 (s.length + 1 + 1) = ⟨s.toArray⟩ := by apply ByteArray.ext; simp
  have HH := Lib.hid (blk_set H 0 (strv s))
  have HX := Lib.hid hsum
  clear H hsum
  go_enter Tryz.func63, Tryz.ntmps63
  go_upto_region 1 with fail
  go_quiet (fail)
  all_goals
    have c1 : (w.drewN nq).cell? ⟨rb, 0, none⟩ = some (strv (x :: y :: s)) := c0
    have f1 : (w.drewN nq).frozen? ⟨rb, 0, none⟩ = false := f0
    clear c0 f0
    go_wp2
    go_ret
    exact ⟨by rw [← HX.out]; rfl, HH.out.drewN _⟩

/-! ### What bytes tell. -/
def chunk : List UInt8 → List I4
  | a :: b :: c :: d :: r => (a, b, c, d) :: chunk r
  | _ => []
def imget : List UInt8 → Option (Nat × List UInt8 × List I4)
  | 116 :: 107 :: 49 :: n1 :: n0 :: d1 :: d0 :: c1 :: c0 :: r =>
    if r.length = nb d1 d0 + nb c1 c0 * 4 then
      if imck (nb n1 n0) (r.take (nb d1 d0)) (chunk (r.drop (nb d1 d0))) = true then some (nb n1 n0, r.take (nb d1 d0), chunk (r.drop (nb d1 d0))) else none
    else none
  | _ => none
theorem chunk_ibs : ∀ c : List I4, chunk (ibs c) = c
  | [] => rfl
  | x :: c => by
    have : ibs (x :: c) = x.1 :: x.2.1 :: x.2.2.1 :: x.2.2.2 :: ibs c := rfl
    rw [this, chunk, chunk_ibs c]
theorem ibs_chunk : ∀ (k : Nat) (l : List UInt8), l.length = k * 4 → ibs (chunk l) = l ∧ (chunk l).length = k
  | 0, l, h => by
    have : l = [] := List.eq_nil_of_length_eq_zero (by omega)
    subst this; exact ⟨rfl, rfl⟩
  | k + 1, l, h => by
    match l, h with
    | a :: b :: c :: d :: r, h =>
      have hr : r.length = k * 4 := by simp at h; omega
      have ih := ibs_chunk k r hr
      rw [chunk]
      refine ⟨?_, by simp [ih.2]⟩
      show a :: b :: c :: d :: ibs (chunk r) = _
      rw [ih.1]
    | [], h => simp at h
    | [_], h => simp at h; omega
    | [_, _], h => simp at h; omega
    | [_, _, _], h => simp at h; omega
theorem two_eq (m : Nat) (h : m < 65536) : two m = [UInt8.ofNat (m / 256), UInt8.ofNat (m % 256)] ∧ nb (UInt8.ofNat (m / 256)) (UInt8.ofNat (m % 256)) = m := by
  refine ⟨rfl, ?_⟩
  have e1 : (UInt8.ofNat (m / 256)).toNat = m / 256 := by simp; omega
  have e2 : (UInt8.ofNat (m % 256)).toNat = m % 256 := by simp
  unfold nb
  rw [e1, e2]; omega
theorem two_nb (x y : UInt8) : two (nb x y) = [x, y] := by
  have hx := x.toNat_lt
  have hy := y.toNat_lt
  have e1 : nb x y / 256 = x.toNat := by unfold nb; omega
  have e2 : nb x y % 256 = y.toNat := by unfold nb; omega
  unfold two
  rw [e1, e2]
  simp
theorem nb_lt (x y : UInt8) : nb x y < 65536 := by
  have hx := x.toNat_lt
  have hy := y.toNat_lt
  unfold nb; omega
/-- What is put is got. -/
theorem imget_put {n : Nat} {d : List UInt8} {c : List I4} (h : imck n d c = true) : imget (imput n d c) = some (n, d, c) := by
  obtain ⟨h1, h2, h3, h4, h5⟩ := imck_bounds h
  obtain ⟨a1, a2⟩ := two_eq n (by omega)
  obtain ⟨b1, b2⟩ := two_eq d.length (by omega)
  obtain ⟨c1, c2⟩ := two_eq c.length (by omega)
  have e : imput n d c = 116 :: 107 :: 49 :: UInt8.ofNat (n / 256) :: UInt8.ofNat (n % 256) :: UInt8.ofNat (d.length / 256) :: UInt8.ofNat (d.length % 256) :: UInt8.ofNat (c.length / 256) :: UInt8.ofNat (c.length % 256) :: (d ++ ibs c) := by
    unfold imput; rw [a1, b1, c1]; simp
  rw [e, imget, a2, b2, c2]
  have hl : (d ++ ibs c).length = d.length + c.length * 4 := by rw [List.length_append, ibs_len]
  rw [if_pos hl, List.take_left, List.drop_left, chunk_ibs, if_pos h]
/-- What is got is put so. -/
theorem imget_some {b : List UInt8} {n : Nat} {d : List UInt8} {c : List I4} (h : imget b = some (n, d, c)) : imck n d c = true ∧ imput n d c = b := by
  unfold imget at h
  split at h
  · rename_i n1 n0 d1 d0 c1 c0 r
    split at h
    · rename_i hl
      split at h
      · rename_i hk
        cases h
        refine ⟨hk, ?_⟩
        have hlen : (r.drop (nb d1 d0)).length = nb c1 c0 * 4 := by rw [List.length_drop]; omega
        obtain ⟨e1, e2⟩ := ibs_chunk _ _ hlen
        have e3 : (r.take (nb d1 d0)).length = nb d1 d0 := by rw [List.length_take]; omega
        unfold imput
        rw [e3, e2, two_nb, two_nb, two_nb, e1]
        simp
      · cases h
    · cases h
  · cases h
end Go.Proofs.YtcfoljdpffonhaaGreatDoor
