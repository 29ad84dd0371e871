/- The book of lists of ints that were answered, as one thing. -/
import Derived.Test.YtllfkgdmneabiaaDoorBkq
import Derived.Test.YtllfkgdmneabiaaDoorHpw
set_option linter.unusedVariables false
set_option linter.unusedSimpArgs false
namespace Go.Proofs.YtllfkgdmneabiaaDoor
open Go.RowKit Go.Shelf

/-- At most N lists. -/
structure BkOk (N : Nat) (x : Int × List Hl × Value) : Prop where
  lo : 0 ≤ x.1
  hi : x.1 ≤ N
  len : x.2.1.length ≤ N
  all : ∀ h ∈ x.2.1, (0 ≤ h.q ∧ h.q ≤ N) ∧ h.n < 100000
def Book (kb N : Nat) : Thing := Ex (BkOk N) fun x => Alls (Bkt kb x.1 x.2.2 :: Rows_ x.2.2 (x.2.1.map nil_) :: x.2.1.map Kp)
theorem book_new {w0 w : World} {r : List Thing} (h : Hp w0 w r) : Hp w0 (w.alloc (.cells (bk 0 (.slice none 0 0)) 37)) (Book w.heap.size 0 :: r) := by
  refine Hp.mkEx (0, [], .slice none 0 0) ⟨by decide, by decide, by decide, by simp⟩ (Hp.alls ?_)
  exact (own_nil (blk_new h _) 76 3).up1
theorem ints_b {w0 w : World} {r : List Thing} {kb N : Nat} {v : Value} {zs : List Int} (h : Hp w0 w (OwnI v zs :: Book kb N :: r)) (hN : N < 90000) (hz : zs.length < 100000) :
    Calls Tryd.prog 14 #[.pointer (some ⟨kb, 0, none⟩), v] w fun e w' => e = .returned (.tuple #[]) ∧ Hp w0 w' (Book kb (N + 1) :: r) := by
  obtain ⟨a, c, rfl⟩ := own_slice h
  obtain ⟨⟨n, xs, vb⟩, hk, h1⟩ := h.up1.ex
  have h2 : Hp w0 w (Bkt kb n vb :: Rows_ vb (xs.map nil_) :: (xs.map Kp ++ (OwnI (.slice a zs.length c) zs :: r))) := by simpa using h1.unAlls
  obtain ⟨k1, k2, k3, k4⟩ := hk
  simp only at k1 k2 k3 k4
  refine (ints_c a zs.length c h2 ⟨k1, by omega⟩ (by rw [List.length_map]; omega)).mono ?_
  rintro e w' ⟨rfl, vb', h3⟩
  refine ⟨rfl, Hp.mkEx (n + 1, xs ++ [⟨.slice a zs.length c, zs.length, n + 1⟩], vb') ⟨by simp only; omega, by simp only; omega, by simp; omega, fun y hy => ?_⟩ (Hp.alls ?_)⟩
  · simp only [List.mem_append, List.mem_singleton] at hy
    rcases hy with hy | rfl
    · have := k4 y hy; omega
    · simp only; omega
  · have e1 : (xs ++ [(⟨.slice a zs.length c, zs.length, n + 1⟩ : Hl)]).map nil_ = xs.map nil_ ++ [⟨⟨.slice a zs.length c, zs.length, n + 1⟩, .slice none 0 0⟩] := by simp [nil_]
    have e2 : (xs ++ [(⟨.slice a zs.length c, zs.length, n + 1⟩ : Hl)]).map Kp = xs.map Kp ++ [OwnX (.slice a zs.length c) zs.length] := by simp [Kp]
    simp only [e1, e2]
    have p : (Bkt kb (n + 1) vb' :: Rows_ vb' (xs.map nil_ ++ [⟨⟨.slice a zs.length c, zs.length, n + 1⟩, .slice none 0 0⟩]) :: (xs.map Kp ++ (OwnI (.slice a zs.length c) zs :: r))).Perm (OwnI (.slice a zs.length c) zs :: Bkt kb (n + 1) vb' :: Rows_ vb' (xs.map nil_ ++ [⟨⟨.slice a zs.length c, zs.length, n + 1⟩, .slice none 0 0⟩]) :: (xs.map Kp ++ r)) := by
      have := List.perm_middle (a := OwnI (.slice a zs.length c) zs) (l₁ := Bkt kb (n + 1) vb' :: Rows_ vb' (xs.map nil_ ++ [⟨⟨.slice a zs.length c, zs.length, n + 1⟩, .slice none 0 0⟩]) :: xs.map Kp) (l₂ := r)
      simpa using this
    have h4 := ownx_of (h3.perm p)
    have q := (List.perm_middle (a := OwnX (.slice a zs.length c) zs.length) (l₁ := Bkt kb (n + 1) vb' :: Rows_ vb' (xs.map nil_ ++ [⟨⟨.slice a zs.length c, zs.length, n + 1⟩, .slice none 0 0⟩]) :: xs.map Kp) (l₂ := r)).symm
    have h5 := h4.perm q
    simpa using h5
theorem apart_b {w0 w : World} {r : List Thing} {kb N : Nat} (h : Hp w0 w (Book kb N :: r)) (hN : N < 90000) :
    Calls Tryd.prog 17 #[.pointer (some ⟨kb, 0, none⟩)] w fun e w' => e = .returned (.bool true) ∧ Below w0.heap.size w0 w' := by
  obtain ⟨⟨n, xs, vb⟩, hk, h1⟩ := h.ex
  have h2 : Hp w0 w (Bkt kb n vb :: Rows_ vb (xs.map nil_) :: (xs.map Kp ++ r)) := by simpa using h1.unAlls
  obtain ⟨k1, k2, k3, k4⟩ := hk
  simp only at k1 k2 k3 k4
  exact apart_c h2 (fun y hy => by have := k4 y hy; omega) (by omega)
end Go.Proofs.YtllfkgdmneabiaaDoor
