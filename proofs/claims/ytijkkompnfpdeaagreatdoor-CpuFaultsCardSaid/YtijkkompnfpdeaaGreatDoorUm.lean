/- Cores: what any instruction that asks nothing does: walked. -/
import Derived.Test.YtijkkompnfpdeaaGreatDoorUl
set_option linter.unusedVariables false
set_option linter.unusedSimpArgs false
namespace Go.Proofs.YtijkkompnfpdeaaGreatDoor
open Go.RowKit Go.Joins Go.Shelf
attribute [local go_sem] Oper.semAt_some

/-- Where registers stand, there stand numbers of some. -/
structure Regs8 (o x y z : Nat) : Prop where
  ra : o ≤ 22
  rx : 1 ≤ o → o ≤ 18 → x < 8
  rx2 : o = 20 → x < 8
  ry : 2 ≤ o → o ≤ 18 → y < 8
  rz : 3 ≤ o → o ≤ 10 → z < 8
theorem ik_regs {o x y z : UInt8} (h : ik (o, x, y, z) = true) : Regs8 o.toNat x.toNat y.toNat z.toNat := by
  unfold ik ck at h
  simp only [Bool.and_eq_true, decide_eq_true_eq] at h
  obtain ⟨h1, h2⟩ := h
  generalize o.toNat = k at *
  have hk : k = 0 ∨ k = 1 ∨ k = 2 ∨ k = 3 ∨ k = 4 ∨ k = 5 ∨ k = 6 ∨ k = 7 ∨ k = 8 ∨ k = 9 ∨ k = 10 ∨ k = 11 ∨ k = 12 ∨ k = 13 ∨ k = 14 ∨ k = 15 ∨ k = 16 ∨ k = 17 ∨ k = 18 ∨ k = 19 ∨ k = 20 ∨ k = 21 ∨ k = 22 := by omega
  rcases hk with rfl | rfl | rfl | rfl | rfl | rfl | rfl | rfl | rfl | rfl | rfl | rfl | rfl | rfl | rfl | rfl | rfl | rfl | rfl | rfl | rfl | rfl | rfl <;> simp [fl, rck] at h2 <;> exact ⟨by omega, by omega, by omega, by omega, by omega⟩
/-- What is left of an instruction: done, or at fault. -/
def DoesP (w0 : World) (r : List Thing) (b : Nat) (c : List I4) (s : Cs) (q : Option (Cs × Int)) (e : Ending) (w' : World) : Prop :=
  match q with
  | some (t, d) => e = .returned (.int .i64 d) ∧ Hp w0 w' (CR b c t :: r)
  | none => e = .panicked [PE 4] ∧ Hp w0 w' (CR b c s :: r)
set_option maxRecDepth 20000 in
theorem does_all {w0 w : World} {r : List Thing} {b ab : Nat} {c : List I4} {s : Cs} (o x y z : UInt8) (hk : ik (o, x, y, z) = true) (ho : o.toNat ≤ 20) (h0 : 0 ≤ s.at_) (h1 : s.at_ < 5000) (hs : s.says.length < 256) (H : Hp w0 w (CR b c s :: AB ab :: r)) :
    Calls Tryz.prog (rF o.toNat) (#[.pointer (some ⟨b, 0, none⟩), i4v (o, x, y, z)] ++ rC ab o.toNat) w (DoesP w0 (AB ab :: r) b c s (doesC (o, x, y, z) s)) := by
  have R := ik_regs hk
  have A : ∀ k, 3 ≤ k → k ≤ 10 → o.toNat = k → Calls Tryz.prog 95 #[.pointer (some ⟨b, 0, none⟩), i4v (o, x, y, z)] w (DoesP w0 (AB ab :: r) b c s (some (wrg s x (doP k (rg s y) (rg s z)), 0))) := fun k k1 k2 hk => by
    subst hk
    exact (opA_c (s := s) o x y z (by omega) (by omega) (R.rx (by omega) (by omega)) (R.ry (by omega) (by omega)) (R.rz (by omega) (by omega)) H).mono fun e w' h => h
  have C : ∀ k, 15 ≤ k → k ≤ 18 → o.toNat = k → Calls Tryz.prog 97 #[.pointer (some ⟨b, 0, none⟩), i4v (o, x, y, z)] w (DoesP w0 (AB ab :: r) b c s (some (s, if holdsP k (rg s x) (rg s y) then s8 z else 0))) := fun k k1 k2 hk => by
    subst hk
    exact (opC_c (s := s) o x y z (by omega) (by omega) (R.rx (by omega) (by omega)) (R.ry (by omega) (by omega)) H).mono fun e w' h => h
  have hk2 : o.toNat = 0 ∨ o.toNat = 1 ∨ o.toNat = 2 ∨ o.toNat = 3 ∨ o.toNat = 4 ∨ o.toNat = 5 ∨ o.toNat = 6 ∨ o.toNat = 7 ∨ o.toNat = 8 ∨ o.toNat = 9 ∨ o.toNat = 10 ∨ o.toNat = 11 ∨ o.toNat = 12 ∨ o.toNat = 13 ∨ o.toNat = 14 ∨ o.toNat = 15 ∨ o.toNat = 16 ∨ o.toNat = 17 ∨ o.toNat = 18 ∨ o.toNat = 19 ∨ o.toNat = 20 := by omega
  unfold doesC
  rcases hk2 with h | h | h | h | h | h | h | h | h | h | h | h | h | h | h | h | h | h | h | h | h <;> simp only [h]
  · exact (op0_c _ _ H o x y z rfl).mono fun e w' h => h
  · exact (op1_c (s := s) o x y z (R.rx (by omega) (by omega)) H).mono fun e w' h => h
  · exact (op2_c (s := s) o x y z (R.rx (by omega) (by omega)) (R.ry (by omega) (by omega)) H).mono fun e w' h => h
  · exact A 3 (by omega) (by omega) h
  · exact A 4 (by omega) (by omega) h
  · exact A 5 (by omega) (by omega) h
  · exact A 6 (by omega) (by omega) h
  · exact A 7 (by omega) (by omega) h
  · exact A 8 (by omega) (by omega) h
  · exact A 9 (by omega) (by omega) h
  · exact A 10 (by omega) (by omega) h
  · by_cases hf : (plc s (o, x, y, z)).toNat + 4 ≤ s.mem.length
    · rw [if_pos hf]; exact (op11y_c (s := s) o x y z (R.rx (by omega) (by omega)) (R.ry (by omega) (by omega)) hf H).mono fun e w' h => h
    · rw [if_neg hf]; exact (op11n_c (s := s) o x y z (R.rx (by omega) (by omega)) (R.ry (by omega) (by omega)) hf H).mono fun e w' h => h
  · by_cases hf : (plc s (o, x, y, z)).toNat + 4 ≤ s.mem.length
    · rw [if_pos hf]; exact (op12y_c (s := s) o x y z (R.rx (by omega) (by omega)) (R.ry (by omega) (by omega)) hf H).mono fun e w' h => h
    · rw [if_neg hf]; exact (op12n_c (s := s) o x y z (R.rx (by omega) (by omega)) (R.ry (by omega) (by omega)) hf H).mono fun e w' h => h
  · by_cases hf : (plc s (o, x, y, z)).toNat + 1 ≤ s.mem.length
    · rw [if_pos hf]; exact (op13y_c (s := s) o x y z (R.rx (by omega) (by omega)) (R.ry (by omega) (by omega)) hf H).mono fun e w' h => h
    · rw [if_neg hf]; exact (op13n_c (s := s) o x y z (R.rx (by omega) (by omega)) (R.ry (by omega) (by omega)) hf H).mono fun e w' h => h
  · by_cases hf : (plc s (o, x, y, z)).toNat + 1 ≤ s.mem.length
    · rw [if_pos hf]; exact (op14y_c (s := s) o x y z (R.rx (by omega) (by omega)) (R.ry (by omega) (by omega)) hf H).mono fun e w' h => h
    · rw [if_neg hf]; exact (op14n_c (s := s) o x y z (R.rx (by omega) (by omega)) (R.ry (by omega) (by omega)) hf H).mono fun e w' h => h
  · exact C 15 (by omega) (by omega) h
  · exact C 16 (by omega) (by omega) h
  · exact C 17 (by omega) (by omega) h
  · exact C 18 (by omega) (by omega) h
  · exact (op19_c (s := s) o x y z h0 h1 H).mono fun e w' h => h
  · exact (op20_c (s := s) o x y z (R.rx2 h) hs H).mono fun e w' h => h
set_option maxRecDepth 20000 in
theorem enters_rF (o : Nat) : ∀ args w, (callFunc (rF o) args).run Tryz.prog w = .ok (.enter (rF o) args) w := by
  unfold rF
  split
  all_goals first
    | exact enters_of Tryz.func79 (by kernel_rfl) rfl
    | exact enters_of Tryz.func80 (by kernel_rfl) rfl
    | exact enters_of Tryz.func81 (by kernel_rfl) rfl
    | exact enters_of Tryz.func82 (by kernel_rfl) rfl
    | exact enters_of Tryz.func85 (by kernel_rfl) rfl
    | exact enters_of Tryz.func88 (by kernel_rfl) rfl
    | exact enters_of Tryz.func91 (by kernel_rfl) rfl
    | exact enters_of Tryz.func93 (by kernel_rfl) rfl
    | exact enters_of Tryz.func94 (by kernel_rfl) rfl
    | exact enters_of Tryz.func95 (by kernel_rfl) rfl
    | exact enters_of Tryz.func97 (by kernel_rfl) rfl
end Go.Proofs.YtijkkompnfpdeaaGreatDoor
