/- Images: what alive() asks: plain. -/
import Derived.Test.YtcfoljdpffonhaaGreatDoorLm
set_option linter.unusedVariables false
set_option linter.unusedSimpArgs false
namespace Go.Proofs.YtcfoljdpffonhaaGreatDoor
open Go.RowKit

theorem itoa_lit (n : Nat) : Lib.itoa (n : Int) = Lib.decDigits n := by rw [itoa_nat (by omega)]; simp
theorem dec_small {n : Nat} (h : n < 10) : Lib.decDigits n = [UInt8.ofNat (48 + n)] := by rw [Lib.decDigits, dif_pos h]
theorem dec_big {n : Nat} (h : ¬ n < 10) : Lib.decDigits n = Lib.decDigits (n / 10) ++ [UInt8.ofNat (48 + n % 10)] := by rw [Lib.decDigits, dif_neg h]
theorem i1 {n : Nat} (h : n < 10) : Lib.itoa (n : Int) = [UInt8.ofNat (48 + n)] := (itoa_lit n).trans (dec_small h)
theorem i3 {n : Nat} (h : ¬ n < 10) (h2 : ¬ n / 10 < 10) (h3 : n / 10 / 10 < 10) : Lib.itoa (n : Int) = [UInt8.ofNat (48 + n / 10 / 10), UInt8.ofNat (48 + n / 10 % 10), UInt8.ofNat (48 + n % 10)] := by rw [itoa_lit, dec_big h, dec_big h2, dec_small h3]; rfl
theorem i4 {n : Nat} (h : ¬ n < 10) (h2 : ¬ n / 10 < 10) (h3 : ¬ n / 10 / 10 < 10) (h4 : n / 10 / 10 / 10 < 10) : Lib.itoa (n : Int) = [UInt8.ofNat (48 + n / 10 / 10 / 10), UInt8.ofNat (48 + n / 10 / 10 % 10), UInt8.ofNat (48 + n / 10 % 10), UInt8.ofNat (48 + n % 10)] := by rw [itoa_lit, dec_big h, dec_big h2, dec_big h3, dec_small h4]; rfl
theorem txo_eq {op : Nat} {a b c : Int} {l : List Int} (h : flds op a b c = some l) : txo op a b c = txt op l := by unfold txo; rw [h]
theorem t_set : txo 1 1 1 44 = [115, 101, 116, 32, 114, 49, 32, 51, 48, 48] := by
  rw [txo_eq (l := [1, 300]) (by decide)]
  show wl 1 ++ ((32 :: (114 :: Lib.itoa ((1 : Nat) : Int))) ++ ((32 :: Lib.itoa ((300 : Nat) : Int)) ++ [])) = _
  rw [i1 (by decide), i3 (by decide) (by decide) (by decide)]; rfl
theorem t_end : txo 22 0 0 0 = [101, 110, 100] := by
  rw [txo_eq (l := []) (by decide)]; rfl
theorem inst_txo {op : Nat} {a b c : Int} (hb : By3 a b c) (hk : ck op a b c = true) : inst (txo op a b c) = some (UInt8.ofNat op, UInt8.ofNat a.toNat, UInt8.ofNat b.toNat, UInt8.ofNat c.toNat) := by
  obtain ⟨bs, h, hv⟩ := prs_of hb hk
  have he : rv op (some bs) = .agg #[.int .u8 op, .int .u8 (bs.getD 0 0), .int .u8 (bs.getD 1 0), .int .u8 (bs.getD 2 0)] := rfl
  rw [he] at hv
  unfold inS at hv
  injection hv with hv
  simp only [Array.mk.injEq, List.cons.injEq, Value.int.injEq, true_and, and_true] at hv
  unfold inst
  rw [h]
  simp only [Option.map_some, hv.1, hv.2.1, hv.2.2]
theorem num_of {n : Nat} {s : List UInt8} (h : Lib.itoa (n : Int) = s) (hn : n < 9223372036854775808) : nV s = n ∧ nB s = true := by
  have h1 := nS_itoa (n := (n : Int)) (by omega) (by omega)
  rw [h] at h1
  exact ⟨nV_of h1, by unfold nB; rw [h1]; rfl⟩
theorem line_size {t : Rs} {s re : List UInt8} (h : Lib.cut s [32] = ([115, 105, 122, 101], re, true)) : lineP t s = ({ t with n := nV re, z := true }, szok t.z re) := by
  unfold lineP; rw [h]; rfl
theorem line_data {t : Rs} {s re : List UInt8} (h : Lib.cut s [32] = ([100, 97, 116, 97], re, true)) (hd : dok re = true) : lineP t s = ({ t with d := t.d ++ hbs re }, true) := by
  unfold lineP; rw [h]; simp only; rw [if_neg (by decide), if_pos trivial, if_pos trivial, if_pos hd, hd]
theorem line_inst {t : Rs} {s : List UInt8} {x : I4} (h1 : (Lib.cut s [32]).1 ≠ [115, 105, 122, 101]) (h2 : (Lib.cut s [32]).1 ≠ [100, 97, 116, 97]) (h : inst s = some x) : lineP t s = ({ t with c := t.c ++ [x] }, true) := by
  unfold lineP; rw [if_neg h1, if_neg h2, h]; rfl
theorem pl_skip {t : Rs} {l : List UInt8} {ls : List (List UInt8)} {i : Nat} (h : skip l = true) : parseL t (l :: ls) i = parseL t ls (i + 1) := by rw [parseL, if_pos h]
theorem pl_line {t t' : Rs} {l : List UInt8} {ls : List (List UInt8)} {i : Nat} (h : skip l = false) (h2 : lineP t l = (t', true)) : parseL t (l :: ls) i = parseL t' ls (i + 1) := by rw [parseL, if_neg (by simp [h]), h2, if_pos rfl]
theorem pl_bad {t t' : Rs} {l : List UInt8} {ls : List (List UInt8)} {i : Nat} (h : skip l = false) (h2 : lineP t l = (t', false)) : parseL t (l :: ls) i = .inr i := by rw [parseL, if_neg (by simp [h]), h2, if_neg (by simp)]
abbrev T1 : List UInt8 := [115, 105, 122, 101, 32, 56, 10, 100, 97, 116, 97, 32, 48, 49, 102, 102, 10, 115, 101, 116, 32, 114, 49, 32, 51, 48, 48, 10, 101, 110, 100, 10]
abbrev T2 : List UInt8 := [35, 10, 10, 115, 105, 122, 101, 32, 49, 10, 115, 105, 122, 101, 32, 49]
abbrev T3 : List UInt8 := [100, 97, 116, 97, 32, 48, 48]
abbrev T4 : List UInt8 := [115, 105, 122, 101, 32, 52, 48, 57, 55]
theorem al1 : parseL rs0 (lns T1) 0 = .inl ⟨8, [1, 255], [(1, 1, 1, 44), (22, 0, 0, 0)], true⟩ := by
  have e : lns T1 = [[115, 105, 122, 101, 32, 56], [100, 97, 116, 97, 32, 48, 49, 102, 102], [115, 101, 116, 32, 114, 49, 32, 51, 48, 48], [101, 110, 100], []] := by decide
  have h8 := num_of (n := 8) (s := [56]) (i1 (by decide)) (by decide)
  have hs := inst_txo (op := 1) (a := 1) (b := 1) (c := 44) ⟨by decide, by decide, by decide⟩ (by decide)
  have hq := inst_txo (op := 22) (a := 0) (b := 0) (c := 0) ⟨by decide, by decide, by decide⟩ (by decide)
  rw [t_set] at hs
  rw [t_end] at hq
  rw [e, pl_line (t' := ⟨8, [], [], true⟩) (by decide) (by rw [line_size (re := [56]) (by decide), h8.1]; unfold szok; rw [h8.1, h8.2]; rfl),
    pl_line (t' := ⟨8, [1, 255], [], true⟩) (by decide) (by rw [line_data (re := [48, 49, 102, 102]) (by decide) (by decide)]; rfl),
    pl_line (by decide) (line_inst (by decide) (by decide) hs), pl_line (by decide) (line_inst (by decide) (by decide) hq), pl_skip (by decide)]
  rfl
theorem al2 : parseL rs0 (lns T2) 0 = .inr 3 := by
  have e : lns T2 = [[35], [], [115, 105, 122, 101, 32, 49], [115, 105, 122, 101, 32, 49]] := by decide
  have h8 := num_of (n := 1) (s := [49]) (i1 (by decide)) (by decide)
  rw [e, pl_skip (by decide), pl_skip (by decide), pl_line (t' := ⟨1, [], [], true⟩) (by decide) (by rw [line_size (re := [49]) (by decide), h8.1]; unfold szok; rw [h8.1, h8.2]; rfl),
    pl_bad (t' := ⟨1, [], [], true⟩) (by decide) (by rw [line_size (re := [49]) (by decide), h8.1]; unfold szok; rw [h8.1, h8.2]; rfl)]
theorem al3 : parseL rs0 (lns T3) 0 = .inl ⟨0, [0], [], false⟩ := by
  have e : lns T3 = [[100, 97, 116, 97, 32, 48, 48]] := by decide
  rw [e, pl_line (t' := ⟨0, [0], [], false⟩) (by decide) (by rw [line_data (re := [48, 48]) (by decide) (by decide)]; rfl)]
  rfl
theorem al4 : parseL rs0 (lns T4) 0 = .inl ⟨4097, [], [], true⟩ := by
  have e : lns T4 = [[115, 105, 122, 101, 32, 52, 48, 57, 55]] := by decide
  have h8 := num_of (n := 4097) (s := [52, 48, 57, 55]) (i4 (by decide) (by decide) (by decide) (by decide)) (by decide)
  rw [e, pl_line (t' := ⟨4097, [], [], true⟩) (by decide) (by rw [line_size (re := [52, 48, 57, 55]) (by decide), h8.1]; unfold szok; rw [h8.1, h8.2]; rfl)]
  rfl
theorem al5 : imck 8 [1, 255] [(1, 1, 1, 44), (22, 0, 0, 0)] = true := by decide
theorem al6 : imck 0 [0] [] = false := by decide
theorem al7 : imck 4097 [] [] = false := by decide
theorem al8 : imget [116, 107, 49, 0, 0, 0, 1, 0, 0, 5] = none := by decide
theorem al9 : imput 8 [1, 255] [(1, 1, 1, 44), (22, 0, 0, 0)] = [116, 107, 49, 0, 8, 0, 2, 0, 2, 1, 255, 1, 1, 1, 44, 22, 0, 0, 0] := by decide
end Go.Proofs.YtcfoljdpffonhaaGreatDoor
