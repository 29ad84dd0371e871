/- Cores: what an instruction does, in plain words. No program in sight. -/
import Derived.Test.YtijkkompnfpdeaaGreatDoorLb
set_option linter.unusedVariables false
set_option linter.unusedSimpArgs false
namespace Go.Proofs.YtijkkompnfpdeaaGreatDoor
open Go.RowKit

/-- A word of 32 bits, as a value. -/
abbrev wv (u : UInt32) : Value := .int .u32 (u.toNat : Int)
/-- What a core has. -/
structure Cs where
  r : List UInt32
  at_ : Int
  mem : List UInt8
  says : List UInt8
  asked : Bool
/-- With a sign. -/
def sg (a : UInt32) : Int := if a.toNat < 2147483648 then (a.toNat : Int) else (a.toNat : Int) - 4294967296
def doP (o : Nat) (a b : UInt32) : UInt32 :=
  match o with
  | 3 => a + b
  | 4 => a - b
  | 5 => a * b
  | 6 => a &&& b
  | 7 => a ||| b
  | 8 => a ^^^ b
  | 9 => a <<< (b &&& 31)
  | _ => a >>> (b &&& 31)
def holdsP (o : Nat) (a b : UInt32) : Bool :=
  match o with
  | 15 => a == b
  | 16 => a != b
  | 17 => decide (sg a < sg b)
  | _ => decide (a.toNat < b.toNat)
/-- A byte with a sign. -/
def s8 (c : UInt8) : Int := if c.toNat < 128 then (c.toNat : Int) else (c.toNat : Int) - 256
def rg (s : Cs) (k : UInt8) : UInt32 := s.r.getD k.toNat 0
/-- A register is written. -/
def wrg (s : Cs) (k : UInt8) (v : UInt32) : Cs := { s with r := s.r.set k.toNat v }
/-- A word of bytes, the highest one first. -/
def ld4 (m : List UInt8) (k : Nat) : UInt32 := UInt32.ofNat ((((m.getD k 0).toNat * 256 + (m.getD (k + 1) 0).toNat) * 256 + (m.getD (k + 2) 0).toNat) * 256 + (m.getD (k + 3) 0).toNat)
/-- Its bytes. -/
def w4 (v : UInt32) : List UInt8 := [UInt8.ofNat (v.toNat / 16777216), UInt8.ofNat (v.toNat / 65536), UInt8.ofNat (v.toNat / 256), UInt8.ofNat v.toNat]
/-- Bytes laid from a place on. -/
def layB (m : List UInt8) (k : Nat) : List UInt8 → List UInt8
  | [] => m
  | x :: l => layB (m.set k x) (k + 1) l
/-- Where. -/
def plc (s : Cs) (x : I4) : UInt32 := rg s x.2.2.1 + UInt32.ofNat x.2.2.2.toNat
/-- What an instruction that asks nothing does, and how far it goes on beside the next one; none: it is at fault. -/
def doesC (x : I4) (s : Cs) : Option (Cs × Int) :=
  match x.1.toNat with
  | 0 => some (s, 0)
  | 1 => some (wrg s x.2.1 (UInt32.ofNat (x.2.2.1.toNat * 256 + x.2.2.2.toNat)), 0)
  | 2 => some (wrg s x.2.1 (rg s x.2.2.1), 0)
  | 11 => if (plc s x).toNat + 4 ≤ s.mem.length then some (wrg s x.2.1 (ld4 s.mem (plc s x).toNat), 0) else none
  | 12 => if (plc s x).toNat + 4 ≤ s.mem.length then some ({ s with mem := layB s.mem (plc s x).toNat (w4 (rg s x.2.1)) }, 0) else none
  | 13 => if (plc s x).toNat + 1 ≤ s.mem.length then some (wrg s x.2.1 (UInt32.ofNat (s.mem.getD (plc s x).toNat 0).toNat), 0) else none
  | 14 => if (plc s x).toNat + 1 ≤ s.mem.length then some ({ s with mem := s.mem.set (plc s x).toNat (UInt8.ofNat (rg s x.2.1).toNat) }, 0) else none
  | 15 | 16 | 17 | 18 => some (s, if holdsP x.1.toNat (rg s x.2.1) (rg s x.2.2.1) then s8 x.2.2.2 else 0)
  | 19 => some (s, (x.2.1.toNat * 256 + x.2.2.1.toNat : Nat) - s.at_ - 1)
  | 20 => some ({ s with says := s.says ++ [UInt8.ofNat (rg s x.2.1).toNat] }, 0)
  | o => some (wrg s x.2.1 (doP o (rg s x.2.2.1) (rg s x.2.2.2)), 0)
/-- What is asked. -/
structure Ak where
  what : UInt8
  h : UInt32
  v : UInt32
  m : UInt32
  wait : Int
def ak0 : Ak := ⟨0, 0, 0, 0, 0⟩
/-- What is asked by an instruction that asks. -/
def askC (x : I4) (s : Cs) : Ak := if x.1.toNat = 22 then { ak0 with what := 20 } else ⟨x.2.1, s.r.getD 0 0, s.r.getD 1 0, s.r.getD 2 0, sg (s.r.getD 3 0)⟩
/-- A step: what it has, whether it asks, what, and the error. -/
def stepC (c : List I4) (s : Cs) : Cs × Bool × Ak × Int :=
  if s.asked then (s, false, ak0, 7)
  else if h : 0 ≤ s.at_ ∧ s.at_ < c.length then
    let x := c[s.at_.toNat]'(by omega)
    if 21 ≤ x.1.toNat then ({ s with asked := true, at_ := s.at_ + 1 }, true, askC x s, 0)
    else match doesC x s with
      | some (t, d) => ({ t with at_ := t.at_ + (1 + d) }, false, ak0, 0)
      | none => (s, false, ak0, 15)
  else (s, false, ak0, 15)
/-- An answer. -/
def answC (s : Cs) (e : Int) (v : UInt32) : Cs × Int :=
  if s.asked then ({ s with asked := false, r := (s.r.set 0 (UInt32.ofNat (e % 4294967296).toNat)).set 1 v }, 0) else (s, 7)
/-- At first. -/
def firstC (n : Nat) (d : List UInt8) : Cs := ⟨List.replicate 8 0, 0, d ++ List.replicate (n - d.length) 0, [], false⟩

theorem layB_len : ∀ (l m : List UInt8) (k : Nat), (layB m k l).length = m.length
  | [], _, _ => rfl
  | x :: l, m, k => by rw [layB, layB_len l, List.length_set]
theorem doesC_mem {x : I4} {s t : Cs} {d : Int} (h : doesC x s = some (t, d)) : t.mem.length = s.mem.length ∧ t.r.length = s.r.length ∧ t.at_ = s.at_ ∧ t.asked = s.asked ∧ t.says.length ≤ s.says.length + 1 ∧ s.says.length ≤ t.says.length := by
  unfold doesC at h
  split at h <;> (try split at h) <;> first | (cases h; done) | (obtain ⟨rfl, rfl⟩ := Prod.mk.inj (Option.some.inj h); simp [wrg, layB_len])
theorem firstC_mem {n : Nat} {d : List UInt8} (h : d.length ≤ n) : (firstC n d).mem.length = n := by simp [firstC]; omega
end Go.Proofs.YtijkkompnfpdeaaGreatDoor
