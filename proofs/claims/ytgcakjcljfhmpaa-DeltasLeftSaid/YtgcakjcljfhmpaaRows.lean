/-
  No cell of these rows narrows 'for every input' (looked for: loops, veiled, ifaces, maps, wideKeys, modest, calm, conditions, laid).
  DERIVED. THE GIVEN ROWS OF THIS SEAT. 6 by the template 'for every input the law returns true; each argument reads behind the call as it read before'; 0 by the template 'total and deterministic' (their statements: YtgcakjcljfhmpaaTotals.lean).
  GIVEN WITH THE SEED: the statements are not yours to turn. If you find one false, say at which input.
  Laid BY PROGRAM, IN A SANDBOX (cutbox-rows.mjs): the forced cells as the released guide's own fill.sh prints them over the translation 0c90a35c52297db0… (all of the seat's roots in one cut). By AI agents, Wed Nov 11 2026. No macro, syntax, notation, axiom, sorry.
-/
import Derived.Test.YtgcakjcljfhmpaaChecked
import GoSem.Claim
import GoSem.ClaimJoined
import GoSem.ClaimMapViews
import Derived.JoinedTies
import Derived.KernelRfl
namespace Go.Proofs.Ytgcakjcljfhmpaa
/- THE CELL 'sum', in the pinned program and in every row, IS THE sha256 OF THE DUMP (.gsa) THAT YtgcakjcljfhmpaaProg.lean LOADS. Nothing in Lean hashes anything: it is a label: what it is worth is what the hold of that sum in a sandbox is worth. -/
noncomputable def Try.pinned : Pinned := { name := "ytgcakjcljfhmpaa", sum := "0c90a35c52297db05cbd86691a6f2934a77e3f2d543ef37dc21e794c32278a89", checked := Try.checked }
namespace Rows
def none {H : Type} : Left H := { results := [], args := [] }

/-- 'timekeeperlaw10.DeltasNone': WHATEVER THE INPUT: true; the input reads as it did. -/
def deltasNoneSpec : ChangeSpec := { name := "deltasNone", fn := fun _ => fun
  | [d1, d2] => { results := [.lit (.bool true)], args := [d1, d2] }
  | _ => none }
def deltasNoneRow : OpenClaim := { program := "ytgcakjcljfhmpaa", sum := "0c90a35c52297db05cbd86691a6f2934a77e3f2d543ef37dc21e794c32278a89", func := "timekeeper/timekeeperlaw10.DeltasNone", spec := "deltasNone", inPlace := ["slices.overlaps[timekeeper/deltas.pair[int, int64]]"], unfollowed := true, recurses := true, apart := false }
def DeltasNoneSaid : Prop := deltasNoneRow.holds Try.pinned (OpenSpec.ofChange deltasNoneSpec)

/-- ITS FALSE NEIGHBOUR: 'it returns false'. Refute it at one input. -/
def deltasNoneWrong : ChangeSpec := { name := "deltasNone", fn := fun _ => fun
  | [d1, d2] => { results := [.lit (.bool false)], args := [d1, d2] }
  | _ => none }
def DeltasNoneWrongFalsely : Prop := deltasNoneRow.holds Try.pinned (OpenSpec.ofChange deltasNoneWrong)

/-- 'timekeeperlaw10.DeltasWake': WHATEVER THE INPUT: true; the input reads as it did. -/
def deltasWakeSpec : ChangeSpec := { name := "deltasWake", fn := fun _ => fun
  | [d] => { results := [.lit (.bool true)], args := [d] }
  | _ => none }
def deltasWakeRow : OpenClaim := { program := "ytgcakjcljfhmpaa", sum := "0c90a35c52297db05cbd86691a6f2934a77e3f2d543ef37dc21e794c32278a89", func := "timekeeper/timekeeperlaw10.DeltasWake", spec := "deltasWake", inPlace := ["slices.overlaps[timekeeper/deltas.pair[int, int64]]"], unfollowed := true, recurses := true, apart := false }
def DeltasWakeSaid : Prop := deltasWakeRow.holds Try.pinned (OpenSpec.ofChange deltasWakeSpec)

/-- ITS FALSE NEIGHBOUR: 'it returns false'. Refute it at one input. -/
def deltasWakeWrong : ChangeSpec := { name := "deltasWake", fn := fun _ => fun
  | [d] => { results := [.lit (.bool false)], args := [d] }
  | _ => none }
def DeltasWakeWrongFalsely : Prop := deltasWakeRow.holds Try.pinned (OpenSpec.ofChange deltasWakeWrong)

/-- 'timekeeperlaw10.DeltasLeft': WHATEVER THE INPUT: true; the input reads as it did. -/
def deltasLeftSpec : ChangeSpec := { name := "deltasLeft", fn := fun _ => fun
  | [d1, d2] => { results := [.lit (.bool true)], args := [d1, d2] }
  | _ => none }
def deltasLeftRow : OpenClaim := { program := "ytgcakjcljfhmpaa", sum := "0c90a35c52297db05cbd86691a6f2934a77e3f2d543ef37dc21e794c32278a89", func := "timekeeper/timekeeperlaw10.DeltasLeft", spec := "deltasLeft", inPlace := ["slices.overlaps[timekeeper/deltas.pair[int, int64]]"], unfollowed := true, recurses := true, apart := false }
def DeltasLeftSaid : Prop := deltasLeftRow.holds Try.pinned (OpenSpec.ofChange deltasLeftSpec)

/-- ITS FALSE NEIGHBOUR: 'it returns false'. Refute it at one input. -/
def deltasLeftWrong : ChangeSpec := { name := "deltasLeft", fn := fun _ => fun
  | [d1, d2] => { results := [.lit (.bool false)], args := [d1, d2] }
  | _ => none }
def DeltasLeftWrongFalsely : Prop := deltasLeftRow.holds Try.pinned (OpenSpec.ofChange deltasLeftWrong)

/-- 'timekeeperlaw10.DeltasApart': WHATEVER THE INPUT: true; the input reads as it did. -/
def deltasApartSpec : ChangeSpec := { name := "deltasApart", fn := fun _ => fun
  | [d1, d2, d3] => { results := [.lit (.bool true)], args := [d1, d2, d3] }
  | _ => none }
def deltasApartRow : OpenClaim := { program := "ytgcakjcljfhmpaa", sum := "0c90a35c52297db05cbd86691a6f2934a77e3f2d543ef37dc21e794c32278a89", func := "timekeeper/timekeeperlaw10.DeltasApart", spec := "deltasApart", inPlace := ["slices.overlaps[timekeeper/deltas.pair[int, int64]]"], unfollowed := true, recurses := true, apart := false }
def DeltasApartSaid : Prop := deltasApartRow.holds Try.pinned (OpenSpec.ofChange deltasApartSpec)

/-- ITS FALSE NEIGHBOUR: 'it returns false'. Refute it at one input. -/
def deltasApartWrong : ChangeSpec := { name := "deltasApart", fn := fun _ => fun
  | [d1, d2, d3] => { results := [.lit (.bool false)], args := [d1, d2, d3] }
  | _ => none }
def DeltasApartWrongFalsely : Prop := deltasApartRow.holds Try.pinned (OpenSpec.ofChange deltasApartWrong)

/-- 'timekeeperlaw10.DeltasLong': WHATEVER THE INPUT: true; the input reads as it did. -/
def deltasLongSpec : ChangeSpec := { name := "deltasLong", fn := fun _ => fun
  | [d1, d2] => { results := [.lit (.bool true)], args := [d1, d2] }
  | _ => none }
def deltasLongRow : OpenClaim := { program := "ytgcakjcljfhmpaa", sum := "0c90a35c52297db05cbd86691a6f2934a77e3f2d543ef37dc21e794c32278a89", func := "timekeeper/timekeeperlaw10.DeltasLong", spec := "deltasLong", inPlace := ["slices.overlaps[timekeeper/deltas.pair[int, int64]]"], unfollowed := true, recurses := true, apart := false }
def DeltasLongSaid : Prop := deltasLongRow.holds Try.pinned (OpenSpec.ofChange deltasLongSpec)

/-- ITS FALSE NEIGHBOUR: 'it returns false'. Refute it at one input. -/
def deltasLongWrong : ChangeSpec := { name := "deltasLong", fn := fun _ => fun
  | [d1, d2] => { results := [.lit (.bool false)], args := [d1, d2] }
  | _ => none }
def DeltasLongWrongFalsely : Prop := deltasLongRow.holds Try.pinned (OpenSpec.ofChange deltasLongWrong)

/-- 'timekeeperlaw10.DeltasRefused': WHATEVER THE INPUT: true; the input reads as it did. -/
def deltasRefusedSpec : ChangeSpec := { name := "deltasRefused", fn := fun _ => fun
  | [d1, d2, d3] => { results := [.lit (.bool true)], args := [d1, d2, d3] }
  | _ => none }
def deltasRefusedRow : OpenClaim := { program := "ytgcakjcljfhmpaa", sum := "0c90a35c52297db05cbd86691a6f2934a77e3f2d543ef37dc21e794c32278a89", func := "timekeeper/timekeeperlaw10.DeltasRefused", spec := "deltasRefused", inPlace := ["slices.overlaps[timekeeper/deltas.pair[int, int64]]"], unfollowed := true, recurses := true, apart := false }
def DeltasRefusedSaid : Prop := deltasRefusedRow.holds Try.pinned (OpenSpec.ofChange deltasRefusedSpec)

/-- ITS FALSE NEIGHBOUR: 'it returns false'. Refute it at one input. -/
def deltasRefusedWrong : ChangeSpec := { name := "deltasRefused", fn := fun _ => fun
  | [d1, d2, d3] => { results := [.lit (.bool false)], args := [d1, d2, d3] }
  | _ => none }
def DeltasRefusedWrongFalsely : Prop := deltasRefusedRow.holds Try.pinned (OpenSpec.ofChange deltasRefusedWrong)

/- THE SECOND FORM. 'bulk': how many values and letters a reading holds, each counted each time it is reached (what is shared counts as often as it is met; a slice's spare places count too). A statement '..UptoSaid' is the law's where the arguments, and the package variables that the reading takes, are together of bulk at most 1048576: NARROWER than '..Said'. Prove '..Said' where nothing that the law and all that it calls make is longer than what came in: it says more and counts as full. Else prove '..UptoSaid'. A law counts once. -/
mutual
def uptoBulk {H : Type} : DataW H → Nat
  | .lit (.string bytes) => bytes.length + 1
  | .lit _ => 1
  | .nil => 1
  | .ptr d => uptoBulk d + 1
  | .slice elems spare => uptoBulkAll elems + uptoBulkAll spare + 1
  | .agg parts => uptoBulkAll parts + 1
  | .iface _ d => uptoBulk d + 1
  | .map entries => uptoBulkEntries entries + 1
  | .held _ => 1
def uptoBulkAll {H : Type} : List (DataW H) → Nat
  | [] => 0
  | d :: r => uptoBulk d + uptoBulkAll r
def uptoBulkEntries {H : Type} : List (Lit × DataW H) → Nat
  | [] => 0
  | x :: r => uptoBulkEntry x + uptoBulkEntries r
def uptoBulkEntry {H : Type} : Lit × DataW H → Nat
  | (.string bytes, d) => bytes.length + uptoBulk d + 1
  | (_, d) => uptoBulk d + 1
 end
def uptoSmall : (H : Type) → List (DataW H) → Bool := fun _ ds => decide (uptoBulkAll ds ≤ 1048576)
def OpenSpec.upto (s : _root_.Go.ChangeSpec) : _root_.Go.OpenSpec := { _root_.Go.OpenSpec.ofChange s with cond := some uptoSmall }

/-- 'timekeeperlaw10.DeltasNone', WHERE WHAT IT READS IS OF BULK AT MOST 1048576: true; the input reads as it did. -/
def deltasNoneUptoRow : OpenClaim := { program := "ytgcakjcljfhmpaa", sum := "0c90a35c52297db05cbd86691a6f2934a77e3f2d543ef37dc21e794c32278a89", func := "timekeeper/timekeeperlaw10.DeltasNone", spec := "deltasNone", inPlace := ["slices.overlaps[timekeeper/deltas.pair[int, int64]]"], unfollowed := true, recurses := true, apart := false, narrowed := true }
def DeltasNoneUptoSaid : Prop := deltasNoneUptoRow.holds Try.pinned (OpenSpec.upto deltasNoneSpec)

/-- 'timekeeperlaw10.DeltasWake', WHERE WHAT IT READS IS OF BULK AT MOST 1048576: true; the input reads as it did. -/
def deltasWakeUptoRow : OpenClaim := { program := "ytgcakjcljfhmpaa", sum := "0c90a35c52297db05cbd86691a6f2934a77e3f2d543ef37dc21e794c32278a89", func := "timekeeper/timekeeperlaw10.DeltasWake", spec := "deltasWake", inPlace := ["slices.overlaps[timekeeper/deltas.pair[int, int64]]"], unfollowed := true, recurses := true, apart := false, narrowed := true }
def DeltasWakeUptoSaid : Prop := deltasWakeUptoRow.holds Try.pinned (OpenSpec.upto deltasWakeSpec)

/-- 'timekeeperlaw10.DeltasLeft', WHERE WHAT IT READS IS OF BULK AT MOST 1048576: true; the input reads as it did. -/
def deltasLeftUptoRow : OpenClaim := { program := "ytgcakjcljfhmpaa", sum := "0c90a35c52297db05cbd86691a6f2934a77e3f2d543ef37dc21e794c32278a89", func := "timekeeper/timekeeperlaw10.DeltasLeft", spec := "deltasLeft", inPlace := ["slices.overlaps[timekeeper/deltas.pair[int, int64]]"], unfollowed := true, recurses := true, apart := false, narrowed := true }
def DeltasLeftUptoSaid : Prop := deltasLeftUptoRow.holds Try.pinned (OpenSpec.upto deltasLeftSpec)

/-- 'timekeeperlaw10.DeltasApart', WHERE WHAT IT READS IS OF BULK AT MOST 1048576: true; the input reads as it did. -/
def deltasApartUptoRow : OpenClaim := { program := "ytgcakjcljfhmpaa", sum := "0c90a35c52297db05cbd86691a6f2934a77e3f2d543ef37dc21e794c32278a89", func := "timekeeper/timekeeperlaw10.DeltasApart", spec := "deltasApart", inPlace := ["slices.overlaps[timekeeper/deltas.pair[int, int64]]"], unfollowed := true, recurses := true, apart := false, narrowed := true }
def DeltasApartUptoSaid : Prop := deltasApartUptoRow.holds Try.pinned (OpenSpec.upto deltasApartSpec)

/-- 'timekeeperlaw10.DeltasLong', WHERE WHAT IT READS IS OF BULK AT MOST 1048576: true; the input reads as it did. -/
def deltasLongUptoRow : OpenClaim := { program := "ytgcakjcljfhmpaa", sum := "0c90a35c52297db05cbd86691a6f2934a77e3f2d543ef37dc21e794c32278a89", func := "timekeeper/timekeeperlaw10.DeltasLong", spec := "deltasLong", inPlace := ["slices.overlaps[timekeeper/deltas.pair[int, int64]]"], unfollowed := true, recurses := true, apart := false, narrowed := true }
def DeltasLongUptoSaid : Prop := deltasLongUptoRow.holds Try.pinned (OpenSpec.upto deltasLongSpec)

/-- 'timekeeperlaw10.DeltasRefused', WHERE WHAT IT READS IS OF BULK AT MOST 1048576: true; the input reads as it did. -/
def deltasRefusedUptoRow : OpenClaim := { program := "ytgcakjcljfhmpaa", sum := "0c90a35c52297db05cbd86691a6f2934a77e3f2d543ef37dc21e794c32278a89", func := "timekeeper/timekeeperlaw10.DeltasRefused", spec := "deltasRefused", inPlace := ["slices.overlaps[timekeeper/deltas.pair[int, int64]]"], unfollowed := true, recurses := true, apart := false, narrowed := true }
def DeltasRefusedUptoSaid : Prop := deltasRefusedUptoRow.holds Try.pinned (OpenSpec.upto deltasRefusedSpec)

end Rows
end Go.Proofs.Ytgcakjcljfhmpaa
