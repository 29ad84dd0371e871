/-
  No cell of these rows narrows 'for every input' (looked for: loops, veiled, ifaces, maps, wideKeys, modest, calm, conditions, laid).
  DERIVED. THE GIVEN ROWS OF THIS SEAT. 7 by the template 'for every input the law returns true; each argument reads behind the call as it read before'; 0 by the template 'total and deterministic' (their statements: YteojjboncaegkaaTotals.lean).
  GIVEN WITH THE SEED: the statements are not yours to turn. If you find one false, say at which input.
  Laid BY PROGRAM, IN A SANDBOX (cutbox-rows.mjs): the forced cells as the released guide's own fill.sh prints them over the translation c1ab5a7a09cdcdbd… (all of the seat's roots in one cut). By AI agents, Wed Nov 11 2026. No macro, syntax, notation, axiom, sorry.
-/
import Derived.Test.YteojjboncaegkaaChecked
import GoSem.Claim
import GoSem.ClaimJoined
import GoSem.ClaimMapViews
import Derived.JoinedTies
import Derived.KernelRfl
namespace Go.Proofs.Yteojjboncaegkaa
/- THE CELL 'sum', in the pinned program and in every row, IS THE sha256 OF THE DUMP (.gsa) THAT YteojjboncaegkaaProg.lean LOADS. Nothing in Lean hashes anything: it is a label: what it is worth is what the hold of that sum in a sandbox is worth. -/
noncomputable def Try.pinned : Pinned := { name := "yteojjboncaegkaa", sum := "c1ab5a7a09cdcdbd72a15c58caecb9050c8ffd334125f1158d5ef107e9fb00d0", checked := Try.checked }
namespace Rows
def none {H : Type} : Left H := { results := [], args := [] }

/-- 'timekeeperlaw12.MasksHolds': WHATEVER THE INPUT: true; the input reads as it did. -/
def masksHoldsSpec : ChangeSpec := { name := "masksHolds", fn := fun _ => fun
  | [d1, d2] => { results := [.lit (.bool true)], args := [d1, d2] }
  | _ => none }
def masksHoldsRow : OpenClaim := { program := "yteojjboncaegkaa", sum := "c1ab5a7a09cdcdbd72a15c58caecb9050c8ffd334125f1158d5ef107e9fb00d0", func := "timekeeper/timekeeperlaw12.MasksHolds", spec := "masksHolds", unfollowed := true, recurses := true, apart := false }
def MasksHoldsSaid : Prop := masksHoldsRow.holds Try.pinned (OpenSpec.ofChange masksHoldsSpec)

/-- ITS FALSE NEIGHBOUR: 'it returns false'. Refute it at one input. -/
def masksHoldsWrong : ChangeSpec := { name := "masksHolds", fn := fun _ => fun
  | [d1, d2] => { results := [.lit (.bool false)], args := [d1, d2] }
  | _ => none }
def MasksHoldsWrongFalsely : Prop := masksHoldsRow.holds Try.pinned (OpenSpec.ofChange masksHoldsWrong)

/-- 'timekeeperlaw12.MasksAfter': WHATEVER THE INPUT: true; the input reads as it did. -/
def masksAfterSpec : ChangeSpec := { name := "masksAfter", fn := fun _ => fun
  | [d1, d2] => { results := [.lit (.bool true)], args := [d1, d2] }
  | _ => none }
def masksAfterRow : OpenClaim := { program := "yteojjboncaegkaa", sum := "c1ab5a7a09cdcdbd72a15c58caecb9050c8ffd334125f1158d5ef107e9fb00d0", func := "timekeeper/timekeeperlaw12.MasksAfter", spec := "masksAfter", unfollowed := true, recurses := true, apart := false }
def MasksAfterSaid : Prop := masksAfterRow.holds Try.pinned (OpenSpec.ofChange masksAfterSpec)

/-- ITS FALSE NEIGHBOUR: 'it returns false'. Refute it at one input. -/
def masksAfterWrong : ChangeSpec := { name := "masksAfter", fn := fun _ => fun
  | [d1, d2] => { results := [.lit (.bool false)], args := [d1, d2] }
  | _ => none }
def MasksAfterWrongFalsely : Prop := masksAfterRow.holds Try.pinned (OpenSpec.ofChange masksAfterWrong)

/-- 'timekeeperlaw12.MasksBoth': WHATEVER THE INPUT: true; the input reads as it did. -/
def masksBothSpec : ChangeSpec := { name := "masksBoth", fn := fun _ => fun
  | [d1, d2] => { results := [.lit (.bool true)], args := [d1, d2] }
  | _ => none }
def masksBothRow : OpenClaim := { program := "yteojjboncaegkaa", sum := "c1ab5a7a09cdcdbd72a15c58caecb9050c8ffd334125f1158d5ef107e9fb00d0", func := "timekeeper/timekeeperlaw12.MasksBoth", spec := "masksBoth", unfollowed := true, recurses := true, apart := false }
def MasksBothSaid : Prop := masksBothRow.holds Try.pinned (OpenSpec.ofChange masksBothSpec)

/-- ITS FALSE NEIGHBOUR: 'it returns false'. Refute it at one input. -/
def masksBothWrong : ChangeSpec := { name := "masksBoth", fn := fun _ => fun
  | [d1, d2] => { results := [.lit (.bool false)], args := [d1, d2] }
  | _ => none }
def MasksBothWrongFalsely : Prop := masksBothRow.holds Try.pinned (OpenSpec.ofChange masksBothWrong)

/-- 'timekeeperlaw12.MasksMore': WHATEVER THE INPUT: true; the input reads as it did. -/
def masksMoreSpec : ChangeSpec := { name := "masksMore", fn := fun _ => fun
  | [d1, d2, d3] => { results := [.lit (.bool true)], args := [d1, d2, d3] }
  | _ => none }
def masksMoreRow : OpenClaim := { program := "yteojjboncaegkaa", sum := "c1ab5a7a09cdcdbd72a15c58caecb9050c8ffd334125f1158d5ef107e9fb00d0", func := "timekeeper/timekeeperlaw12.MasksMore", spec := "masksMore", unfollowed := true, recurses := true, apart := false }
def MasksMoreSaid : Prop := masksMoreRow.holds Try.pinned (OpenSpec.ofChange masksMoreSpec)

/-- ITS FALSE NEIGHBOUR: 'it returns false'. Refute it at one input. -/
def masksMoreWrong : ChangeSpec := { name := "masksMore", fn := fun _ => fun
  | [d1, d2, d3] => { results := [.lit (.bool false)], args := [d1, d2, d3] }
  | _ => none }
def MasksMoreWrongFalsely : Prop := masksMoreRow.holds Try.pinned (OpenSpec.ofChange masksMoreWrong)

/-- 'timekeeperlaw12.MasksGone': WHATEVER THE INPUT: true; the input reads as it did. -/
def masksGoneSpec : ChangeSpec := { name := "masksGone", fn := fun _ => fun
  | [d1, d2, d3] => { results := [.lit (.bool true)], args := [d1, d2, d3] }
  | _ => none }
def masksGoneRow : OpenClaim := { program := "yteojjboncaegkaa", sum := "c1ab5a7a09cdcdbd72a15c58caecb9050c8ffd334125f1158d5ef107e9fb00d0", func := "timekeeper/timekeeperlaw12.MasksGone", spec := "masksGone", unfollowed := true, recurses := true, apart := false }
def MasksGoneSaid : Prop := masksGoneRow.holds Try.pinned (OpenSpec.ofChange masksGoneSpec)

/-- ITS FALSE NEIGHBOUR: 'it returns false'. Refute it at one input. -/
def masksGoneWrong : ChangeSpec := { name := "masksGone", fn := fun _ => fun
  | [d1, d2, d3] => { results := [.lit (.bool false)], args := [d1, d2, d3] }
  | _ => none }
def MasksGoneWrongFalsely : Prop := masksGoneRow.holds Try.pinned (OpenSpec.ofChange masksGoneWrong)

/-- 'timekeeperlaw12.MasksBits': WHATEVER THE INPUT: true; the input reads as it did. -/
def masksBitsSpec : ChangeSpec := { name := "masksBits", fn := fun _ => fun
  | [d1, d2] => { results := [.lit (.bool true)], args := [d1, d2] }
  | _ => none }
def masksBitsRow : OpenClaim := { program := "yteojjboncaegkaa", sum := "c1ab5a7a09cdcdbd72a15c58caecb9050c8ffd334125f1158d5ef107e9fb00d0", func := "timekeeper/timekeeperlaw12.MasksBits", spec := "masksBits", unfollowed := true, recurses := true, apart := false }
def MasksBitsSaid : Prop := masksBitsRow.holds Try.pinned (OpenSpec.ofChange masksBitsSpec)

/-- ITS FALSE NEIGHBOUR: 'it returns false'. Refute it at one input. -/
def masksBitsWrong : ChangeSpec := { name := "masksBits", fn := fun _ => fun
  | [d1, d2] => { results := [.lit (.bool false)], args := [d1, d2] }
  | _ => none }
def MasksBitsWrongFalsely : Prop := masksBitsRow.holds Try.pinned (OpenSpec.ofChange masksBitsWrong)

/-- 'timekeeperlaw12.MasksParts': WHATEVER THE INPUT: true; the input reads as it did. -/
def masksPartsSpec : ChangeSpec := { name := "masksParts", fn := fun _ => fun
  | [d1, d2, d3] => { results := [.lit (.bool true)], args := [d1, d2, d3] }
  | _ => none }
def masksPartsRow : OpenClaim := { program := "yteojjboncaegkaa", sum := "c1ab5a7a09cdcdbd72a15c58caecb9050c8ffd334125f1158d5ef107e9fb00d0", func := "timekeeper/timekeeperlaw12.MasksParts", spec := "masksParts", unfollowed := true, recurses := true, apart := false }
def MasksPartsSaid : Prop := masksPartsRow.holds Try.pinned (OpenSpec.ofChange masksPartsSpec)

/-- ITS FALSE NEIGHBOUR: 'it returns false'. Refute it at one input. -/
def masksPartsWrong : ChangeSpec := { name := "masksParts", fn := fun _ => fun
  | [d1, d2, d3] => { results := [.lit (.bool false)], args := [d1, d2, d3] }
  | _ => none }
def MasksPartsWrongFalsely : Prop := masksPartsRow.holds Try.pinned (OpenSpec.ofChange masksPartsWrong)

/- THE SECOND FORM. 'bulk': how many values and letters a reading holds, each counted each time it is reached (what is shared counts as often as it is met; a slice's spare places count too). A statement '..UptoSaid' is the law's where the arguments, and the package variables that the reading takes, are together of bulk at most 1048576: NARROWER than '..Said'. Prove '..Said' where nothing that the law and all that it calls make is longer than what came in: it says more and counts as full. Else prove '..UptoSaid'. A law counts once. -/
mutual
def uptoBulk {H : Type} : DataW H → Nat
  | .lit (.string bytes) => bytes.length + 1
  | .lit _ => 1
  | .nil => 1
  | .ptr d => uptoBulk d + 1
  | .slice elems spare => uptoBulkAll elems + uptoBulkAll spare + 1
  | .agg parts => uptoBulkAll parts + 1
  | .iface _ d => uptoBulk d + 1
  | .map entries => uptoBulkEntries entries + 1
  | .held _ => 1
def uptoBulkAll {H : Type} : List (DataW H) → Nat
  | [] => 0
  | d :: r => uptoBulk d + uptoBulkAll r
def uptoBulkEntries {H : Type} : List (Lit × DataW H) → Nat
  | [] => 0
  | x :: r => uptoBulkEntry x + uptoBulkEntries r
def uptoBulkEntry {H : Type} : Lit × DataW H → Nat
  | (.string bytes, d) => bytes.length + uptoBulk d + 1
  | (_, d) => uptoBulk d + 1
 end
def uptoSmall : (H : Type) → List (DataW H) → Bool := fun _ ds => decide (uptoBulkAll ds ≤ 1048576)
def OpenSpec.upto (s : _root_.Go.ChangeSpec) : _root_.Go.OpenSpec := { _root_.Go.OpenSpec.ofChange s with cond := some uptoSmall }

/-- 'timekeeperlaw12.MasksHolds', WHERE WHAT IT READS IS OF BULK AT MOST 1048576: true; the input reads as it did. -/
def masksHoldsUptoRow : OpenClaim := { program := "yteojjboncaegkaa", sum := "c1ab5a7a09cdcdbd72a15c58caecb9050c8ffd334125f1158d5ef107e9fb00d0", func := "timekeeper/timekeeperlaw12.MasksHolds", spec := "masksHolds", unfollowed := true, recurses := true, apart := false, narrowed := true }
def MasksHoldsUptoSaid : Prop := masksHoldsUptoRow.holds Try.pinned (OpenSpec.upto masksHoldsSpec)

/-- 'timekeeperlaw12.MasksAfter', WHERE WHAT IT READS IS OF BULK AT MOST 1048576: true; the input reads as it did. -/
def masksAfterUptoRow : OpenClaim := { program := "yteojjboncaegkaa", sum := "c1ab5a7a09cdcdbd72a15c58caecb9050c8ffd334125f1158d5ef107e9fb00d0", func := "timekeeper/timekeeperlaw12.MasksAfter", spec := "masksAfter", unfollowed := true, recurses := true, apart := false, narrowed := true }
def MasksAfterUptoSaid : Prop := masksAfterUptoRow.holds Try.pinned (OpenSpec.upto masksAfterSpec)

/-- 'timekeeperlaw12.MasksBoth', WHERE WHAT IT READS IS OF BULK AT MOST 1048576: true; the input reads as it did. -/
def masksBothUptoRow : OpenClaim := { program := "yteojjboncaegkaa", sum := "c1ab5a7a09cdcdbd72a15c58caecb9050c8ffd334125f1158d5ef107e9fb00d0", func := "timekeeper/timekeeperlaw12.MasksBoth", spec := "masksBoth", unfollowed := true, recurses := true, apart := false, narrowed := true }
def MasksBothUptoSaid : Prop := masksBothUptoRow.holds Try.pinned (OpenSpec.upto masksBothSpec)

/-- 'timekeeperlaw12.MasksMore', WHERE WHAT IT READS IS OF BULK AT MOST 1048576: true; the input reads as it did. -/
def masksMoreUptoRow : OpenClaim := { program := "yteojjboncaegkaa", sum := "c1ab5a7a09cdcdbd72a15c58caecb9050c8ffd334125f1158d5ef107e9fb00d0", func := "timekeeper/timekeeperlaw12.MasksMore", spec := "masksMore", unfollowed := true, recurses := true, apart := false, narrowed := true }
def MasksMoreUptoSaid : Prop := masksMoreUptoRow.holds Try.pinned (OpenSpec.upto masksMoreSpec)

/-- 'timekeeperlaw12.MasksGone', WHERE WHAT IT READS IS OF BULK AT MOST 1048576: true; the input reads as it did. -/
def masksGoneUptoRow : OpenClaim := { program := "yteojjboncaegkaa", sum := "c1ab5a7a09cdcdbd72a15c58caecb9050c8ffd334125f1158d5ef107e9fb00d0", func := "timekeeper/timekeeperlaw12.MasksGone", spec := "masksGone", unfollowed := true, recurses := true, apart := false, narrowed := true }
def MasksGoneUptoSaid : Prop := masksGoneUptoRow.holds Try.pinned (OpenSpec.upto masksGoneSpec)

/-- 'timekeeperlaw12.MasksBits', WHERE WHAT IT READS IS OF BULK AT MOST 1048576: true; the input reads as it did. -/
def masksBitsUptoRow : OpenClaim := { program := "yteojjboncaegkaa", sum := "c1ab5a7a09cdcdbd72a15c58caecb9050c8ffd334125f1158d5ef107e9fb00d0", func := "timekeeper/timekeeperlaw12.MasksBits", spec := "masksBits", unfollowed := true, recurses := true, apart := false, narrowed := true }
def MasksBitsUptoSaid : Prop := masksBitsUptoRow.holds Try.pinned (OpenSpec.upto masksBitsSpec)

/-- 'timekeeperlaw12.MasksParts', WHERE WHAT IT READS IS OF BULK AT MOST 1048576: true; the input reads as it did. -/
def masksPartsUptoRow : OpenClaim := { program := "yteojjboncaegkaa", sum := "c1ab5a7a09cdcdbd72a15c58caecb9050c8ffd334125f1158d5ef107e9fb00d0", func := "timekeeper/timekeeperlaw12.MasksParts", spec := "masksParts", unfollowed := true, recurses := true, apart := false, narrowed := true }
def MasksPartsUptoSaid : Prop := masksPartsUptoRow.holds Try.pinned (OpenSpec.upto masksPartsSpec)

end Rows
end Go.Proofs.Yteojjboncaegkaa
