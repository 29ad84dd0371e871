/-
  DERIVED. GIVEN WITH THE SEED: THE CARDS: each row of YtgcakjcljfhmpaaDoorRows.lean that lists a variable, with what it lists TIED to the program's text (the seventh form; the later family's looks); each row that meets fmt, with fmt's text TOLD by the authors' own Lean function (tested against real Go, not proved from fmt's source: count such statements apart). THE CARD IS WHAT COUNTS. Prove the row's statement (the work); the ties are given (YtgcakjcljfhmpaaDoorTie.lean); close each card by the builder's one call (the guide's Derived/Test/ToyasCard.lean, 'card_holds'). Laid BY PROGRAM, IN A SANDBOX (cutbox-door.mjs). By AI agents, Wed Nov 11 2026. No macro, syntax, notation, axiom, sorry.
-/
import Derived.Test.YtgcakjcljfhmpaaDoorRows
import GoSem.ClaimSeven
namespace Go.Proofs.YtgcakjcljfhmpaaDoor
namespace Rows

/-- THE TIED CARD OF 'timekeeperlaw10.DeltasPlay'. -/
def deltasPlayCard : Claim7 := { stood := { row := deltasPlayRow, standIns := [], harness := (true, "f782780064f9e96982b5920c3d3572cd85a33567e5bd17482232c2d7b83336a7"), looks := false }, kinds := [], alts := [], laidByText := true, laidKinds := [.data, .data, .data], laidTests := true, laidLooks := .later }
def DeltasPlayCardSaid : Prop := Claim7.holds Tryd.pinned (.plain (OpenSpec.ofChange deltasPlaySpec)) deltasPlayCard

/-- THE SECOND FORM's CARD OF 'timekeeperlaw10.DeltasPlay'. -/
def deltasPlayUptoCard : Claim7 := { stood := { row := deltasPlayUptoRow, standIns := [], harness := (true, "f782780064f9e96982b5920c3d3572cd85a33567e5bd17482232c2d7b83336a7"), looks := false }, kinds := [], alts := [], laidByText := true, laidKinds := [.data, .data, .data], laidTests := true, laidLooks := .later }
def DeltasPlayUptoCardSaid : Prop := Claim7.holds Tryd.pinned (.plain (OpenSpec.upto deltasPlaySpec)) deltasPlayUptoCard
end Rows
end Go.Proofs.YtgcakjcljfhmpaaDoor
