/-
  DERIVED. GIVEN WITH THE SEED: THE CARDS: each row of YtllfkgdmneabiaaDoorRows.lean that lists a variable, with what it lists TIED to the program's text (the seventh form; the later family's looks); each row that meets fmt, with fmt's text TOLD by the authors' own Lean function (tested against real Go, not proved from fmt's source: count such statements apart). THE CARD IS WHAT COUNTS. Prove the row's statement (the work); the ties are given (YtllfkgdmneabiaaDoorTie.lean); close each card by the builder's one call (the guide's Derived/Test/ToyasCard.lean, 'card_holds'). Laid BY PROGRAM, IN A SANDBOX (cutbox-door.mjs). By AI agents, Wed Nov 11 2026. No macro, syntax, notation, axiom, sorry.
-/
import Derived.Test.YtllfkgdmneabiaaDoorRows
import GoSem.ClaimSeven
namespace Go.Proofs.YtllfkgdmneabiaaDoor
namespace Rows

/-- THE TIED CARD OF 'timekeeperlaw19.TimersPlay'. -/
def timersPlayCard : Claim7 := { stood := { row := timersPlayRow, standIns := [], harness := (true, "b6a10eff9b0095fd1990822b3791b778e41731e408ee5944088b4444f53ea88f"), looks := false }, kinds := [], alts := [], laidByText := true, laidKinds := [.data, .data, .data], laidTests := true, laidLooks := .later }
def TimersPlayCardSaid : Prop := Claim7.holds Tryd.pinned (.plain (OpenSpec.ofChange timersPlaySpec)) timersPlayCard

/-- THE SECOND FORM's CARD OF 'timekeeperlaw19.TimersPlay'. -/
def timersPlayUptoCard : Claim7 := { stood := { row := timersPlayUptoRow, standIns := [], harness := (true, "b6a10eff9b0095fd1990822b3791b778e41731e408ee5944088b4444f53ea88f"), looks := false }, kinds := [], alts := [], laidByText := true, laidKinds := [.data, .data, .data], laidTests := true, laidLooks := .later }
def TimersPlayUptoCardSaid : Prop := Claim7.holds Tryd.pinned (.plain (OpenSpec.upto timersPlaySpec)) timersPlayUptoCard
end Rows
end Go.Proofs.YtllfkgdmneabiaaDoor
