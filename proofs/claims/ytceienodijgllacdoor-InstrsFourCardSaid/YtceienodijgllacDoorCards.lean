/-
  DERIVED. GIVEN WITH THE SEED: THE CARDS: each row of YtceienodijgllacDoorRows.lean that lists a variable, with what it lists TIED to the program's text (the seventh form; the later family's looks); each row that meets fmt, with fmt's text TOLD by the authors' own Lean function (tested against real Go, not proved from fmt's source: count such statements apart). THE CARD IS WHAT COUNTS. Prove the row's statement (the work); the ties are given (YtceienodijgllacDoorTie.lean); close each card by the builder's one call (the guide's Derived/Test/ToyasCard.lean, 'card_holds'). Laid BY PROGRAM, IN A SANDBOX (cutbox-door.mjs). By AI agents, Wed Nov 11 2026. No macro, syntax, notation, axiom, sorry.
-/
import Derived.Test.YtceienodijgllacDoorRows
import GoSem.ClaimSeven
namespace Go.Proofs.YtceienodijgllacDoor
namespace Rows

/-- THE TIED CARD OF 'timekeeperlaw02.InstrsFour'. -/
def instrsFourCard : Claim7 := { stood := { row := instrsFourRow, standIns := [], harness := (true, "f0cd071cd53516a8e967eb5b5365a40c014dea40fd2dbdbbd0baaf6f224c48b3"), looks := true }, kinds := [], alts := [], laidByText := true, laidKinds := [.data, .data, .data, .data, .sentinel, .sentinel, .pinned], laidTests := true, laidLooks := .later }
def InstrsFourCardSaid : Prop := Claim7.holds Tryd.pinned (.plain (OpenSpec.ofChange instrsFourSpec)) instrsFourCard

/-- THE SECOND FORM's CARD OF 'timekeeperlaw02.InstrsFour'. -/
def instrsFourUptoCard : Claim7 := { stood := { row := instrsFourUptoRow, standIns := [], harness := (true, "f0cd071cd53516a8e967eb5b5365a40c014dea40fd2dbdbbd0baaf6f224c48b3"), looks := true }, kinds := [], alts := [], laidByText := true, laidKinds := [.data, .data, .data, .data, .sentinel, .sentinel, .pinned], laidTests := true, laidLooks := .later }
def InstrsFourUptoCardSaid : Prop := Claim7.holds Tryd.pinned (.plain (OpenSpec.upto instrsFourSpec)) instrsFourUptoCard
end Rows
end Go.Proofs.YtceienodijgllacDoor
