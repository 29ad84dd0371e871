/-
  DERIVED. GIVEN WITH THE SEED: THE CARDS: each row of YtceienodijgllaaDoorRows.lean that lists a variable, with what it lists TIED to the program's text (the seventh form; the later family's looks); each row that meets fmt, with fmt's text TOLD by the authors' own Lean function (tested against real Go, not proved from fmt's source: count such statements apart). THE CARD IS WHAT COUNTS. Prove the row's statement (the work); the ties are given (YtceienodijgllaaDoorTie.lean); close each card by the builder's one call (the guide's Derived/Test/ToyasCard.lean, 'card_holds'). Laid BY PROGRAM, IN A SANDBOX (cutbox-door.mjs). By AI agents, Wed Nov 11 2026. No macro, syntax, notation, axiom, sorry.
-/
import Derived.Test.YtceienodijgllaaDoorRows
import GoSem.ClaimSeven
namespace Go.Proofs.YtceienodijgllaaDoor
namespace Rows

/-- THE TIED CARD OF 'timekeeperlaw02.InstrsBytes'. -/
def instrsBytesCard : Claim7 := { stood := { row := instrsBytesRow, standIns := [], harness := (true, "1199e9f020daa45648125e516d619f76d16721ee560e464ddb33fc2de98d8593"), looks := true }, kinds := [], alts := [], laidByText := true, laidKinds := [.data, .data, .data, .sentinel, .sentinel], laidTests := true, laidLooks := .later }
def InstrsBytesCardSaid : Prop := Claim7.holds Tryd.pinned (.plain (OpenSpec.ofChange instrsBytesSpec)) instrsBytesCard

/-- THE TIED CARD OF 'timekeeperlaw02.InstrsTexts'. -/
def instrsTextsCard : Claim7 := { stood := { row := instrsTextsRow, standIns := [], harness := (true, "1199e9f020daa45648125e516d619f76d16721ee560e464ddb33fc2de98d8593"), looks := true }, kinds := [], alts := [], laidByText := true, laidKinds := [.data, .data, .data, .data, .sentinel, .sentinel, .pinned], laidTests := true, laidLooks := .later }
def InstrsTextsCardSaid : Prop := Claim7.holds Tryd.pinned (.plain (OpenSpec.ofChange instrsTextsSpec)) instrsTextsCard

/-- THE TIED CARD OF 'timekeeperlaw02.InstrsRegisters'. -/
def instrsRegistersCard : Claim7 := { stood := { row := instrsRegistersRow, standIns := [], harness := (true, "1199e9f020daa45648125e516d619f76d16721ee560e464ddb33fc2de98d8593"), looks := true }, kinds := [], alts := [], laidByText := true, laidKinds := [.data, .data, .data, .data, .sentinel, .sentinel, .pinned], laidTests := true, laidLooks := .later }
def InstrsRegistersCardSaid : Prop := Claim7.holds Tryd.pinned (.plain (OpenSpec.ofChange instrsRegistersSpec)) instrsRegistersCard

/-- THE TIED CARD OF 'timekeeperlaw02.InstrsNumbers'. -/
def instrsNumbersCard : Claim7 := { stood := { row := instrsNumbersRow, standIns := [], harness := (true, "1199e9f020daa45648125e516d619f76d16721ee560e464ddb33fc2de98d8593"), looks := true }, kinds := [], alts := [], laidByText := true, laidKinds := [.data, .data, .data, .data, .sentinel, .sentinel, .pinned], laidTests := true, laidLooks := .later }
def InstrsNumbersCardSaid : Prop := Claim7.holds Tryd.pinned (.plain (OpenSpec.ofChange instrsNumbersSpec)) instrsNumbersCard

/-- THE SECOND FORM's CARD OF 'timekeeperlaw02.InstrsBytes'. -/
def instrsBytesUptoCard : Claim7 := { stood := { row := instrsBytesUptoRow, standIns := [], harness := (true, "1199e9f020daa45648125e516d619f76d16721ee560e464ddb33fc2de98d8593"), looks := true }, kinds := [], alts := [], laidByText := true, laidKinds := [.data, .data, .data, .sentinel, .sentinel], laidTests := true, laidLooks := .later }
def InstrsBytesUptoCardSaid : Prop := Claim7.holds Tryd.pinned (.plain (OpenSpec.upto instrsBytesSpec)) instrsBytesUptoCard

/-- THE SECOND FORM's CARD OF 'timekeeperlaw02.InstrsTexts'. -/
def instrsTextsUptoCard : Claim7 := { stood := { row := instrsTextsUptoRow, standIns := [], harness := (true, "1199e9f020daa45648125e516d619f76d16721ee560e464ddb33fc2de98d8593"), looks := true }, kinds := [], alts := [], laidByText := true, laidKinds := [.data, .data, .data, .data, .sentinel, .sentinel, .pinned], laidTests := true, laidLooks := .later }
def InstrsTextsUptoCardSaid : Prop := Claim7.holds Tryd.pinned (.plain (OpenSpec.upto instrsTextsSpec)) instrsTextsUptoCard

/-- THE SECOND FORM's CARD OF 'timekeeperlaw02.InstrsRegisters'. -/
def instrsRegistersUptoCard : Claim7 := { stood := { row := instrsRegistersUptoRow, standIns := [], harness := (true, "1199e9f020daa45648125e516d619f76d16721ee560e464ddb33fc2de98d8593"), looks := true }, kinds := [], alts := [], laidByText := true, laidKinds := [.data, .data, .data, .data, .sentinel, .sentinel, .pinned], laidTests := true, laidLooks := .later }
def InstrsRegistersUptoCardSaid : Prop := Claim7.holds Tryd.pinned (.plain (OpenSpec.upto instrsRegistersSpec)) instrsRegistersUptoCard

/-- THE SECOND FORM's CARD OF 'timekeeperlaw02.InstrsNumbers'. -/
def instrsNumbersUptoCard : Claim7 := { stood := { row := instrsNumbersUptoRow, standIns := [], harness := (true, "1199e9f020daa45648125e516d619f76d16721ee560e464ddb33fc2de98d8593"), looks := true }, kinds := [], alts := [], laidByText := true, laidKinds := [.data, .data, .data, .data, .sentinel, .sentinel, .pinned], laidTests := true, laidLooks := .later }
def InstrsNumbersUptoCardSaid : Prop := Claim7.holds Tryd.pinned (.plain (OpenSpec.upto instrsNumbersSpec)) instrsNumbersUptoCard
end Rows
end Go.Proofs.YtceienodijgllaaDoor
