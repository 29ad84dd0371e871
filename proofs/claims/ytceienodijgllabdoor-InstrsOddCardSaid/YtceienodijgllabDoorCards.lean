/-
  DERIVED. GIVEN WITH THE SEED: THE CARDS: each row of YtceienodijgllabDoorRows.lean that lists a variable, with what it lists TIED to the program's text (the seventh form; the later family's looks); each row that meets fmt, with fmt's text TOLD by the authors' own Lean function (tested against real Go, not proved from fmt's source: count such statements apart). THE CARD IS WHAT COUNTS. Prove the row's statement (the work); the ties are given (YtceienodijgllabDoorTie.lean); close each card by the builder's one call (the guide's Derived/Test/ToyasCard.lean, 'card_holds'). Laid BY PROGRAM, IN A SANDBOX (cutbox-door.mjs). By AI agents, Wed Nov 11 2026. No macro, syntax, notation, axiom, sorry.
-/
import Derived.Test.YtceienodijgllabDoorRows
import GoSem.ClaimSeven
namespace Go.Proofs.YtceienodijgllabDoor
namespace Rows

/-- THE TIED CARD OF 'timekeeperlaw02.InstrsOdd'. -/
def instrsOddCard : Claim7 := { stood := { row := instrsOddRow, standIns := [], harness := (true, "24c548c4111187a30e5b60810d391beaba7a1245c6d7c840562e612994d0df1b"), looks := true }, kinds := [], alts := [], laidByText := true, laidKinds := [.data, .data, .data, .data, .sentinel, .sentinel, .pinned], laidTests := true, laidLooks := .later }
def InstrsOddCardSaid : Prop := Claim7.holds Tryd.pinned (.plain (OpenSpec.ofChange instrsOddSpec)) instrsOddCard

/-- THE TIED CARD OF 'timekeeperlaw02.InstrsUnlike'. -/
def instrsUnlikeCard : Claim7 := { stood := { row := instrsUnlikeRow, standIns := [], harness := (true, "24c548c4111187a30e5b60810d391beaba7a1245c6d7c840562e612994d0df1b"), looks := true }, kinds := [], alts := [], laidByText := true, laidKinds := [.data, .data, .data, .data, .sentinel, .sentinel, .pinned], laidTests := true, laidLooks := .later }
def InstrsUnlikeCardSaid : Prop := Claim7.holds Tryd.pinned (.plain (OpenSpec.ofChange instrsUnlikeSpec)) instrsUnlikeCard

/-- THE TIED CARD OF 'timekeeperlaw02.InstrsFields'. -/
def instrsFieldsCard : Claim7 := { stood := { row := instrsFieldsRow, standIns := [], harness := (true, "24c548c4111187a30e5b60810d391beaba7a1245c6d7c840562e612994d0df1b"), looks := true }, kinds := [], alts := [], laidByText := true, laidKinds := [.data, .data, .data, .data, .sentinel, .sentinel, .pinned], laidTests := true, laidLooks := .later }
def InstrsFieldsCardSaid : Prop := Claim7.holds Tryd.pinned (.plain (OpenSpec.ofChange instrsFieldsSpec)) instrsFieldsCard

/-- THE TIED CARD OF 'timekeeperlaw02.InstrsBack'. -/
def instrsBackCard : Claim7 := { stood := { row := instrsBackRow, standIns := [], harness := (true, "24c548c4111187a30e5b60810d391beaba7a1245c6d7c840562e612994d0df1b"), looks := true }, kinds := [], alts := [], laidByText := true, laidKinds := [.data, .data, .data, .data, .sentinel, .sentinel, .pinned], laidTests := true, laidLooks := .later }
def InstrsBackCardSaid : Prop := Claim7.holds Tryd.pinned (.plain (OpenSpec.ofChange instrsBackSpec)) instrsBackCard

/-- THE SECOND FORM's CARD OF 'timekeeperlaw02.InstrsOdd'. -/
def instrsOddUptoCard : Claim7 := { stood := { row := instrsOddUptoRow, standIns := [], harness := (true, "24c548c4111187a30e5b60810d391beaba7a1245c6d7c840562e612994d0df1b"), looks := true }, kinds := [], alts := [], laidByText := true, laidKinds := [.data, .data, .data, .data, .sentinel, .sentinel, .pinned], laidTests := true, laidLooks := .later }
def InstrsOddUptoCardSaid : Prop := Claim7.holds Tryd.pinned (.plain (OpenSpec.upto instrsOddSpec)) instrsOddUptoCard

/-- THE SECOND FORM's CARD OF 'timekeeperlaw02.InstrsUnlike'. -/
def instrsUnlikeUptoCard : Claim7 := { stood := { row := instrsUnlikeUptoRow, standIns := [], harness := (true, "24c548c4111187a30e5b60810d391beaba7a1245c6d7c840562e612994d0df1b"), looks := true }, kinds := [], alts := [], laidByText := true, laidKinds := [.data, .data, .data, .data, .sentinel, .sentinel, .pinned], laidTests := true, laidLooks := .later }
def InstrsUnlikeUptoCardSaid : Prop := Claim7.holds Tryd.pinned (.plain (OpenSpec.upto instrsUnlikeSpec)) instrsUnlikeUptoCard

/-- THE SECOND FORM's CARD OF 'timekeeperlaw02.InstrsFields'. -/
def instrsFieldsUptoCard : Claim7 := { stood := { row := instrsFieldsUptoRow, standIns := [], harness := (true, "24c548c4111187a30e5b60810d391beaba7a1245c6d7c840562e612994d0df1b"), looks := true }, kinds := [], alts := [], laidByText := true, laidKinds := [.data, .data, .data, .data, .sentinel, .sentinel, .pinned], laidTests := true, laidLooks := .later }
def InstrsFieldsUptoCardSaid : Prop := Claim7.holds Tryd.pinned (.plain (OpenSpec.upto instrsFieldsSpec)) instrsFieldsUptoCard

/-- THE SECOND FORM's CARD OF 'timekeeperlaw02.InstrsBack'. -/
def instrsBackUptoCard : Claim7 := { stood := { row := instrsBackUptoRow, standIns := [], harness := (true, "24c548c4111187a30e5b60810d391beaba7a1245c6d7c840562e612994d0df1b"), looks := true }, kinds := [], alts := [], laidByText := true, laidKinds := [.data, .data, .data, .data, .sentinel, .sentinel, .pinned], laidTests := true, laidLooks := .later }
def InstrsBackUptoCardSaid : Prop := Claim7.holds Tryd.pinned (.plain (OpenSpec.upto instrsBackSpec)) instrsBackUptoCard
end Rows
end Go.Proofs.YtceienodijgllabDoor
