/-
  DERIVED. GIVEN WITH THE SEED: THE CARDS: each row of YtcfoljdpffonhaaDoorRows.lean that lists a variable, with what it lists TIED to the program's text (the seventh form; the later family's looks); each row that meets fmt, with fmt's text TOLD by the authors' own Lean function (tested against real Go, not proved from fmt's source: count such statements apart). THE CARD IS WHAT COUNTS. Prove the row's statement (the work); the ties are given (YtcfoljdpffonhaaDoorTie.lean); close each card by the builder's one call (the guide's Derived/Test/ToyasCard.lean, 'card_holds'). Laid BY PROGRAM, IN A SANDBOX (cutbox-door.mjs). By AI agents, Wed Nov 11 2026. No macro, syntax, notation, axiom, sorry.
-/
import Derived.Test.YtcfoljdpffonhaaDoorRows
import GoSem.ClaimSeven
namespace Go.Proofs.YtcfoljdpffonhaaDoor
namespace Rows

/-- THE TIED CARD OF 'timekeeperlaw13.ImagesBack'. -/
def imagesBackCard : Claim7 := { stood := { row := imagesBackRow, standIns := [], harness := (true, "b5330ac7e854def0c4b33d4c61903131acb72c8577e0771f1531d6321f0457ed"), looks := true }, kinds := [], alts := [], laidByText := true, laidKinds := [.data, .data, .data, .data, .sentinel, .sentinel, .pinned], laidTests := true, laidLooks := .later }
def ImagesBackCardSaid : Prop := Claim7.holds Tryd.pinned (.plain (OpenSpec.ofChange imagesBackSpec)) imagesBackCard

/-- THE TIED CARD OF 'timekeeperlaw13.ImagesLimits'. -/
def imagesLimitsCard : Claim7 := { stood := { row := imagesLimitsRow, standIns := [], harness := (true, "b5330ac7e854def0c4b33d4c61903131acb72c8577e0771f1531d6321f0457ed"), looks := true }, kinds := [], alts := [], laidByText := true, laidKinds := [.data, .data, .data, .data, .sentinel, .sentinel, .pinned], laidTests := true, laidLooks := .later }
def ImagesLimitsCardSaid : Prop := Claim7.holds Tryd.pinned (.plain (OpenSpec.ofChange imagesLimitsSpec)) imagesLimitsCard

/-- THE TIED CARD OF 'timekeeperlaw13.ImagesSpoilt'. -/
def imagesSpoiltCard : Claim7 := { stood := { row := imagesSpoiltRow, standIns := [], harness := (true, "b5330ac7e854def0c4b33d4c61903131acb72c8577e0771f1531d6321f0457ed"), looks := true }, kinds := [], alts := [], laidByText := true, laidKinds := [.data, .data, .data, .data, .sentinel, .sentinel, .pinned], laidTests := true, laidLooks := .later }
def ImagesSpoiltCardSaid : Prop := Claim7.holds Tryd.pinned (.plain (OpenSpec.ofChange imagesSpoiltSpec)) imagesSpoiltCard

/-- THE TIED CARD OF 'timekeeperlaw13.ImagesUnlike'. -/
def imagesUnlikeCard : Claim7 := { stood := { row := imagesUnlikeRow, standIns := [], harness := (true, "b5330ac7e854def0c4b33d4c61903131acb72c8577e0771f1531d6321f0457ed"), looks := true }, kinds := [], alts := [], laidByText := true, laidKinds := [.data, .data, .data, .data, .sentinel, .sentinel, .pinned], laidTests := true, laidLooks := .later }
def ImagesUnlikeCardSaid : Prop := Claim7.holds Tryd.pinned (.plain (OpenSpec.ofChange imagesUnlikeSpec)) imagesUnlikeCard

/-- THE TIED CARD OF 'timekeeperlaw13.ImagesParts'. -/
def imagesPartsCard : Claim7 := { stood := { row := imagesPartsRow, standIns := [], harness := (true, "b5330ac7e854def0c4b33d4c61903131acb72c8577e0771f1531d6321f0457ed"), looks := true }, kinds := [], alts := [], laidByText := true, laidKinds := [.data, .data, .data, .data, .sentinel, .sentinel, .pinned], laidTests := true, laidLooks := .later }
def ImagesPartsCardSaid : Prop := Claim7.holds Tryd.pinned (.plain (OpenSpec.ofChange imagesPartsSpec)) imagesPartsCard

/-- THE TIED CARD OF 'timekeeperlaw13.ImagesOdd'. -/
def imagesOddCard : Claim7 := { stood := { row := imagesOddRow, standIns := [], harness := (true, "b5330ac7e854def0c4b33d4c61903131acb72c8577e0771f1531d6321f0457ed"), looks := true }, kinds := [], alts := [], laidByText := true, laidKinds := [.data, .data, .data, .data, .sentinel, .sentinel, .pinned], laidTests := true, laidLooks := .later }
def ImagesOddCardSaid : Prop := Claim7.holds Tryd.pinned (.plain (OpenSpec.ofChange imagesOddSpec)) imagesOddCard

/-- THE SECOND FORM's CARD OF 'timekeeperlaw13.ImagesBack'. -/
def imagesBackUptoCard : Claim7 := { stood := { row := imagesBackUptoRow, standIns := [], harness := (true, "b5330ac7e854def0c4b33d4c61903131acb72c8577e0771f1531d6321f0457ed"), looks := true }, kinds := [], alts := [], laidByText := true, laidKinds := [.data, .data, .data, .data, .sentinel, .sentinel, .pinned], laidTests := true, laidLooks := .later }
def ImagesBackUptoCardSaid : Prop := Claim7.holds Tryd.pinned (.plain (OpenSpec.upto imagesBackSpec)) imagesBackUptoCard

/-- THE SECOND FORM's CARD OF 'timekeeperlaw13.ImagesLimits'. -/
def imagesLimitsUptoCard : Claim7 := { stood := { row := imagesLimitsUptoRow, standIns := [], harness := (true, "b5330ac7e854def0c4b33d4c61903131acb72c8577e0771f1531d6321f0457ed"), looks := true }, kinds := [], alts := [], laidByText := true, laidKinds := [.data, .data, .data, .data, .sentinel, .sentinel, .pinned], laidTests := true, laidLooks := .later }
def ImagesLimitsUptoCardSaid : Prop := Claim7.holds Tryd.pinned (.plain (OpenSpec.upto imagesLimitsSpec)) imagesLimitsUptoCard

/-- THE SECOND FORM's CARD OF 'timekeeperlaw13.ImagesSpoilt'. -/
def imagesSpoiltUptoCard : Claim7 := { stood := { row := imagesSpoiltUptoRow, standIns := [], harness := (true, "b5330ac7e854def0c4b33d4c61903131acb72c8577e0771f1531d6321f0457ed"), looks := true }, kinds := [], alts := [], laidByText := true, laidKinds := [.data, .data, .data, .data, .sentinel, .sentinel, .pinned], laidTests := true, laidLooks := .later }
def ImagesSpoiltUptoCardSaid : Prop := Claim7.holds Tryd.pinned (.plain (OpenSpec.upto imagesSpoiltSpec)) imagesSpoiltUptoCard

/-- THE SECOND FORM's CARD OF 'timekeeperlaw13.ImagesUnlike'. -/
def imagesUnlikeUptoCard : Claim7 := { stood := { row := imagesUnlikeUptoRow, standIns := [], harness := (true, "b5330ac7e854def0c4b33d4c61903131acb72c8577e0771f1531d6321f0457ed"), looks := true }, kinds := [], alts := [], laidByText := true, laidKinds := [.data, .data, .data, .data, .sentinel, .sentinel, .pinned], laidTests := true, laidLooks := .later }
def ImagesUnlikeUptoCardSaid : Prop := Claim7.holds Tryd.pinned (.plain (OpenSpec.upto imagesUnlikeSpec)) imagesUnlikeUptoCard

/-- THE SECOND FORM's CARD OF 'timekeeperlaw13.ImagesParts'. -/
def imagesPartsUptoCard : Claim7 := { stood := { row := imagesPartsUptoRow, standIns := [], harness := (true, "b5330ac7e854def0c4b33d4c61903131acb72c8577e0771f1531d6321f0457ed"), looks := true }, kinds := [], alts := [], laidByText := true, laidKinds := [.data, .data, .data, .data, .sentinel, .sentinel, .pinned], laidTests := true, laidLooks := .later }
def ImagesPartsUptoCardSaid : Prop := Claim7.holds Tryd.pinned (.plain (OpenSpec.upto imagesPartsSpec)) imagesPartsUptoCard

/-- THE SECOND FORM's CARD OF 'timekeeperlaw13.ImagesOdd'. -/
def imagesOddUptoCard : Claim7 := { stood := { row := imagesOddUptoRow, standIns := [], harness := (true, "b5330ac7e854def0c4b33d4c61903131acb72c8577e0771f1531d6321f0457ed"), looks := true }, kinds := [], alts := [], laidByText := true, laidKinds := [.data, .data, .data, .data, .sentinel, .sentinel, .pinned], laidTests := true, laidLooks := .later }
def ImagesOddUptoCardSaid : Prop := Claim7.holds Tryd.pinned (.plain (OpenSpec.upto imagesOddSpec)) imagesOddUptoCard
end Rows
end Go.Proofs.YtcfoljdpffonhaaDoor
