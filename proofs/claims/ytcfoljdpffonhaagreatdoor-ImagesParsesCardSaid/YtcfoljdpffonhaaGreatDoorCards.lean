/-
  DERIVED. GIVEN WITH THE SEED: THE CARDS: each row of YtcfoljdpffonhaaGreatDoorRows.lean that lists a variable, with what it lists TIED to the program's text (the seventh form; the later family's looks); each row that meets fmt, with fmt's text TOLD by the authors' own Lean function (tested against real Go, not proved from fmt's source: count such statements apart). THE CARD IS WHAT COUNTS. Prove the row's statement (the work); the ties are given (YtcfoljdpffonhaaGreatDoorTie.lean); close each card by the builder's one call (the guide's Derived/Test/ToyasCard.lean, 'card_holds'). Laid BY PROGRAM, IN A SANDBOX (cutbox-door.mjs). By AI agents, Wed Nov 11 2026. No macro, syntax, notation, axiom, sorry.
-/
import Derived.Test.YtcfoljdpffonhaaGreatDoorRows
import GoSem.ClaimSeven
namespace Go.Proofs.YtcfoljdpffonhaaGreatDoor
namespace Rows

/-- THE TIED CARD OF 'timekeeperlaw13.ImagesPuts'. -/
def imagesPutsCard : Claim7 := { stood := { row := imagesPutsRow, standIns := [], harness := (true, "d0d6b6b5891fb97bc206777f38aa944a6fb63087703bffab328744c04eed99d3"), looks := true }, kinds := [], alts := [], laidByText := true, laidKinds := [.data, .data, .data, .sentinel, .sentinel], laidTests := true, laidLooks := .later }
def ImagesPutsCardSaid : Prop := Claim7.holds Tryz.pinned (.plain (OpenSpec.ofChange imagesPutsSpec)) imagesPutsCard

/-- THE TIED CARD OF 'timekeeperlaw13.ImagesGets'. -/
def imagesGetsCard : Claim7 := { stood := { row := imagesGetsRow, standIns := [], harness := (true, "d0d6b6b5891fb97bc206777f38aa944a6fb63087703bffab328744c04eed99d3"), looks := true }, kinds := [], alts := [], laidByText := true, laidKinds := [.data, .data, .data, .sentinel, .sentinel], laidTests := true, laidLooks := .later }
def ImagesGetsCardSaid : Prop := Claim7.holds Tryz.pinned (.plain (OpenSpec.ofChange imagesGetsSpec)) imagesGetsCard

/-- THE TIED CARD OF 'timekeeperlaw13.ImagesParses'. -/
def imagesParsesCard : Claim7 := { stood := { row := imagesParsesRow, standIns := [], harness := (true, "d0d6b6b5891fb97bc206777f38aa944a6fb63087703bffab328744c04eed99d3"), looks := true }, kinds := [], alts := [], laidByText := true, laidKinds := [.data, .data, .data, .data, .sentinel, .sentinel, .pinned], laidTests := true, laidLooks := .later }
def ImagesParsesCardSaid : Prop := Claim7.holds Tryz.pinned (.plain (OpenSpec.ofChange imagesParsesSpec)) imagesParsesCard

/-- THE TIED CARD OF 'timekeeperlaw13.ImagesLines'. -/
def imagesLinesCard : Claim7 := { stood := { row := imagesLinesRow, standIns := [], harness := (true, "d0d6b6b5891fb97bc206777f38aa944a6fb63087703bffab328744c04eed99d3"), looks := true }, kinds := [], alts := [], laidByText := true, laidKinds := [.data, .data, .data, .data, .sentinel, .sentinel, .pinned], laidTests := true, laidLooks := .later }
def ImagesLinesCardSaid : Prop := Claim7.holds Tryz.pinned (.plain (OpenSpec.ofChange imagesLinesSpec)) imagesLinesCard

/-- THE SECOND FORM's CARD OF 'timekeeperlaw13.ImagesPuts'. -/
def imagesPutsUptoCard : Claim7 := { stood := { row := imagesPutsUptoRow, standIns := [], harness := (true, "d0d6b6b5891fb97bc206777f38aa944a6fb63087703bffab328744c04eed99d3"), looks := true }, kinds := [], alts := [], laidByText := true, laidKinds := [.data, .data, .data, .sentinel, .sentinel], laidTests := true, laidLooks := .later }
def ImagesPutsUptoCardSaid : Prop := Claim7.holds Tryz.pinned (.plain (OpenSpec.upto imagesPutsSpec)) imagesPutsUptoCard

/-- THE SECOND FORM's CARD OF 'timekeeperlaw13.ImagesGets'. -/
def imagesGetsUptoCard : Claim7 := { stood := { row := imagesGetsUptoRow, standIns := [], harness := (true, "d0d6b6b5891fb97bc206777f38aa944a6fb63087703bffab328744c04eed99d3"), looks := true }, kinds := [], alts := [], laidByText := true, laidKinds := [.data, .data, .data, .sentinel, .sentinel], laidTests := true, laidLooks := .later }
def ImagesGetsUptoCardSaid : Prop := Claim7.holds Tryz.pinned (.plain (OpenSpec.upto imagesGetsSpec)) imagesGetsUptoCard

/-- THE SECOND FORM's CARD OF 'timekeeperlaw13.ImagesParses'. -/
def imagesParsesUptoCard : Claim7 := { stood := { row := imagesParsesUptoRow, standIns := [], harness := (true, "d0d6b6b5891fb97bc206777f38aa944a6fb63087703bffab328744c04eed99d3"), looks := true }, kinds := [], alts := [], laidByText := true, laidKinds := [.data, .data, .data, .data, .sentinel, .sentinel, .pinned], laidTests := true, laidLooks := .later }
def ImagesParsesUptoCardSaid : Prop := Claim7.holds Tryz.pinned (.plain (OpenSpec.upto imagesParsesSpec)) imagesParsesUptoCard

/-- THE SECOND FORM's CARD OF 'timekeeperlaw13.ImagesLines'. -/
def imagesLinesUptoCard : Claim7 := { stood := { row := imagesLinesUptoRow, standIns := [], harness := (true, "d0d6b6b5891fb97bc206777f38aa944a6fb63087703bffab328744c04eed99d3"), looks := true }, kinds := [], alts := [], laidByText := true, laidKinds := [.data, .data, .data, .data, .sentinel, .sentinel, .pinned], laidTests := true, laidLooks := .later }
def ImagesLinesUptoCardSaid : Prop := Claim7.holds Tryz.pinned (.plain (OpenSpec.upto imagesLinesSpec)) imagesLinesUptoCard
end Rows
end Go.Proofs.YtcfoljdpffonhaaGreatDoor
