/-
  DERIVED. GIVEN WITH THE SEED: THE CARDS: each row of YtijkkompnfpdeaaGreatDoorRows.lean that lists a variable, with what it lists TIED to the program's text (the seventh form; the later family's looks); each row that meets fmt, with fmt's text TOLD by the authors' own Lean function (tested against real Go, not proved from fmt's source: count such statements apart). THE CARD IS WHAT COUNTS. Prove the row's statement (the work); the ties are given (YtijkkompnfpdeaaGreatDoorTie.lean); close each card by the builder's one call (the guide's Derived/Test/ToyasCard.lean, 'card_holds'). Laid BY PROGRAM, IN A SANDBOX (cutbox-door.mjs). By AI agents, Wed Nov 11 2026. No macro, syntax, notation, axiom, sorry.
-/
import Derived.Test.YtijkkompnfpdeaaGreatDoorRows
import GoSem.ClaimSeven
namespace Go.Proofs.YtijkkompnfpdeaaGreatDoor
namespace Rows

/-- THE TIED CARD OF 'timekeeperlaw21.CpuCounts'. -/
def cpuCountsCard : Claim7 := { stood := { row := cpuCountsRow, standIns := [], harness := (true, "7a48b002f2fd2a93ce55a28dfa0508db77f1de425954c93b953a5175ec137f84"), looks := true }, kinds := [], alts := [], laidByText := true, laidKinds := [.data, .data, .data, .sentinel, .sentinel], laidTests := true, laidLooks := .later }
def CpuCountsCardSaid : Prop := Claim7.holds Tryz.pinned (.plain (OpenSpec.ofChange cpuCountsSpec)) cpuCountsCard

/-- THE TIED CARD OF 'timekeeperlaw21.CpuCopies'. -/
def cpuCopiesCard : Claim7 := { stood := { row := cpuCopiesRow, standIns := [], harness := (true, "7a48b002f2fd2a93ce55a28dfa0508db77f1de425954c93b953a5175ec137f84"), looks := true }, kinds := [], alts := [], laidByText := true, laidKinds := [.data, .data, .data, .sentinel, .sentinel], laidTests := true, laidLooks := .later }
def CpuCopiesCardSaid : Prop := Claim7.holds Tryz.pinned (.plain (OpenSpec.ofChange cpuCopiesSpec)) cpuCopiesCard

/-- THE TIED CARD OF 'timekeeperlaw21.CpuPlays'. -/
def cpuPlaysCard : Claim7 := { stood := { row := cpuPlaysRow, standIns := [], harness := (true, "7a48b002f2fd2a93ce55a28dfa0508db77f1de425954c93b953a5175ec137f84"), looks := true }, kinds := [], alts := [], laidByText := true, laidKinds := [.data, .data, .data, .sentinel, .sentinel], laidTests := true, laidLooks := .later }
def CpuPlaysCardSaid : Prop := Claim7.holds Tryz.pinned (.plain (OpenSpec.ofChange cpuPlaysSpec)) cpuPlaysCard

/-- THE TIED CARD OF 'timekeeperlaw21.CpuFaults'. -/
def cpuFaultsCard : Claim7 := { stood := { row := cpuFaultsRow, standIns := [], harness := (true, "7a48b002f2fd2a93ce55a28dfa0508db77f1de425954c93b953a5175ec137f84"), looks := true }, kinds := [], alts := [], laidByText := true, laidKinds := [.data, .data, .data, .sentinel, .sentinel], laidTests := true, laidLooks := .later }
def CpuFaultsCardSaid : Prop := Claim7.holds Tryz.pinned (.plain (OpenSpec.ofChange cpuFaultsSpec)) cpuFaultsCard

/-- THE SECOND FORM's CARD OF 'timekeeperlaw21.CpuCounts'. -/
def cpuCountsUptoCard : Claim7 := { stood := { row := cpuCountsUptoRow, standIns := [], harness := (true, "7a48b002f2fd2a93ce55a28dfa0508db77f1de425954c93b953a5175ec137f84"), looks := true }, kinds := [], alts := [], laidByText := true, laidKinds := [.data, .data, .data, .sentinel, .sentinel], laidTests := true, laidLooks := .later }
def CpuCountsUptoCardSaid : Prop := Claim7.holds Tryz.pinned (.plain (OpenSpec.upto cpuCountsSpec)) cpuCountsUptoCard

/-- THE SECOND FORM's CARD OF 'timekeeperlaw21.CpuCopies'. -/
def cpuCopiesUptoCard : Claim7 := { stood := { row := cpuCopiesUptoRow, standIns := [], harness := (true, "7a48b002f2fd2a93ce55a28dfa0508db77f1de425954c93b953a5175ec137f84"), looks := true }, kinds := [], alts := [], laidByText := true, laidKinds := [.data, .data, .data, .sentinel, .sentinel], laidTests := true, laidLooks := .later }
def CpuCopiesUptoCardSaid : Prop := Claim7.holds Tryz.pinned (.plain (OpenSpec.upto cpuCopiesSpec)) cpuCopiesUptoCard

/-- THE SECOND FORM's CARD OF 'timekeeperlaw21.CpuPlays'. -/
def cpuPlaysUptoCard : Claim7 := { stood := { row := cpuPlaysUptoRow, standIns := [], harness := (true, "7a48b002f2fd2a93ce55a28dfa0508db77f1de425954c93b953a5175ec137f84"), looks := true }, kinds := [], alts := [], laidByText := true, laidKinds := [.data, .data, .data, .sentinel, .sentinel], laidTests := true, laidLooks := .later }
def CpuPlaysUptoCardSaid : Prop := Claim7.holds Tryz.pinned (.plain (OpenSpec.upto cpuPlaysSpec)) cpuPlaysUptoCard

/-- THE SECOND FORM's CARD OF 'timekeeperlaw21.CpuFaults'. -/
def cpuFaultsUptoCard : Claim7 := { stood := { row := cpuFaultsUptoRow, standIns := [], harness := (true, "7a48b002f2fd2a93ce55a28dfa0508db77f1de425954c93b953a5175ec137f84"), looks := true }, kinds := [], alts := [], laidByText := true, laidKinds := [.data, .data, .data, .sentinel, .sentinel], laidTests := true, laidLooks := .later }
def CpuFaultsUptoCardSaid : Prop := Claim7.holds Tryz.pinned (.plain (OpenSpec.upto cpuFaultsSpec)) cpuFaultsUptoCard
end Rows
end Go.Proofs.YtijkkompnfpdeaaGreatDoor
