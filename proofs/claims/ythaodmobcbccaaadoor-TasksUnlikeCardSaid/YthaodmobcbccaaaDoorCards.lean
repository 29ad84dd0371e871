/-
  DERIVED. GIVEN WITH THE SEED: THE CARDS: each row of YthaodmobcbccaaaDoorRows.lean that lists a variable, with what it lists TIED to the program's text (the seventh form; the later family's looks); each row that meets fmt, with fmt's text TOLD by the authors' own Lean function (tested against real Go, not proved from fmt's source: count such statements apart). THE CARD IS WHAT COUNTS. Prove the row's statement (the work); the ties are given (YthaodmobcbccaaaDoorTie.lean); close each card by the builder's one call (the guide's Derived/Test/ToyasCard.lean, 'card_holds'). Laid BY PROGRAM, IN A SANDBOX (cutbox-door.mjs). By AI agents, Wed Nov 11 2026. No macro, syntax, notation, axiom, sorry.
-/
import Derived.Test.YthaodmobcbccaaaDoorRows
import GoSem.ClaimSeven
namespace Go.Proofs.YthaodmobcbccaaaDoor
namespace Rows

/-- THE TIED CARD OF 'timekeeperlaw14.TasksTell'. -/
def tasksTellCard : Claim7 := { stood := { row := tasksTellRow, standIns := [], harness := (true, "6bb5677a77f8484b1b0af2a61f46c33e984d7a720dacf7b6a332b7692dc2aeb4"), looks := false }, kinds := [], alts := [], laidByText := true, laidKinds := [.data, .data, .data], laidTests := true, laidLooks := .later }
def TasksTellCardSaid : Prop := Claim7.holds Tryd.pinned (.plain (OpenSpec.ofChange tasksTellSpec)) tasksTellCard

/-- THE TIED CARD OF 'timekeeperlaw14.TasksUnlike'. -/
def tasksUnlikeCard : Claim7 := { stood := { row := tasksUnlikeRow, standIns := [], harness := (true, "6bb5677a77f8484b1b0af2a61f46c33e984d7a720dacf7b6a332b7692dc2aeb4"), looks := false }, kinds := [], alts := [], laidByText := true, laidKinds := [.data, .data, .data], laidTests := true, laidLooks := .later }
def TasksUnlikeCardSaid : Prop := Claim7.holds Tryd.pinned (.plain (OpenSpec.ofChange tasksUnlikeSpec)) tasksUnlikeCard

/-- THE TIED CARD OF 'timekeeperlaw14.TasksAsk'. -/
def tasksAskCard : Claim7 := { stood := { row := tasksAskRow, standIns := [], harness := (true, "6bb5677a77f8484b1b0af2a61f46c33e984d7a720dacf7b6a332b7692dc2aeb4"), looks := false }, kinds := [], alts := [], laidByText := true, laidKinds := [.data, .data, .data], laidTests := true, laidLooks := .later }
def TasksAskCardSaid : Prop := Claim7.holds Tryd.pinned (.plain (OpenSpec.ofChange tasksAskSpec)) tasksAskCard

/-- THE TIED CARD OF 'timekeeperlaw14.TasksOne'. -/
def tasksOneCard : Claim7 := { stood := { row := tasksOneRow, standIns := [], harness := (true, "6bb5677a77f8484b1b0af2a61f46c33e984d7a720dacf7b6a332b7692dc2aeb4"), looks := false }, kinds := [], alts := [], laidByText := true, laidKinds := [.data, .data, .data], laidTests := true, laidLooks := .later }
def TasksOneCardSaid : Prop := Claim7.holds Tryd.pinned (.plain (OpenSpec.ofChange tasksOneSpec)) tasksOneCard

/-- THE SECOND FORM's CARD OF 'timekeeperlaw14.TasksTell'. -/
def tasksTellUptoCard : Claim7 := { stood := { row := tasksTellUptoRow, standIns := [], harness := (true, "6bb5677a77f8484b1b0af2a61f46c33e984d7a720dacf7b6a332b7692dc2aeb4"), looks := false }, kinds := [], alts := [], laidByText := true, laidKinds := [.data, .data, .data], laidTests := true, laidLooks := .later }
def TasksTellUptoCardSaid : Prop := Claim7.holds Tryd.pinned (.plain (OpenSpec.upto tasksTellSpec)) tasksTellUptoCard

/-- THE SECOND FORM's CARD OF 'timekeeperlaw14.TasksUnlike'. -/
def tasksUnlikeUptoCard : Claim7 := { stood := { row := tasksUnlikeUptoRow, standIns := [], harness := (true, "6bb5677a77f8484b1b0af2a61f46c33e984d7a720dacf7b6a332b7692dc2aeb4"), looks := false }, kinds := [], alts := [], laidByText := true, laidKinds := [.data, .data, .data], laidTests := true, laidLooks := .later }
def TasksUnlikeUptoCardSaid : Prop := Claim7.holds Tryd.pinned (.plain (OpenSpec.upto tasksUnlikeSpec)) tasksUnlikeUptoCard

/-- THE SECOND FORM's CARD OF 'timekeeperlaw14.TasksAsk'. -/
def tasksAskUptoCard : Claim7 := { stood := { row := tasksAskUptoRow, standIns := [], harness := (true, "6bb5677a77f8484b1b0af2a61f46c33e984d7a720dacf7b6a332b7692dc2aeb4"), looks := false }, kinds := [], alts := [], laidByText := true, laidKinds := [.data, .data, .data], laidTests := true, laidLooks := .later }
def TasksAskUptoCardSaid : Prop := Claim7.holds Tryd.pinned (.plain (OpenSpec.upto tasksAskSpec)) tasksAskUptoCard

/-- THE SECOND FORM's CARD OF 'timekeeperlaw14.TasksOne'. -/
def tasksOneUptoCard : Claim7 := { stood := { row := tasksOneUptoRow, standIns := [], harness := (true, "6bb5677a77f8484b1b0af2a61f46c33e984d7a720dacf7b6a332b7692dc2aeb4"), looks := false }, kinds := [], alts := [], laidByText := true, laidKinds := [.data, .data, .data], laidTests := true, laidLooks := .later }
def TasksOneUptoCardSaid : Prop := Claim7.holds Tryd.pinned (.plain (OpenSpec.upto tasksOneSpec)) tasksOneUptoCard
end Rows
end Go.Proofs.YthaodmobcbccaaaDoor
