/-
  DERIVED. GIVEN WITH THE SEED: THE CARDS: each row of YthakeicmaeefiaaGreatDoorRows.lean that lists a variable, with what it lists TIED to the program's text (the seventh form; the later family's looks); each row that meets fmt, with fmt's text TOLD by the authors' own Lean function (tested against real Go, not proved from fmt's source: count such statements apart). THE CARD IS WHAT COUNTS. Prove the row's statement (the work); the ties are given (YthakeicmaeefiaaGreatDoorTie.lean); close each card by the builder's one call (the guide's Derived/Test/ToyasCard.lean, 'card_holds'). Laid BY PROGRAM, IN A SANDBOX (cutbox-door.mjs). By AI agents, Wed Nov 11 2026. No macro, syntax, notation, axiom, sorry.
-/
import Derived.Test.YthakeicmaeefiaaGreatDoorRows
import GoSem.ClaimSeven
namespace Go.Proofs.YthakeicmaeefiaaGreatDoor
namespace Rows

/-- THE TIED CARD OF 'toolchestlaw15.CallsKeep'. -/
def callsKeepCard : Claim7 := { stood := { row := callsKeepRow, standIns := [], harness := (true, "100a8c6525dc14701e0502eb5c992cdab4e02cea07c97fea1cd2d3e6d03a4e81"), looks := false }, kinds := [], alts := [], laidByText := true, laidKinds := [.data, .pinned], laidTests := true, laidLooks := .later }
def CallsKeepCardSaid : Prop := Claim7.holds Tryz.pinned (.plain (OpenSpec.ofChange callsKeepSpec)) callsKeepCard

/-- THE TIED CARD OF 'toolchestlaw15.CallsGuard'. -/
def callsGuardCard : Claim7 := { stood := { row := callsGuardRow, standIns := [], harness := (true, "100a8c6525dc14701e0502eb5c992cdab4e02cea07c97fea1cd2d3e6d03a4e81"), looks := false }, kinds := [], alts := [], laidByText := true, laidKinds := [.data, .pinned], laidTests := true, laidLooks := .later }
def CallsGuardCardSaid : Prop := Claim7.holds Tryz.pinned (.plain (OpenSpec.ofChange callsGuardSpec)) callsGuardCard

/-- THE TIED CARD OF 'toolchestlaw15.CallsMove'. -/
def callsMoveCard : Claim7 := { stood := { row := callsMoveRow, standIns := [], harness := (true, "100a8c6525dc14701e0502eb5c992cdab4e02cea07c97fea1cd2d3e6d03a4e81"), looks := false }, kinds := [], alts := [], laidByText := true, laidKinds := [.data, .pinned], laidTests := true, laidLooks := .later }
def CallsMoveCardSaid : Prop := Claim7.holds Tryz.pinned (.plain (OpenSpec.ofChange callsMoveSpec)) callsMoveCard

/-- THE TIED CARD OF 'toolchestlaw15.CallsWords'. -/
def callsWordsCard : Claim7 := { stood := { row := callsWordsRow, standIns := [], harness := (true, "100a8c6525dc14701e0502eb5c992cdab4e02cea07c97fea1cd2d3e6d03a4e81"), looks := false }, kinds := [], alts := [], laidByText := true, laidKinds := [.data, .pinned], laidTests := true, laidLooks := .later }
def CallsWordsCardSaid : Prop := Claim7.holds Tryz.pinned (.plain (OpenSpec.ofChange callsWordsSpec)) callsWordsCard

/-- THE TIED CARD OF 'toolchestlaw15.CallsUndo'. -/
def callsUndoCard : Claim7 := { stood := { row := callsUndoRow, standIns := [], harness := (true, "100a8c6525dc14701e0502eb5c992cdab4e02cea07c97fea1cd2d3e6d03a4e81"), looks := false }, kinds := [], alts := [], laidByText := true, laidKinds := [.data, .pinned], laidTests := true, laidLooks := .later }
def CallsUndoCardSaid : Prop := Claim7.holds Tryz.pinned (.plain (OpenSpec.ofChange callsUndoSpec)) callsUndoCard

/-- THE SECOND FORM's CARD OF 'toolchestlaw15.CallsKeep'. -/
def callsKeepUptoCard : Claim7 := { stood := { row := callsKeepUptoRow, standIns := [], harness := (true, "100a8c6525dc14701e0502eb5c992cdab4e02cea07c97fea1cd2d3e6d03a4e81"), looks := false }, kinds := [], alts := [], laidByText := true, laidKinds := [.data, .pinned], laidTests := true, laidLooks := .later }
def CallsKeepUptoCardSaid : Prop := Claim7.holds Tryz.pinned (.plain (OpenSpec.upto callsKeepSpec)) callsKeepUptoCard

/-- THE SECOND FORM's CARD OF 'toolchestlaw15.CallsGuard'. -/
def callsGuardUptoCard : Claim7 := { stood := { row := callsGuardUptoRow, standIns := [], harness := (true, "100a8c6525dc14701e0502eb5c992cdab4e02cea07c97fea1cd2d3e6d03a4e81"), looks := false }, kinds := [], alts := [], laidByText := true, laidKinds := [.data, .pinned], laidTests := true, laidLooks := .later }
def CallsGuardUptoCardSaid : Prop := Claim7.holds Tryz.pinned (.plain (OpenSpec.upto callsGuardSpec)) callsGuardUptoCard

/-- THE SECOND FORM's CARD OF 'toolchestlaw15.CallsMove'. -/
def callsMoveUptoCard : Claim7 := { stood := { row := callsMoveUptoRow, standIns := [], harness := (true, "100a8c6525dc14701e0502eb5c992cdab4e02cea07c97fea1cd2d3e6d03a4e81"), looks := false }, kinds := [], alts := [], laidByText := true, laidKinds := [.data, .pinned], laidTests := true, laidLooks := .later }
def CallsMoveUptoCardSaid : Prop := Claim7.holds Tryz.pinned (.plain (OpenSpec.upto callsMoveSpec)) callsMoveUptoCard

/-- THE SECOND FORM's CARD OF 'toolchestlaw15.CallsWords'. -/
def callsWordsUptoCard : Claim7 := { stood := { row := callsWordsUptoRow, standIns := [], harness := (true, "100a8c6525dc14701e0502eb5c992cdab4e02cea07c97fea1cd2d3e6d03a4e81"), looks := false }, kinds := [], alts := [], laidByText := true, laidKinds := [.data, .pinned], laidTests := true, laidLooks := .later }
def CallsWordsUptoCardSaid : Prop := Claim7.holds Tryz.pinned (.plain (OpenSpec.upto callsWordsSpec)) callsWordsUptoCard

/-- THE SECOND FORM's CARD OF 'toolchestlaw15.CallsUndo'. -/
def callsUndoUptoCard : Claim7 := { stood := { row := callsUndoUptoRow, standIns := [], harness := (true, "100a8c6525dc14701e0502eb5c992cdab4e02cea07c97fea1cd2d3e6d03a4e81"), looks := false }, kinds := [], alts := [], laidByText := true, laidKinds := [.data, .pinned], laidTests := true, laidLooks := .later }
def CallsUndoUptoCardSaid : Prop := Claim7.holds Tryz.pinned (.plain (OpenSpec.upto callsUndoSpec)) callsUndoUptoCard
end Rows
end Go.Proofs.YthakeicmaeefiaaGreatDoor
