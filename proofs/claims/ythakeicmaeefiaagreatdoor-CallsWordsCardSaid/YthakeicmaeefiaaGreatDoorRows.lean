/-
  NARROWER THAN 'FOR EVERY INPUT', by the rows' own cells (each row's printed sentence says how): CallsKeep: laid · CallsGuard: laid · CallsMove: laid · CallsWords: laid · CallsUndo: laid.
  DERIVED. THE GIVEN ROWS OF THIS SEAT. 5 by the template 'for every input the law returns true; each argument reads behind the call as it read before'; 0 by the template 'total and deterministic' (their statements: YthakeicmaeefiaaGreatDoorTotals.lean).
  GIVEN WITH THE SEED: the statements are not yours to turn. If you find one false, say at which input.
  Laid BY PROGRAM, IN A SANDBOX (cutbox-rows.mjs): the forced cells as the released guide's own fill.sh prints them over the translation 1602dd967922448f… (all of the seat's roots in one cut). By AI agents, Wed Nov 11 2026. No macro, syntax, notation, axiom, sorry.
-/
import Derived.Test.YthakeicmaeefiaaGreatDoorChecked
import GoSem.PinnedTables
import GoSem.Claim
import GoSem.ClaimJoined
import GoSem.ClaimMapViews
import Derived.JoinedTies
import Derived.KernelRfl
namespace Go.Proofs.YthakeicmaeefiaaGreatDoor
/- THE CELL 'sum', in the pinned program and in every row, IS THE sha256 OF THE DUMP (.gsa) THAT YthakeicmaeefiaaGreatDoorProg.lean LOADS. Nothing in Lean hashes anything: it is a label: what it is worth is what the hold of that sum in a sandbox is worth. -/
noncomputable def Tryz.pinned : Pinned := { name := "ythakeicmaeefiaagreatdoor", sum := "1602dd967922448f8cfe484207b3c07d3c39058415006a0a73509cf789dc606e", checked := Tryz.checked }
namespace Rows
def none {H : Type} : Left H := { results := [], args := [] }

/- WHAT THE LISTED PACKAGE-LEVEL VARIABLES READ AS WHEN THE CALL BEGINS. Each datum BY PROGRAM (the guide's laid-datum.mjs) off the statement by which the dump's own 'gosem.cut.vars' lays the variable. In a bare row this is a premise. The card (YthakeicmaeefiaaGreatDoorCards.lean) ties it to the program's text. -/
def laid_unicode_utf8_acceptRanges {H : Type} : DataW H := .agg [.agg [.lit (.int .u8 128), .lit (.int .u8 191)], .agg [.lit (.int .u8 160), .lit (.int .u8 191)], .agg [.lit (.int .u8 128), .lit (.int .u8 159)], .agg [.lit (.int .u8 144), .lit (.int .u8 191)], .agg [.lit (.int .u8 128), .lit (.int .u8 143)], .agg [.lit (.int .u8 0), .lit (.int .u8 0)], .agg [.lit (.int .u8 0), .lit (.int .u8 0)], .agg [.lit (.int .u8 0), .lit (.int .u8 0)], .agg [.lit (.int .u8 0), .lit (.int .u8 0)], .agg [.lit (.int .u8 0), .lit (.int .u8 0)], .agg [.lit (.int .u8 0), .lit (.int .u8 0)], .agg [.lit (.int .u8 0), .lit (.int .u8 0)], .agg [.lit (.int .u8 0), .lit (.int .u8 0)], .agg [.lit (.int .u8 0), .lit (.int .u8 0)], .agg [.lit (.int .u8 0), .lit (.int .u8 0)], .agg [.lit (.int .u8 0), .lit (.int .u8 0)]]
/-- One of Go's own tables, pinned by name: the form's constant. -/
def laid_unicode_utf8_first : DataW Unit := Go.Pinned.utf8First

/-- 'toolchestlaw15.CallsKeep': WHATEVER THE INPUT: true; the input reads as it did. -/
def callsKeepSpec : ChangeSpec := { name := "callsKeep", fn := fun _ => fun
  | [d1, d2] => { results := [.lit (.bool true)], args := [d1, d2] }
  | _ => none }
def callsKeepRow : OpenClaim := { program := "ythakeicmaeefiaagreatdoor", sum := "1602dd967922448f8cfe484207b3c07d3c39058415006a0a73509cf789dc606e", func := "toolchest/toolchestlaw15.CallsKeep", spec := "callsKeep", inPlace := ["internal/bytealg.IndexByteString", "internal/bytealg.IndexString", "internal/bytealg.CountString", "internal/bytealg.abigen_runtime_cmpstring", "slices.overlaps[toolchest/api.Entry]"], unfollowed := true, recurses := true, named := ["internal/bytealg.MaxLen", "unicode/utf8.first", "unicode/utf8.acceptRanges"], apart := false, laid := [("unicode/utf8.acceptRanges", laid_unicode_utf8_acceptRanges), ("unicode/utf8.first", laid_unicode_utf8_first)] }
def CallsKeepSaid : Prop := callsKeepRow.holds Tryz.pinned (OpenSpec.ofChange callsKeepSpec)

/-- ITS FALSE NEIGHBOUR: 'it returns false'. Refute it at one input. -/
def callsKeepWrong : ChangeSpec := { name := "callsKeep", fn := fun _ => fun
  | [d1, d2] => { results := [.lit (.bool false)], args := [d1, d2] }
  | _ => none }
def CallsKeepWrongFalsely : Prop := callsKeepRow.holds Tryz.pinned (OpenSpec.ofChange callsKeepWrong)

/-- 'toolchestlaw15.CallsGuard': WHATEVER THE INPUT: true; the input reads as it did. -/
def callsGuardSpec : ChangeSpec := { name := "callsGuard", fn := fun _ => fun
  | [d1, d2] => { results := [.lit (.bool true)], args := [d1, d2] }
  | _ => none }
def callsGuardRow : OpenClaim := { program := "ythakeicmaeefiaagreatdoor", sum := "1602dd967922448f8cfe484207b3c07d3c39058415006a0a73509cf789dc606e", func := "toolchest/toolchestlaw15.CallsGuard", spec := "callsGuard", inPlace := ["internal/bytealg.IndexByteString", "internal/bytealg.IndexString", "internal/bytealg.CountString", "internal/bytealg.abigen_runtime_cmpstring", "slices.overlaps[toolchest/api.Entry]"], unfollowed := true, recurses := true, named := ["internal/bytealg.MaxLen", "unicode/utf8.first", "unicode/utf8.acceptRanges"], apart := false, laid := [("unicode/utf8.acceptRanges", laid_unicode_utf8_acceptRanges), ("unicode/utf8.first", laid_unicode_utf8_first)] }
def CallsGuardSaid : Prop := callsGuardRow.holds Tryz.pinned (OpenSpec.ofChange callsGuardSpec)

/-- ITS FALSE NEIGHBOUR: 'it returns false'. Refute it at one input. -/
def callsGuardWrong : ChangeSpec := { name := "callsGuard", fn := fun _ => fun
  | [d1, d2] => { results := [.lit (.bool false)], args := [d1, d2] }
  | _ => none }
def CallsGuardWrongFalsely : Prop := callsGuardRow.holds Tryz.pinned (OpenSpec.ofChange callsGuardWrong)

/-- 'toolchestlaw15.CallsMove': WHATEVER THE INPUT: true; the input reads as it did. -/
def callsMoveSpec : ChangeSpec := { name := "callsMove", fn := fun _ => fun
  | [d] => { results := [.lit (.bool true)], args := [d] }
  | _ => none }
def callsMoveRow : OpenClaim := { program := "ythakeicmaeefiaagreatdoor", sum := "1602dd967922448f8cfe484207b3c07d3c39058415006a0a73509cf789dc606e", func := "toolchest/toolchestlaw15.CallsMove", spec := "callsMove", inPlace := ["internal/bytealg.IndexByteString", "internal/bytealg.IndexString", "internal/bytealg.CountString", "internal/bytealg.abigen_runtime_cmpstring", "slices.overlaps[toolchest/api.Entry]"], unfollowed := true, recurses := true, named := ["internal/bytealg.MaxLen", "unicode/utf8.first", "unicode/utf8.acceptRanges"], apart := false, laid := [("unicode/utf8.acceptRanges", laid_unicode_utf8_acceptRanges), ("unicode/utf8.first", laid_unicode_utf8_first)] }
def CallsMoveSaid : Prop := callsMoveRow.holds Tryz.pinned (OpenSpec.ofChange callsMoveSpec)

/-- ITS FALSE NEIGHBOUR: 'it returns false'. Refute it at one input. -/
def callsMoveWrong : ChangeSpec := { name := "callsMove", fn := fun _ => fun
  | [d] => { results := [.lit (.bool false)], args := [d] }
  | _ => none }
def CallsMoveWrongFalsely : Prop := callsMoveRow.holds Tryz.pinned (OpenSpec.ofChange callsMoveWrong)

/-- 'toolchestlaw15.CallsWords': WHATEVER THE INPUT: true; the input reads as it did. -/
def callsWordsSpec : ChangeSpec := { name := "callsWords", fn := fun _ => fun
  | [d] => { results := [.lit (.bool true)], args := [d] }
  | _ => none }
def callsWordsRow : OpenClaim := { program := "ythakeicmaeefiaagreatdoor", sum := "1602dd967922448f8cfe484207b3c07d3c39058415006a0a73509cf789dc606e", func := "toolchest/toolchestlaw15.CallsWords", spec := "callsWords", inPlace := ["internal/bytealg.IndexByteString", "internal/bytealg.IndexString", "internal/bytealg.CountString", "internal/bytealg.abigen_runtime_cmpstring", "slices.overlaps[toolchest/api.Entry]"], unfollowed := true, recurses := true, named := ["internal/bytealg.MaxLen", "unicode/utf8.first", "unicode/utf8.acceptRanges"], apart := false, laid := [("unicode/utf8.acceptRanges", laid_unicode_utf8_acceptRanges), ("unicode/utf8.first", laid_unicode_utf8_first)] }
def CallsWordsSaid : Prop := callsWordsRow.holds Tryz.pinned (OpenSpec.ofChange callsWordsSpec)

/-- ITS FALSE NEIGHBOUR: 'it returns false'. Refute it at one input. -/
def callsWordsWrong : ChangeSpec := { name := "callsWords", fn := fun _ => fun
  | [d] => { results := [.lit (.bool false)], args := [d] }
  | _ => none }
def CallsWordsWrongFalsely : Prop := callsWordsRow.holds Tryz.pinned (OpenSpec.ofChange callsWordsWrong)

/-- 'toolchestlaw15.CallsUndo': WHATEVER THE INPUT: true; the input reads as it did. -/
def callsUndoSpec : ChangeSpec := { name := "callsUndo", fn := fun _ => fun
  | [d1, d2] => { results := [.lit (.bool true)], args := [d1, d2] }
  | _ => none }
def callsUndoRow : OpenClaim := { program := "ythakeicmaeefiaagreatdoor", sum := "1602dd967922448f8cfe484207b3c07d3c39058415006a0a73509cf789dc606e", func := "toolchest/toolchestlaw15.CallsUndo", spec := "callsUndo", inPlace := ["internal/bytealg.IndexByteString", "internal/bytealg.IndexString", "internal/bytealg.CountString", "internal/bytealg.abigen_runtime_cmpstring", "slices.overlaps[toolchest/api.Entry]"], unfollowed := true, recurses := true, named := ["internal/bytealg.MaxLen", "unicode/utf8.first", "unicode/utf8.acceptRanges"], apart := false, laid := [("unicode/utf8.acceptRanges", laid_unicode_utf8_acceptRanges), ("unicode/utf8.first", laid_unicode_utf8_first)] }
def CallsUndoSaid : Prop := callsUndoRow.holds Tryz.pinned (OpenSpec.ofChange callsUndoSpec)

/-- ITS FALSE NEIGHBOUR: 'it returns false'. Refute it at one input. -/
def callsUndoWrong : ChangeSpec := { name := "callsUndo", fn := fun _ => fun
  | [d1, d2] => { results := [.lit (.bool false)], args := [d1, d2] }
  | _ => none }
def CallsUndoWrongFalsely : Prop := callsUndoRow.holds Tryz.pinned (OpenSpec.ofChange callsUndoWrong)

/- THE SECOND FORM. 'bulk': how many values and letters a reading holds, each counted each time it is reached (what is shared counts as often as it is met; a slice's spare places count too). A statement '..UptoSaid' is the law's where the arguments, and the package variables that the reading takes, are together of bulk at most 1048576: NARROWER than '..Said'. Prove '..Said' where nothing that the law and all that it calls make is longer than what came in: it says more and counts as full. Else prove '..UptoSaid'. A law counts once. -/
mutual
def uptoBulk {H : Type} : DataW H → Nat
  | .lit (.string bytes) => bytes.length + 1
  | .lit _ => 1
  | .nil => 1
  | .ptr d => uptoBulk d + 1
  | .slice elems spare => uptoBulkAll elems + uptoBulkAll spare + 1
  | .agg parts => uptoBulkAll parts + 1
  | .iface _ d => uptoBulk d + 1
  | .map entries => uptoBulkEntries entries + 1
  | .held _ => 1
def uptoBulkAll {H : Type} : List (DataW H) → Nat
  | [] => 0
  | d :: r => uptoBulk d + uptoBulkAll r
def uptoBulkEntries {H : Type} : List (Lit × DataW H) → Nat
  | [] => 0
  | x :: r => uptoBulkEntry x + uptoBulkEntries r
def uptoBulkEntry {H : Type} : Lit × DataW H → Nat
  | (.string bytes, d) => bytes.length + uptoBulk d + 1
  | (_, d) => uptoBulk d + 1
 end
def uptoSmall : (H : Type) → List (DataW H) → Bool := fun _ ds => decide (uptoBulkAll ds ≤ 1048576)
def OpenSpec.upto (s : _root_.Go.ChangeSpec) : _root_.Go.OpenSpec := { _root_.Go.OpenSpec.ofChange s with cond := some uptoSmall }

/-- 'toolchestlaw15.CallsKeep', WHERE WHAT IT READS IS OF BULK AT MOST 1048576: true; the input reads as it did. -/
def callsKeepUptoRow : OpenClaim := { program := "ythakeicmaeefiaagreatdoor", sum := "1602dd967922448f8cfe484207b3c07d3c39058415006a0a73509cf789dc606e", func := "toolchest/toolchestlaw15.CallsKeep", spec := "callsKeep", inPlace := ["internal/bytealg.IndexByteString", "internal/bytealg.IndexString", "internal/bytealg.CountString", "internal/bytealg.abigen_runtime_cmpstring", "slices.overlaps[toolchest/api.Entry]"], unfollowed := true, recurses := true, named := ["internal/bytealg.MaxLen", "unicode/utf8.first", "unicode/utf8.acceptRanges"], apart := false, laid := [("unicode/utf8.acceptRanges", laid_unicode_utf8_acceptRanges), ("unicode/utf8.first", laid_unicode_utf8_first)], narrowed := true }
def CallsKeepUptoSaid : Prop := callsKeepUptoRow.holds Tryz.pinned (OpenSpec.upto callsKeepSpec)

/-- 'toolchestlaw15.CallsGuard', WHERE WHAT IT READS IS OF BULK AT MOST 1048576: true; the input reads as it did. -/
def callsGuardUptoRow : OpenClaim := { program := "ythakeicmaeefiaagreatdoor", sum := "1602dd967922448f8cfe484207b3c07d3c39058415006a0a73509cf789dc606e", func := "toolchest/toolchestlaw15.CallsGuard", spec := "callsGuard", inPlace := ["internal/bytealg.IndexByteString", "internal/bytealg.IndexString", "internal/bytealg.CountString", "internal/bytealg.abigen_runtime_cmpstring", "slices.overlaps[toolchest/api.Entry]"], unfollowed := true, recurses := true, named := ["internal/bytealg.MaxLen", "unicode/utf8.first", "unicode/utf8.acceptRanges"], apart := false, laid := [("unicode/utf8.acceptRanges", laid_unicode_utf8_acceptRanges), ("unicode/utf8.first", laid_unicode_utf8_first)], narrowed := true }
def CallsGuardUptoSaid : Prop := callsGuardUptoRow.holds Tryz.pinned (OpenSpec.upto callsGuardSpec)

/-- 'toolchestlaw15.CallsMove', WHERE WHAT IT READS IS OF BULK AT MOST 1048576: true; the input reads as it did. -/
def callsMoveUptoRow : OpenClaim := { program := "ythakeicmaeefiaagreatdoor", sum := "1602dd967922448f8cfe484207b3c07d3c39058415006a0a73509cf789dc606e", func := "toolchest/toolchestlaw15.CallsMove", spec := "callsMove", inPlace := ["internal/bytealg.IndexByteString", "internal/bytealg.IndexString", "internal/bytealg.CountString", "internal/bytealg.abigen_runtime_cmpstring", "slices.overlaps[toolchest/api.Entry]"], unfollowed := true, recurses := true, named := ["internal/bytealg.MaxLen", "unicode/utf8.first", "unicode/utf8.acceptRanges"], apart := false, laid := [("unicode/utf8.acceptRanges", laid_unicode_utf8_acceptRanges), ("unicode/utf8.first", laid_unicode_utf8_first)], narrowed := true }
def CallsMoveUptoSaid : Prop := callsMoveUptoRow.holds Tryz.pinned (OpenSpec.upto callsMoveSpec)

/-- 'toolchestlaw15.CallsWords', WHERE WHAT IT READS IS OF BULK AT MOST 1048576: true; the input reads as it did. -/
def callsWordsUptoRow : OpenClaim := { program := "ythakeicmaeefiaagreatdoor", sum := "1602dd967922448f8cfe484207b3c07d3c39058415006a0a73509cf789dc606e", func := "toolchest/toolchestlaw15.CallsWords", spec := "callsWords", inPlace := ["internal/bytealg.IndexByteString", "internal/bytealg.IndexString", "internal/bytealg.CountString", "internal/bytealg.abigen_runtime_cmpstring", "slices.overlaps[toolchest/api.Entry]"], unfollowed := true, recurses := true, named := ["internal/bytealg.MaxLen", "unicode/utf8.first", "unicode/utf8.acceptRanges"], apart := false, laid := [("unicode/utf8.acceptRanges", laid_unicode_utf8_acceptRanges), ("unicode/utf8.first", laid_unicode_utf8_first)], narrowed := true }
def CallsWordsUptoSaid : Prop := callsWordsUptoRow.holds Tryz.pinned (OpenSpec.upto callsWordsSpec)

/-- 'toolchestlaw15.CallsUndo', WHERE WHAT IT READS IS OF BULK AT MOST 1048576: true; the input reads as it did. -/
def callsUndoUptoRow : OpenClaim := { program := "ythakeicmaeefiaagreatdoor", sum := "1602dd967922448f8cfe484207b3c07d3c39058415006a0a73509cf789dc606e", func := "toolchest/toolchestlaw15.CallsUndo", spec := "callsUndo", inPlace := ["internal/bytealg.IndexByteString", "internal/bytealg.IndexString", "internal/bytealg.CountString", "internal/bytealg.abigen_runtime_cmpstring", "slices.overlaps[toolchest/api.Entry]"], unfollowed := true, recurses := true, named := ["internal/bytealg.MaxLen", "unicode/utf8.first", "unicode/utf8.acceptRanges"], apart := false, laid := [("unicode/utf8.acceptRanges", laid_unicode_utf8_acceptRanges), ("unicode/utf8.first", laid_unicode_utf8_first)], narrowed := true }
def CallsUndoUptoSaid : Prop := callsUndoUptoRow.holds Tryz.pinned (OpenSpec.upto callsUndoSpec)

end Rows
end Go.Proofs.YthakeicmaeefiaaGreatDoor
