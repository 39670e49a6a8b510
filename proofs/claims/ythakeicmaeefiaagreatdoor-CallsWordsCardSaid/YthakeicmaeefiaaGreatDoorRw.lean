/- A world that holds the listed tables, for the rows' witnesses. -/
import Derived.Test.YthakeicmaeefiaaGreatDoorCards
import Derived.Test.YthakeicmaeefiaaGreatDoorTie
import Derived.WalkKit
import Derived.ProofKit
import Derived.OpenShut
import Derived.Deep.DeepHandedRow
import Derived.Lib.LaidTab
set_option linter.unusedVariables false
set_option linter.unusedSimpArgs false
namespace Go.Proofs.YthakeicmaeefiaaGreatDoor
open Go.ChangeShapes Go.WideShapes Go.ChangeAt Go.RowKit
set_option maxRecDepth 100000
theorem own : ownKnob Tryz.prog.godebug = none := by kernel_rfl
abbrev u8 (n : Nat) : Value := .int .u8 n
def layCells (cs : Array Value) : Obj → Obj
  | .cells _ t frozen => .cells cs t frozen
  | o => o
noncomputable def laidWorld (os : Os) : World :=
  { World.holding Tryz.prog os ⟨#[], #[], []⟩ with heap := ((World.holding Tryz.prog os ⟨#[], #[], []⟩).heap.modify 1 (layCells #[u8 240, u8 240, u8 240, u8 240, u8 240, u8 240, u8 240, u8 240, u8 240, u8 240, u8 240, u8 240, u8 240, u8 240, u8 240, u8 240, u8 240, u8 240, u8 240, u8 240, u8 240, u8 240, u8 240, u8 240, u8 240, u8 240, u8 240, u8 240, u8 240, u8 240, u8 240, u8 240, u8 240, u8 240, u8 240, u8 240, u8 240, u8 240, u8 240, u8 240, u8 240, u8 240, u8 240, u8 240, u8 240, u8 240, u8 240, u8 240, u8 240, u8 240, u8 240, u8 240, u8 240, u8 240, u8 240, u8 240, u8 240, u8 240, u8 240, u8 240, u8 240, u8 240, u8 240, u8 240, u8 240, u8 240, u8 240, u8 240, u8 240, u8 240, u8 240, u8 240, u8 240, u8 240, u8 240, u8 240, u8 240, u8 240, u8 240, u8 240, u8 240, u8 240, u8 240, u8 240, u8 240, u8 240, u8 240, u8 240, u8 240, u8 240, u8 240, u8 240, u8 240, u8 240, u8 240, u8 240, u8 240, u8 240, u8 240, u8 240, u8 240, u8 240, u8 240, u8 240, u8 240, u8 240, u8 240, u8 240, u8 240, u8 240, u8 240, u8 240, u8 240, u8 240, u8 240, u8 240, u8 240, u8 240, u8 240, u8 240, u8 240, u8 240, u8 240, u8 240, u8 240, u8 240, u8 240, u8 240, u8 241, u8 241, u8 241, u8 241, u8 241, u8 241, u8 241, u8 241, u8 241, u8 241, u8 241, u8 241, u8 241, u8 241, u8 241, u8 241, u8 241, u8 241, u8 241, u8 241, u8 241, u8 241, u8 241, u8 241, u8 241, u8 241, u8 241, u8 241, u8 241, u8 241, u8 241, u8 241, u8 241, u8 241, u8 241, u8 241, u8 241, u8 241, u8 241, u8 241, u8 241, u8 241, u8 241, u8 241, u8 241, u8 241, u8 241, u8 241, u8 241, u8 241, u8 241, u8 241, u8 241, u8 241, u8 241, u8 241, u8 241, u8 241, u8 241, u8 241, u8 241, u8 241, u8 241, u8 241, u8 241, u8 241, u8 2, u8 2, u8 2, u8 2, u8 2, u8 2, u8 2, u8 2, u8 2, u8 2, u8 2, u8 2, u8 2, u8 2, u8 2, u8 2, u8 2, u8 2, u8 2, u8 2, u8 2, u8 2, u8 2, u8 2, u8 2, u8 2, u8 2, u8 2, u8 2, u8 2, u8 19, u8 3, u8 3, u8 3, u8 3, u8 3, u8 3, u8 3, u8 3, u8 3, u8 3, u8 3, u8 3, u8 35, u8 3, u8 3, u8 52, u8 4, u8 4, u8 4, u8 68, u8 241, u8 241, u8 241, u8 241, u8 241, u8 241, u8 241, u8 241, u8 241, u8 241, u8 241])).modify 2 (layCells #[u8 128, u8 191, u8 160, u8 191, u8 128, u8 159, u8 144, u8 191, u8 128, u8 143, u8 0, u8 0, u8 0, u8 0, u8 0, u8 0, u8 0, u8 0, u8 0, u8 0, u8 0, u8 0, u8 0, u8 0, u8 0, u8 0, u8 0, u8 0, u8 0, u8 0, u8 0, u8 0]) }
end Go.Proofs.YthakeicmaeefiaaGreatDoor
