/- lives() answers true, in every world. -/
import Derived.Test.YthakeicmaeefiaaGreatDoorLv
set_option linter.unusedVariables false
set_option linter.unusedSimpArgs false
namespace Go.Proofs.YthakeicmaeefiaaGreatDoor
open Go Go.Sh Go.Ev Go.Proofs
set_option maxRecDepth 100000
theorem lives_ev : evCall Tryz.prog tab extT 1000 40 10 [] ⟨.e, [], 0⟩ (fun v _ => beqV v (.bool true)) = true := by kernel_rfl
theorem c_lives (w : World) : Calls Tryz.prog 10 #[] w fun en w' => ∃ v, en = .returned v ∧ (v = .bool true ∧ Gr w w') := by
  obtain ⟨fu, hf⟩ : ∃ fu, tab 10 = some fu := by
    cases h : tab 10 with
    | none =>
      have := lives_ev
      unfold evCall at this
      rw [h] at this
      cases this
    | some fu => exact ⟨fu, rfl⟩
  exact closed_ok Tryz.mixed tab_ok ext_ok hf lives_ev w
end Go.Proofs.YthakeicmaeefiaaGreatDoor
