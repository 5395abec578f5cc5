/- 'helmsmanlaw21.ControlNil' returns true, 'known' taken by its word: reckoned by the evaluator. Conditions: none. -/
import Derived.Test.YtlddiefjbcafkaaGreatKc
set_option linter.unusedSimpArgs false
set_option linter.unusedVariables false
namespace Go.Proofs.YtlddiefjbcafkaaGreat.controlNil
open Go.RowKit
noncomputable def env : Go.Ev.Env := Go.Ev.envOf Tryz.prog 0 (Go.Ev.extKnown (Go.Ev.extAdd 245) 11)
theorem reckoned : isTrue (Go.Ev.callF env 60 (.func 3) [] (Go.Ev.Heap.mk 0 .leaf)) = true := by kernel_rfl
theorem walk (w : World) : Calls Tryz.prog 3 #[] w fun e w' => e = .returned (.bool true) ∧ Below w.heap.size w w' := by
  obtain ⟨h', e⟩ := of_isTrue reckoned
  exact Go.Ev.closed_calls (Go.Ev.envOK Tryz.prog 0 _ (by kernel_rfl)) ext_ok (Go.Ev.namesOK names) rfl rfl e w
end Go.Proofs.YtlddiefjbcafkaaGreat.controlNil
