/- 'helmsmanlaw30.FairNil' returns true, 'known' taken by its word: reckoned by the evaluator. Conditions: none. -/
import Derived.Test.YtlddiefjbcafkaaGreatKf
set_option linter.unusedSimpArgs false
set_option linter.unusedVariables false
namespace Go.Proofs.YtlddiefjbcafkaaGreat.fairNil
open Go.RowKit
noncomputable def env : Go.Ev.Env := Go.Ev.envOf Tryz.prog 0 (Go.Ev.extKnown (Go.Ev.extAdd 245) 19)
theorem reckoned : isTrue (Go.Ev.callF env 60 (.func 4) [] (Go.Ev.Heap.mk 0 .leaf)) = true := by kernel_rfl
theorem walk (w : World) : Calls Tryz.prog 4 #[] w fun e w' => e = .returned (.bool true) ∧ Below w.heap.size w w' := by
  obtain ⟨h', e⟩ := of_isTrue reckoned
  exact Go.Ev.closed_calls (Go.Ev.envOK Tryz.prog 0 _ (by kernel_rfl)) ext_ok (Go.Ev.namesOK names) rfl rfl e w
end Go.Proofs.YtlddiefjbcafkaaGreat.fairNil
