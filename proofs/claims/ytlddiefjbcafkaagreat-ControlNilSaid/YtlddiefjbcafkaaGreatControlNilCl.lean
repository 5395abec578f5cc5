/- The closed facts about 'helmsmanlaw21.ControlNil' and its row: the kernel reckons each. Conditions: none. -/
import Derived.Test.YtlddiefjbcafkaaGreatRows
import Derived.KernelRfl
import Derived.WalkKit
import Derived.ProofKit
import Derived.OpenShut
set_option linter.unusedSimpArgs false
set_option linter.unusedVariables false
namespace Go.Proofs.YtlddiefjbcafkaaGreat.controlNil
open Go.ChangeShapes Go.WideShapes Go.ChangeAt Go.RowKit
set_option maxHeartbeats 4000000 in
theorem closed : joinedFacts Tryz.pinned.checked.prog 3 Tryz.f3 Rows.controlNilSpec Rows.controlNilRow = true := by
  unfold joinedFacts
  simp only [Bool.and_eq_true]
  repeat' apply And.intro
  all_goals (as_aux_lemma => kernel_rfl)
end Go.Proofs.YtlddiefjbcafkaaGreat.controlNil
