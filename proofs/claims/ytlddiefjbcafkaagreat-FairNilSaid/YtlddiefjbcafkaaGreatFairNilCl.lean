/- The closed facts about 'helmsmanlaw30.FairNil' and its row: the kernel reckons each. Conditions: none. -/
import Derived.Test.YtlddiefjbcafkaaGreatRows
import Derived.KernelRfl
import Derived.WalkKit
import Derived.ProofKit
import Derived.OpenShut
set_option linter.unusedSimpArgs false
set_option linter.unusedVariables false
namespace Go.Proofs.YtlddiefjbcafkaaGreat.fairNil
open Go.ChangeShapes Go.WideShapes Go.ChangeAt Go.RowKit
set_option maxHeartbeats 4000000 in
theorem closed : joinedFacts Tryz.pinned.checked.prog 4 Tryz.f4 Rows.fairNilSpec Rows.fairNilRow = true := by
  unfold joinedFacts
  simp only [Bool.and_eq_true]
  repeat' apply And.intro
  all_goals (as_aux_lemma => kernel_rfl)
end Go.Proofs.YtlddiefjbcafkaaGreat.fairNil
