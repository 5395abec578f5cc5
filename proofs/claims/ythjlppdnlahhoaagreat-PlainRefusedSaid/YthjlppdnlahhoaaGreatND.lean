/- num.Nth, reckoned (4). Conditions: none. -/
import Derived.Test.YthjlppdnlahhoaaGreatNA
set_option linter.unusedSimpArgs false
set_option linter.unusedVariables false
namespace Go.Proofs.YthjlppdnlahhoaaGreat
open Go.Ev
set_option maxRecDepth 100000
theorem rec192 (n:Int):rM 192 32 n:=by unfold rM;kernel_rfl
theorem ab' (n:Int):rM 224 31 n:=by unfold rM;kernel_rfl
end Go.Proofs.YthjlppdnlahhoaaGreat
