/- num.Nth, reckoned (2). Conditions: none. -/
import Derived.Test.YthjlppdnlahhoaaGreatNA
set_option linter.unusedSimpArgs false
set_option linter.unusedVariables false
namespace Go.Proofs.YthjlppdnlahhoaaGreat
open Go.Ev
set_option maxRecDepth 100000
theorem rec64 (n:Int):rM 64 32 n:=by unfold rM;kernel_rfl
theorem rec96 (n:Int):rM 96 32 n:=by unfold rM;kernel_rfl
end Go.Proofs.YthjlppdnlahhoaaGreat
