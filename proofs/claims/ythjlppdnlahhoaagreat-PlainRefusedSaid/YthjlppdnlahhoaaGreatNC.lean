/- num.Nth, reckoned (3). Conditions: none. -/
import Derived.Test.YthjlppdnlahhoaaGreatNA
set_option linter.unusedSimpArgs false
set_option linter.unusedVariables false
namespace Go.Proofs.YthjlppdnlahhoaaGreat
open Go.Ev
set_option maxRecDepth 100000
theorem rec128 (n:Int):rM 128 32 n:=by unfold rM;kernel_rfl
theorem Yb (n:Int):rM 160 32 n:=by unfold rM;kernel_rfl
end Go.Proofs.YthjlppdnlahhoaaGreat
