/- known(), reckoned. Conditions: none. -/
import Derived.RowKit
import Derived.Test.YthjlppdnlahhoaaGreatKV
import Derived.Test.YthjlppdnlahhoaaGreatKA
set_option linter.unusedSimpArgs false
set_option linter.unusedVariables false
namespace Go.Proofs.YthjlppdnlahhoaaGreat
open Go.Ev Go.RowKit
set_option maxRecDepth 100000
noncomputable def envK:Env:=iW Tryz.prog 0 (kz 86 wQ (sQ 139))
def isTrue:Option (Go.Value×Go.Ev.ak)→Bool
 | some (.bool true,_)=>true
 | _=>false
theorem LQ {r:Option (Go.Value×Go.Ev.ak)}(h:isTrue r=true):∃ h',r=some (.bool true,h'):=by
 unfold isTrue at h;split at h;·exact⟨_,rfl⟩
 ·cases h
theorem Pd:isTrue (dN envK 60 (.func 5) [] (ak.mk 0 .leaf))=true:=by kernel_rfl
end Go.Proofs.YthjlppdnlahhoaaGreat
