/- WHAT IS TAKEN BY ITS WORD, and short words. Conditions: none beyond each theorem's own. -/
import Derived.Test.YthjlppdnlahhoaaGreatZF
import Derived.Test.YthjlppdnlahhoaaGreatChecked
import Derived.KernelRfl
set_option linter.unusedSimpArgs false
set_option linter.unusedVariables false
namespace Go.Proofs.YthjlppdnlahhoaaGreat
open Go.Ev
set_option maxRecDepth 100000
def ext0:Fc:=fun _ _ _=>none
def idxG (args:List Value) (_:ak):Option Value :=
 match args with
 | [.string s,.int .u8 c]=>some (.int .i64 (Lib.indexByte s.data.toList c.toNat.toUInt8))
 | _=>none
def extI:Fc:=kz 159 idxG ext0
noncomputable def vO:Env:=iW Tryz.prog 0 extI
noncomputable def wQ (args:List Value) (_:ak):Option Value:=wX vO 20 86 args
noncomputable def Zh (args:List Value) (_:ak):Option Value:=Ca vO 149 args
noncomputable def Ra:Fc:=sD (kz 149 Zh (kz 86 wQ (sQ 139))) 5
theorem c_ {p:Prop}(h:p:=by kernel_rfl):p:=h
abbrev iv (x:Int):Value:=.int .i64 x
abbrev uv (x:Int):Value:=.int .u64 x
abbrev nS:Value:=.slice none 0 0
abbrev pt (b o:Nat):Value:=.pointer (some ⟨b,o,none⟩)
abbrev ad (b o:Nat):Addr:=⟨b,o,none⟩
theorem gz {α:Type}(a:α):∃ b,a=b:=⟨_,rfl⟩
end Go.Proofs.YthjlppdnlahhoaaGreat
