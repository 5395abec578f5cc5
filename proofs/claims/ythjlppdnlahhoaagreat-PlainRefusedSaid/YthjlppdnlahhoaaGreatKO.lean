/- WHAT IS TAKEN BY ITS WORD, IS SO. Conditions: none beyond each theorem's own. -/
import Derived.Shelf.Strings.Search1
import Derived.Shelf.LaysM
import Derived.Test.YthjlppdnlahhoaaGreatProg
import Derived.Test.YthjlppdnlahhoaaGreatKV
import Derived.Test.YthjlppdnlahhoaaGreatKR
set_option linter.unusedSimpArgs false
set_option linter.unusedVariables false
namespace Go.Proofs
open Go.Shelf Go.RowKit
def Tryz.Gk:Go.Shelf.Ren:=⟨fun|217=>159|266=>167|n=>n,fun|9=>9|5=>5|3=>3|n=>n,fun|n=>n⟩
theorem Tryz.TN:Go.Proofs.Lays.n217 Tryz.prog Tryz.Gk:={
 mixed:=by kernel_rfl
 f217:=Tryz.func159.trans (congrArg some (by kernel_rfl))
 f266:=Tryz.func167.trans (congrArg some (by kernel_rfl))
 t3:=Tryz.underlying3
 a3:=Tryz.isAgg3
 z3:=Tryz.sizeOf3
 v3:=Tryz.zeroValue3
 t5:=Tryz.underlying5
 a5:=Tryz.isAgg5
 z5:=Tryz.sizeOf5
 v5:=Tryz.zeroValue5
 t9:=Tryz.underlying9
 a9:=Tryz.isAgg9
 z9:=Tryz.sizeOf9
 v9:=Tryz.zeroValue9 }
open Go.RowKit Go.Lib in
theorem Tryz.stringslite_IndexByte (s:ByteArray) (c:Int) (w:World) :
  Calls Tryz.prog 159 #[.string s,.int .u8 c] w fun e w'=>e=.returned (.int .i64 (Lib.indexByte s.data.toList c.toNat.toUInt8))∧w'=w:=Any.stringslite_IndexByte Tryz.TN s c w
end Go.Proofs
namespace Go.Proofs.YthjlppdnlahhoaaGreat
open Go.Ev Go.RowKit
set_option maxRecDepth 100000
theorem mixed:Tryz.prog.follows .mixedOrders=true:=by kernel_rfl
theorem pC:lS Tryz.prog=true:=by kernel_rfl
theorem UW:Tryz.f159.body.isSome=true:=by kernel_rfl
theorem body86:Tryz.f86.body.isSome=true:=by kernel_rfl
theorem Qh:Tryz.f149.body.isSome=true:=by kernel_rfl
theorem body5:Tryz.f5.body.isSome=true:=by kernel_rfl
theorem Jl:ji Tryz.prog vO:=by
 obtain⟨c,hc⟩:=qo.1 UW;refine xm (noExt Tryz.prog 0) Tryz.func159 hc (tS pC) fun args h v e ρ w args' hr hg ra=>?_;unfold idxG at e;split at e
 · rename_i s c;simp only[aS]at e;subst e;obtain⟨l⟩:=args';simp only at ra;cases ra with
   | cons r1 t=>cases r1;cases t with
     | cons r2 t=>cases r2;cases t;exact(Tryz.stringslite_IndexByte s c w).mono fun e w' ⟨h1,h2⟩=>⟨_,h1,.int _ _,by rw[h2];exact Below.refl _ _⟩
 · cases e
theorem E5 {P:Program}{ng k:Nat}{base:Fc}{E0:Env}{d:Nat}(h0:ji P (iW P ng base)) (hm:P.follows .mixedOrders=true) (hE0:bJ P E0) (hx0:ji P E0) (hz:E0.ng=0) {fn:Func}{c:Code}(hf:P.funcs[k]?=some fn) (hb:fn.body=some c) (hn:jt P) :
  ji P (iW P ng (kz k (fun args _=>wX E0 d k args) base)) :=
 xm h0 hf hb hn fun args h v e ρ w args' hr hg ra =>
  ((EO (E:=iW P ng base) (E0:=E0) (BP P ng base hm) hE0 hx0 hn hz d (fun _=>true)).qc k args v rfl e ρ w args' ra).2
theorem De {P:Program}{ng k:Nat}{base:Fc}{E0:Env}(h0:ji P (iW P ng base)) (hm:P.follows .mixedOrders=true) (hE0:bJ P E0) (hx0:ji P E0) (hz:E0.ng=0) {fn:Func}{c:Code}(hf:P.funcs[k]?=some fn) (hb:fn.body=some c) (hn:jt P) :
  ji P (iW P ng (kz k (fun args _=>Ca E0 k args) base)) :=
 xm h0 hf hb hn fun args h v e ρ w args' hr hg ra =>
  ((Lj (E:=iW P ng base) (E0:=E0) (BP P ng base hm) hE0 hx0 hn hz (fun _=>true)).qc k args v rfl e ρ w args' ra).2
theorem okA:ji Tryz.prog (iW Tryz.prog 0 (sQ 139)):=MW Tryz.prog 0 139 Tryz.func139 (by kernel_rfl) (by kernel_rfl) (by kernel_rfl) (by kernel_rfl)
theorem okS:ji Tryz.prog envK:=by obtain⟨c,hc⟩:=qo.1 body86;exact E5 okA mixed (BP Tryz.prog 0 extI mixed) Jl rfl Tryz.func86 hc (tS pC)
theorem okNth:ji Tryz.prog (iW Tryz.prog 0 (kz 149 Zh (kz 86 wQ (sQ 139)))):=by obtain⟨c,hc⟩:=qo.1 Qh;exact De okS mixed (BP Tryz.prog 0 extI mixed) Jl rfl Tryz.func149 hc (tS pC)
theorem E_ (w:World):Calls Tryz.prog 5 #[] w fun e w'=>e=.returned (.bool true)∧Below w.heap.size w w':=by obtain⟨h',e⟩:=LQ Pd;exact Dv (E:=envK) (BP Tryz.prog 0 _ mixed) okS (tS pC) rfl rfl e w
theorem abM:ji Tryz.prog env:=by obtain⟨c,hc⟩:=qo.1 body5;exact EB okNth (aQ 0) Tryz.func5 hc (tS pC) E_
end Go.Proofs.YthjlppdnlahhoaaGreat
