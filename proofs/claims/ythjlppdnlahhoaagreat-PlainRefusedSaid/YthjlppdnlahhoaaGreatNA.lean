/- num.Nth, reckoned (1). Conditions: none. -/
import Derived.Test.YthjlppdnlahhoaaGreatZF
import Derived.Test.YthjlppdnlahhoaaGreatKA
set_option linter.unusedSimpArgs false
set_option linter.unusedVariables false
namespace Go.Proofs.YthjlppdnlahhoaaGreat
open Go.Ev Go.RowKit
set_option maxRecDepth 100000
theorem w_ {α:Type}:∀ (n:Nat) (t:T α) (i:Nat) (x:α),i<n→t.get i=some x→T.qX n t i x=t
 | 0,_,_,_,h,_=>absurd h (by omega)
 | n+1,.leaf,i,x,_,e=>by simp[T.get]at e
 | n+1,.node l v r,i,x,h,e=>by
   simp only[T.get,T.qX]at e ⊢;cases h0:Nat.beq i 0 with
   | true=>rw[h0]at e;simp only[cond_true]at e ⊢;rw[e]
   | false =>
     have hi:i≠0:=fun q=>by subst q;cases h0
     rw[h0]at e
     simp only[cond_false]at e ⊢
     cases h1:Nat.beq (i%2) 1 with
     | true=>rw[h1]at e;simp only[cond_true]at e ⊢;rw[w_ n l (i / 2) x (by omega) e]
     | false=>rw[h1]at e;simp only[cond_false]at e ⊢;rw[w_ n r (i / 2-1) x (by omega) e]
theorem Rd {α:Type}{t:T α}{i:Nat}{x:α}(e:t.get i=some x):t.set i x=t:=w_ _ _ _ _ (cK i) e
theorem Ta:Tryz.f149.body.isSome=true:=by kernel_rfl
noncomputable def BI:Code:=Tryz.f149.body.getD .skip
noncomputable def Ns:Code:=(xj 4 BI).getD .skip
theorem R7:xj 4 BI=some Ns:=by
 have h:(xj 4 BI).isSome=true:=by kernel_rfl
 obtain⟨c,hc⟩:=qo.1 h;simp only[Ns,hc,lz]
noncomputable def runN (s:Nat) (n:Int):Option (Fr×ak):=AW vO (dN vO 12) 27 none 4 BI (bY [.int .u8 (s:Int),.int .i64 n] 0 .leaf) l_
def KQ (s:Nat):Nat:=((List.range 8).filter s.testBit).length
def FN (n:Int) (m:Nat):Int:=(IntKind.wrap .i64 (n.tmod m+m)).tmod m
noncomputable def okN (s:Nat) (fr:Fr) (h:ak) (k:Nat):Bool:=match code vO (dN vO 12) 27 none Ns fr { h with b:=h.b.set 0 (.cells [.int .i64 (k:Int)] 3 true) } with
 | some (.exit _,_,_)=>false
 | some (_,fr',h')=>match aW (me vO fr' h') Tryz.f149.results.toList with
   | some [.int .i64 (.ofNat p),.bool b]=>!b || s.testBit p
   | _=>false
 | none=>false
noncomputable def xN (s:Nat) (n:Int):Option (Int×Bool):=match runN s n with
 | some (fr,h)=>match h.b.get 0 with
   | some (.cells [.int .i64 x] 3 true)=>some (x,(List.range (KQ s)).all (okN s fr h))
   | _=>none
 | none=>none
def rM (a len:Nat) (n:Int):Prop:=(List.range len).map (fun i=>xN (a+i+1) n)=(List.range len).map (fun i=>some (FN n (KQ (a+i+1)),true))
theorem rM.get {a len:Nat}{n:Int}(h:rM a len n) {s:Nat}(h1:a<s) (h2:s≤a+len):xN s n=some (FN n (KQ s),true):=by
 have e:=congrArg (fun l=>l[s-a-1]?) h;have h3:s-a-1<len:=by omega
 have h4:a+(s-a-1)+1=s:=by omega
 simpa[AF h3,h4]using e
noncomputable def ok0 (r:Option (Value×ak)):Bool:=match r with
 | some (.tuple ⟨[.int .i64 (.ofNat p),.bool b]⟩,_)=>Nat.beq p 0&&!b
 | _=>false
theorem UK (n:Int):ok0 (dN vO 12 (.func 149) [.int .u8 0,.int .i64 n] l_)=true:=by kernel_rfl
theorem Qc:∀ i,i<255→0<KQ (i+1)∧KQ (i+1)≤8:=by decide +kernel
theorem FN_lt {n:Int}{m:Nat}(h:0<m) (h8:m≤8):∃ k,k<m∧FN n m=(k:Int):=by
 have h1:n.tmod m<m:=Int.tmod_lt_of_pos n (by omega);have h2 : -(m:Int)<n.tmod m:=by have:=Int.lt_tmod_of_pos n (b:=(m:Int)) (by omega);omega
 have w:IntKind.wrap .i64 (n.tmod m+m)=n.tmod m+m:=wrap_i64 (by omega) (by omega);refine⟨((n.tmod m+m).tmod m).toNat,?_,?_⟩;·have:=Int.tmod_lt_of_pos (n.tmod m+m) (b:=(m:Int)) (by omega);have:=Int.tmod_nonneg (m:Int) (a:=n.tmod m+m) (by omega);omega
 ·unfold FN;rw[w];have:=Int.tmod_nonneg (m:Int) (a:=n.tmod m+m) (by omega);omega
open Go.Ev
theorem rec0 (n:Int):rM 0 32 n:=by unfold rM;kernel_rfl
theorem rec32 (n:Int):rM 32 32 n:=by unfold rM;kernel_rfl
end Go.Proofs.YthjlppdnlahhoaaGreat
