/- THE EVALUATOR: a deterministic reading of the program's code over an abstract heap, and that the model does what it says (5). Conditions: none beyond each theorem's own. -/
import Derived.Test.YthjlppdnlahhoaaGreatZD
import Derived.IntWalk
import Derived.ProofKit
import Derived.OpenVars
import Derived.OpenShut
import Derived.SizedLaws
set_option linter.unusedSimpArgs false
set_option linter.unusedVariables false
namespace Go.Ev
structure GO where
 g:Option (Nat×Bool)
 d:Option Nat
 op:Op
inductive GC where
 | skip
 | ops (l:List GO)
 | bp (l:List (GO×List GO))
 | seq (a b:GC)
 | cond (c:Operand) (a b:GC)
 | block (id:Nat) (a:GC)
 | loop (a:GC)
 | exit (id:Nat)
 | ret
 | Dc (g:Operand) (ps:Array Nat) (a b:Code)
def AK (all:List Oper):Option (Nat×Bool)→Option (Option (Nat×Bool))
 | none=>some none
 | some (j,w)=>match (nth all j).bind (·.dst) with
   | some d=>some (some (d,w))
   | none=>none
def AI (nt:Nat):Option Nat→Bool
 | none=>true
 | some d=>Nat.blt d nt
def oN (nt:Nat) (all:List Oper) (o:Oper):Option GO :=
 match AK all o.guard with
 | some g=>cond (AI nt o.dst) (some ⟨g,o.dst,o.op⟩) none
 | none=>none
def IP (nt:Nat) (all:List Oper) (x:Item):Option (GO×List GO) :=
 match (nth all x.i).bind (oN nt all),aW (fun i=>(nth all i).bind (oN nt all)) x.again with
 | some g,some l=>some (g,l)
 | _,_=>none
def clean (E:Env) (nt:Nat):Code→Option GC
 | .skip=>some .skip
 | .label _=>some .skip
 | .region _ ops false=>cond (ops.toList.any ml) none ((aW (oN nt ops.toList) ops.toList).map .ops)
 | .region _ ops true=>match yK E ops.toList with
   | some pl=>(aW (IP nt ops.toList) pl).map .bp
   | none=>none
 | .seq a b=>match clean E nt a,clean E nt b with|some a,some b=>some (.seq a b)|_,_=>none
 | .cond c a b=>match clean E nt a,clean E nt b with|some a,some b=>some (.cond c a b)|_,_=>none
 | .block id a=>(clean E nt a).map (.block id)
 | .loop a=>(clean E nt a).map .loop
 | .scope a=>clean E nt a
 | .exit id=>some (.exit id)
 | .ret=>some .ret
 | .rangeFunc g ps a b=>some (.Dc g ps a b)
 | _=>none
def qF (r:Option (Value×ak)) (K:Value→ak→Prop):Prop:=∃ v h,r=some (v,h)∧K v h
def de {α:Type}(r:Option α) (K:α→Prop) [iJ K]:Prop:=∃ v,r=some v∧K v
@[simp] theorem Oh {α:Type}(v:α) (K:α→Prop):de (some v) K↔K v:=by simp[de]
section
variable (E:Env)
def zT:ui:=fun _ _ _=>none
def bR (op:Op):Oper:={ dst:=none,op,type:=0,pos:= "",after:=#[],guard:=none }
def isQ (c:Call):Bool:=match c.callee with|.value (.func f)=>E.qf f|_=>false
def fY (op:Op) (fr:Fr) (h:ak) (K:Value→ak→Prop) [iJ K]:Prop :=
 match op with
 | .call c=>match c.callee with
   | .builtin _=>qF (jl E zT fr (bR op) h) K
   | _=>cond (isQ E c) (qF (jl E zT fr (bR op) h) K) (match target E fr c with
     | some (f,args)=>@cy E f args h K iJ.mk
     | none=>False)
 | _=>qF (jl E zT fr (bR op) h) K
def vt (fr:Fr) (d:Option Nat) (v:Value):Fr:=match d with|some d=>fr.set d v|none=>fr
def Jv (g:Option (Nat×Bool)) (fr:Fr) (A B:Prop):Prop :=
 match g with
 | none=>A
 | some (s,w)=>match fr.get s with
   | some (.bool b)=>(b=w→A)∧(b≠w→B)
   | some _=>B
   | none=>False
def gV:List GO→Fr→ak→(Fr→ak→Prop)→Prop
 | [],fr,h,Q=>Q fr h
 | x::os,fr,h,Q=>Jv x.g fr (fY E x.op fr h fun v h'=>gV os (vt fr x.d v) h' Q) (gV os (vt fr x.d undef) h Q)
def Ig:List GO→Fr→ak→Prop
 | [],_,_=>True
 | x::l,fr,h=>Jv x.g fr (∃ v v' d,gH E fr (bR x.op) h=some v∧x.d=some d∧fr.get d=some v'∧bt 50 v v'=true) True∧Ig l fr h
def dJ:List (GO×List GO)→Fr→ak→(Fr→ak→Prop)→Prop
 | [],fr,h,Q=>Q fr h
 | (x,ag)::os,fr,h,Q=>Jv x.g fr (fY E x.op fr h fun v h'=>h.n≤h'.n∧Ig E ag (vt fr x.d v) h'∧dJ os (vt fr x.d v) h' Q)
   (Ig E ag (vt fr x.d undef) h∧dJ os (vt fr x.d undef) h Q)
def vi (B:Fr→ak→(Ex→Fr→ak→Prop)→Prop) (Q:Ex→Fr→ak→Prop) (ex:Ex) (fr:Fr) (h:ak):Prop :=
 match ex with
 | .normal=>B fr h Q
 | e=>Q e fr h
def rX (id:Nat) (Q:Ex→Fr→ak→Prop) (ex:Ex) (fr:Fr) (h:ak):Prop :=
 match ex with
 | .exit j=>Q (cond (Nat.beq j id) .normal (.exit j)) fr h
 | e=>Q e fr h
def Cd (R:Fr→ak→Prop) (Q:Ex→Fr→ak→Prop) (ex:Ex) (fr:Fr) (h:ak):Prop :=
 match ex with
 | .normal=>R fr h
 | e=>Q e fr h
def wh (A:Fr→ak→(Ex→Fr→ak→Prop)→Prop) (Q:Ex→Fr→ak→Prop):Nat→Fr→ak→Prop
 | 0,_,_=>False
 | n+1,fr,h=>A fr h (Cd (wh A Q n) Q)
def Bb (r:Option Value) (A B:Prop):Prop :=
 match r with
 | some (.bool b)=>(b=true→A)∧(b=false→B)
 | _=>False
def WP (nt:Nat) (rd:Option Nat) (c:Code) (fr:Fr) (h:ak) (Q:Ex→Fr→ak→Prop):Prop :=
 ∃ d ex fr' h',code E (dN E d) nt rd c fr h=some (ex,fr',h')∧Q ex fr' h'
def GC.wp (nt:Nat) (rd:Option Nat):GC→Fr→ak→(Ex→Fr→ak→Prop)→Prop
 | .skip,fr,h,Q=>Q .normal fr h
 | .ops l,fr,h,Q=>gV E l fr h (Q .normal)
 | .bp l,fr,h,Q=>dJ E l fr h (Q .normal)
 | .seq a b,fr,h,Q=>a.wp nt rd fr h (vi (b.wp nt rd) Q)
 | .cond c a b,fr,h,Q=>Bb (ev E fr c) (a.wp nt rd fr h Q) (b.wp nt rd fr h Q)
 | .block id a,fr,h,Q=>a.wp nt rd fr h (rX id Q)
 | .loop a,fr,h,Q=>∃ n,n≤1000000∧wh (a.wp nt rd) Q n fr h
 | .exit id,fr,h,Q=>Q (.exit id) fr h
 | .ret,fr,h,Q=>Q .ret fr h
 | .Dc g ps a b,fr,h,Q=>WP E nt rd (.rangeFunc g ps a b) fr h Q
end
section
variable {E:Env}
theorem Lk (c:ui):rV zT c:=fun _ _ _ _ e=>by cases e
theorem CG {o:Oper}{fr:Fr}{h:ak}{K:Value→ak→Prop}(w:fY E o.op fr h K):∃ d v h',jl E (dN E d) fr o h=some (v,h')∧K v h':=by
 have other:qF (jl E zT fr (bR o.op) h) K→∃ d v h',jl E (dN E d) fr o h=some (v,h')∧K v h':=fun ⟨v,h',e,k⟩ =>
   ⟨0,v,h',yu (Lk _) e,k⟩
 unfold fY at w;split at w
 · rename_i c hc;split at w;· exact other w
   · rename_i hb;cases hq:isQ E c with
     | true=>rw[hq]at w;exact other w
     | false =>
     rw[hq,cond_false]at w;split at w
     · rename_i f args ht;obtain⟨d,v,h',e,k⟩:=w;refine⟨d,v,h',?_,k⟩;unfold jl;have hk:eT E o.op=.act:=by
         rw[hc];unfold eT;simp only;cases hcal:c.callee with
         | builtin b=>exact absurd hcal (hb b)
         | value f =>
           cases f with
           | func g=>unfold isQ at hq;rw[hcal]at hq;simp only at hq;simp only[hq,cond_false]
           | _=>rfl
         | invoke r m=>rfl
       rw[hk];simp only[hc];cases hcal:c.callee with
       | builtin b=>exact absurd hcal (hb b)
       | value f=>simp only[ht];exact e
       | invoke r m=>simp only[ht];exact e
     · exact w.elim
 · exact other w
theorem vS {nt:Nat}{fr:Fr}{o:Oper}{v:Value}(hd:AI nt o.dst=true):put nt fr o v=some (vt fr o.dst v):=by
 unfold Ev.put vt;cases h:o.dst with
 | none=>rfl
 | some d=>rw[h]at hd;simp only[AI]at hd;simp[hd]
theorem ss {nt:Nat}{all:List Oper}{o:Oper}{x:GO}(e:oN nt all o=some x):AK all o.guard=some x.g∧x.d=o.dst∧x.op=o.op∧AI nt o.dst=true:=by
 unfold oN at e;split at e
 ·rename_i g hg;cases hd:AI nt o.dst with
  | false=>rw[hd]at e;cases e
  | true=>rw[hd]at e;cases e;exact⟨hg,rfl,rfl,rfl⟩
 ·cases e
theorem xu {all:List Oper}{fr:Fr}{o:Oper}{g:Option (Nat×Bool)}{A B:Prop}(hg:AK all o.guard=some g) (w:Jv g fr A B) :
   (dB all fr o=some true∧A)∨(dB all fr o=some false∧B):=by
 unfold dB
 cases ho:o.guard with
 | none =>
   rw[ho]at hg;simp only[AK,aS]at hg;subst hg
   exact .inl ⟨rfl,w⟩
 | some p =>
   obtain⟨j,b⟩:=p
   rw[ho]at hg
   simp only[AK]at hg
   split at hg
   · rename_i d hd;cases hg;simp only[Jv]at w;simp only[hd];split at w
     · rename_i b' hb;by_cases hx:b'=b;· subst hx;exact .inl ⟨by rw[hb];simp,w.1 rfl⟩
       · exact .inr ⟨by rw[hb];simp[hx],w.2 hx⟩
     · rename_i v hv hno;refine .inr ⟨?_,w⟩;rw[hno];cases v with
       | bool b'=>exact absurd rfl (hv b')
       | _=>rfl
     · exact w.elim
   · cases hg
theorem uE {nt:Nat}{all:List Oper}:∀ (os:List Oper) (l:List GO) {fr:Fr}{h:ak}{Q:Fr→ak→Prop},aW (oN nt all) os=some l→gV E l fr h Q →
   ∃ d fr' h',ig E (dN E d) nt all os fr h=some (fr',h')∧Q fr' h'
 | [],l,fr,h,Q,hl,w=>by simp only[aW,aS]at hl;subst hl;exact⟨0,fr,h,rfl,w⟩
 | o::os,l,fr,h,Q,hl,w=>by
   obtain⟨x,xs,h1,h2,rfl⟩:=nV hl;obtain⟨e1,e2,e3,e4⟩:=ss h1;simp only[gV,e3]at w;rcases xu e1 w with ⟨hw,w⟩|⟨hw,w⟩;· obtain⟨d1,v,h',e,k⟩:=CG w;obtain⟨d2,fr',h'',e',q⟩:=uE os xs h2 k;refine⟨max d1 d2,fr',h'',?_,q⟩;have e:=yu (fy (E:=E) (py d1 d2)) e;have e':=qn (fy (E:=E) (pX d1 d2)) _ e';rw[e2]at e';simp only[ig,step,hw,e,vS e4,bS];exact e'
   · obtain⟨d2,fr',h'',e',q⟩:=uE os xs h2 w;refine⟨d2,fr',h'',?_,q⟩;rw[e2]at e';simp only[ig,step,hw,vS e4,bS];exact e'
theorem xl {nt:Nat}{all:List Oper}{fr:Fr}{h:ak}:∀ (is:List Nat) (l:List GO),aW (fun i=>(nth all i).bind (oN nt all)) is=some l→Ig E l fr h→mi E all fr h is=true
 | [],l,hl,w=>rfl
 | i::is,l,hl,w=>by
   obtain⟨x,xs,h1,h2,rfl⟩:=nV hl;simp only[qD]at h1;obtain⟨o,ho,h1⟩:=h1;obtain⟨e1,e2,e3,e4⟩:=ss h1;obtain⟨w1,w2⟩:=w;simp only[mi,ho,xl is xs h2 w2,jb];rcases xu e1 w1 with ⟨hw,w⟩|⟨hw,w⟩;· obtain⟨v,v',d,k1,k2,k3,k4⟩:=w;rw[e3]at k1;have k1:gH E fr o h=some v:=k1;rw[← e2,k2];simp only[hw,k1,vB,k3,k4]
   · simp only[hw]
theorem tf {nt:Nat}{all:List Oper}:∀ (os:List Item) (l:List (GO×List GO)) {fr:Fr}{h:ak}{Q:Fr→ak→Prop},aW (IP nt all) os=some l→dJ E l fr h Q →
   ∃ d fr' h',aJ E (dN E d) nt all os fr h=some (fr',h')∧Q fr' h'
 | [],l,fr,h,Q,hl,w=>by simp only[aW,aS]at hl;subst hl;exact⟨0,fr,h,rfl,w⟩
 | y::os,l,fr,h,Q,hl,w=>by
   obtain⟨x,xs,h1,h2,rfl⟩:=nV hl;unfold IP at h1;split at h1
   · rename_i g ag hg hag;cases h1;simp only[qD]at hg;obtain⟨o,ho,hg⟩:=hg;obtain⟨e1,e2,e3,e4⟩:=ss hg;simp only[dJ,e3]at w;rcases xu e1 w with ⟨hw,w⟩|⟨hw,w⟩;· obtain⟨d1,v,h',e,k1,k2,k⟩:=CG w;obtain⟨d2,fr',h'',e',q⟩:=tf os xs h2 k;refine⟨max d1 d2,fr',h'',?_,q⟩;have e:=yu (fy (E:=E) (py d1 d2)) e;have e':=ql (fy (E:=E) (pX d1 d2)) _ e';have hn:Nat.ble h.n h'.n=true:=oH k1;rw[e2]at e' k2;simp only[aJ,ho,step,hw,e,vS e4,bS,hn,xl _ _ hag k2,dP,cond_true];exact e'
     · obtain⟨k2,k⟩:=w;obtain⟨d2,fr',h'',e',q⟩:=tf os xs h2 k;refine⟨d2,fr',h'',?_,q⟩;have hn:Nat.ble h.n h.n=true:=oH a_;rw[e2]at e' k2;simp only[aJ,ho,step,hw,vS e4,bS,hn,xl _ _ hag k2,dP,cond_true];exact e'
   · cases h1
theorem Cm {f:Fr→ak→Option (Ex×Fr×ak)}:∀ (n m:Nat) (fr:Fr) (h:ak) (r:Ex×Fr×ak),n≤m→iter f n fr h=some r→iter f m fr h=some r
 | 0,_,_,_,_,_,e=>by simp[iter]at e
 | n+1,0,_,_,_,hm,_=>ah
 | n+1,m+1,fr,h,r,hm,e=>by
   simp only[iter]at e ⊢;cases hf:f fr h with
   | none=>rw[hf]at e;cases e
   | some p =>
     rw[hf]at e
     obtain⟨ex,fr',h'⟩:=p
     cases ex with
     | normal=>exact Cm n m _ _ _ ah e
     | exit id=>exact e
     | ret=>exact e
theorem GC.lM {nt:Nat}{rd:Option Nat}:∀ (c:Code) (g:GC) {fr:Fr}{h:ak}{Q:Ex→Fr→ak→Prop},clean E nt c=some g→g.wp E nt rd fr h Q→WP E nt rd c fr h Q
 | .skip,g,fr,h,Q,hg,w=>by simp only[clean,aS]at hg;subst hg;exact⟨0,_,_,_,rfl,w⟩
 | .label _,g,fr,h,Q,hg,w=>by simp only[clean,aS]at hg;subst hg;exact⟨0,_,_,_,rfl,w⟩
 | .exit _,g,fr,h,Q,hg,w=>by simp only[clean,aS]at hg;subst hg;exact⟨0,_,_,_,rfl,w⟩
 | .ret,g,fr,h,Q,hg,w=>by simp only[clean,aS]at hg;subst hg;exact⟨0,_,_,_,rfl,w⟩
 | .region _ os false,g,fr,h,Q,hg,w=>by
   simp only[clean]at hg;cases hdf:os.toList.any ml with
   | true=>rw[hdf]at hg;cases hg
   | false =>
   rw[hdf]at hg;simp only[cond_false,aY]at hg;obtain⟨l,hl,rfl⟩:=hg;obtain⟨d,fr',h',e,q⟩:=uE (nt:=nt) _ _ hl w;exact⟨d,_,fr',h',by simp only[code,hdf,cond_false,e,bS],q⟩
 | .region _ os true,g,fr,h,Q,hg,w=>by
   simp only[clean]at hg;split at hg;· rename_i pl hpl;simp only[aY]at hg;obtain⟨l,hl,rfl⟩:=hg;obtain⟨d,fr',h',e,q⟩:=tf (nt:=nt) _ _ hl w;exact⟨d,_,fr',h',by simp only[code,hpl,e,bS],q⟩
   · cases hg
 | .seq a b,g,fr,h,Q,hg,w=>by
   simp only[clean]at hg;split at hg
   · rename_i ga gb ha hb;cases hg;obtain⟨d,ex,fr',h',e,q⟩:=GC.lM a ga ha w;cases ex with
     | normal =>obtain⟨d2,ex2,fr2,h2,e2,q2⟩:=GC.lM b gb hb q;refine⟨max d d2,ex2,fr2,h2,?_,q2⟩;simp only[code,gh (fy (E:=E) (py d d2)) _ _ _ _ e];exact gh (fy (E:=E) (pX d d2)) _ _ _ _ e2
     | exit id=>exact⟨d,_,fr',h',by simp only[code,e],q⟩
     | ret=>exact⟨d,_,fr',h',by simp only[code,e],q⟩
   · cases hg
 | .cond c a b,g,fr,h,Q,hg,w=>by
   simp only[clean]at hg;split at hg
   · rename_i ga gb ha hb;cases hg;simp only[GC.wp,Bb]at w;split at w
     · rename_i bb hc;cases bb with
       | true =>obtain⟨d,ex,fr',h',e,q⟩:=GC.lM a ga ha (w.1 rfl);exact⟨d,ex,fr',h',by simp only[code,hc,e],q⟩
       | false =>obtain⟨d,ex,fr',h',e,q⟩:=GC.lM b gb hb (w.2 rfl);exact⟨d,ex,fr',h',by simp only[code,hc,e],q⟩
     · exact w.elim
   · cases hg
 | .block id a,g,fr,h,Q,hg,w=>by
   simp only[clean,aY]at hg;obtain⟨ga,ha,rfl⟩:=hg;obtain⟨d,ex,fr',h',e,q⟩:=GC.lM a ga ha w;cases ex with
   | normal=>exact⟨d,_,fr',h',by simp only[code,e],q⟩
   | exit j=>exact⟨d,_,fr',h',by simp only[code,e],q⟩
   | ret=>exact⟨d,_,fr',h',by simp only[code,e],q⟩
 | .loop a,g,fr,h,Q,hg,w=>by
   simp only[clean,aY]at hg;obtain⟨ga,ha,rfl⟩:=hg;obtain⟨n,hn,w⟩:=w;have key:∀ n fr h,wh (ga.wp E nt rd) Q n fr h→∃ d ex fr' h',iter (code E (dN E d) nt rd a) n fr h=some (ex,fr',h')∧Q ex fr' h':=by
     intro n;induction n with
     | zero=>intro fr h w;exact w.elim
     | succ n ih =>
       intro fr h w
       obtain⟨d,ex,fr',h',e,q⟩:=GC.lM a ga ha w
       cases ex with
       | normal =>
         obtain⟨d2,ex2,fr2,h2,e2,q2⟩:=ih _ _ q
         refine⟨max d d2,ex2,fr2,h2,?_,q2⟩
         simp only[iter,gh (fy (E:=E) (py d d2)) _ _ _ _ e]
         exact Da (fun fr h r=>gh (fy (E:=E) (pX d d2)) a fr h r) _ _ _ _ e2
       | exit id=>exact⟨d,_,fr',h',by simp only[iter,e],q⟩
       | ret=>exact⟨d,_,fr',h',by simp only[iter,e],q⟩
   obtain⟨d,ex,fr',h',e,q⟩:=key n fr h w;exact⟨d,ex,fr',h',by simp only[code];exact Cm _ _ _ _ _ hn e,q⟩
 | .scope a,g,fr,h,Q,hg,w=>by simp only[clean]at hg;obtain⟨d,ex,fr',h',e,q⟩:=GC.lM a g hg w;exact⟨d,ex,fr',h',by simp only[code,e],q⟩
 | .rangeFunc ..,g,fr,h,Q,hg,w=>by simp only[clean,aS]at hg;subst hg;exact w
 | .goto ..,g,fr,h,Q,hg,w=>by simp[clean]at hg
 | .refuse ..,g,fr,h,Q,hg,w=>by simp[clean]at hg
theorem Jv.mono {g:Option (Nat×Bool)}{fr:Fr}{A A' B B':Prop}(w:Jv g fr A B) (ha:A→A') (hb:B→B'):Jv g fr A' B':=by
 unfold Jv at w ⊢;split at w;·exact ha w
 ·split at w;·exact⟨fun e=>ha (w.1 e),fun e=>hb (w.2 e)⟩
  ·exact hb w
  ·exact w
theorem fY.mono {op:Op}{fr:Fr}{h:ak}{K K':Value→ak→Prop}(w:fY E op fr h K) (k:∀ v h',K v h'→K' v h'):fY E op fr h K':=by
 have other:∀ {r},qF r K→qF r K':=fun ⟨v,h',e,q⟩=>⟨v,h',e,k _ _ q⟩;unfold fY at w ⊢;split at w
 · rename_i c;split at w;· exact other w
   · cases hq:isQ E c with
     | true=>rw[hq]at w;exact other w
     | false =>
       rw[hq]at w
       rw[cond_false]at w ⊢
       split at w
       · exact w.mono k
       · exact w
 · exact other w
def M9 (d:Option Nat) (t:Nat):Bool:=match d with|some d=>Nat.beq d t|none=>false
def wrO (l:List GO) (t:Nat):Bool:=l.any fun x=>M9 x.d t
def GC.wr:GC→Nat→Bool
 | .skip,_=>false
 | .ops l,t=>wrO l t
 | .bp l,t=>wrO (l.map (·.1)) t
 | .seq a b,t=>a.wr t || b.wr t
 | .cond _ a b,t=>a.wr t || b.wr t
 | .block _ a,t=>a.wr t
 | .loop a,t=>a.wr t
 | .exit _,_=>false
 | .ret,_=>false
 | .Dc ..,_=>false
theorem EH {fr:Fr}{d:Option Nat}{v:Value}{t:Nat}(h:M9 d t=false):(vt fr d v).get t=fr.get t:=by
 unfold vt;cases d with
 | none=>rfl
 | some d=>exact T.aR _ _ (by intro e;subst e;simp[M9]at h)
theorem gV.mono:∀ (l:List GO) {fr:Fr}{h:ak}{Q Q':Fr→ak→Prop},gV E l fr h Q→(∀ fr' h',(∀ t,wrO l t=false→fr'.get t=fr.get t)→Q fr' h'→Q' fr' h')→gV E l fr h Q'
 | [],fr,h,Q,Q',w,k=>k fr h (fun _ _=>rfl) w
 | x::os,fr,h,Q,Q',w,k=>by have st:∀ v h',gV E os (vt fr x.d v) h' Q→gV E os (vt fr x.d v) h' Q':=fun v h' w=>gV.mono os w fun fr' h'' hk q=>k fr' h'' (fun t ht=>by simp only[wrO,List.any_cons,om]at ht;rw[hk t ht.2,EH ht.1]) q;exact Jv.mono w (fun w=>fY.mono w fun v h'=>st v h') (st _ _)
theorem dJ.mono:∀ (l:List (GO×List GO)) {fr:Fr}{h:ak}{Q Q':Fr→ak→Prop},dJ E l fr h Q→(∀ fr' h',(∀ t,wrO (l.map (·.1)) t=false→fr'.get t=fr.get t)→Q fr' h'→Q' fr' h')→dJ E l fr h Q'
 | [],fr,h,Q,Q',w,k=>k fr h (fun _ _=>rfl) w
 | (x,ag)::os,fr,h,Q,Q',w,k=>by have st:∀ v h',dJ E os (vt fr x.d v) h' Q→dJ E os (vt fr x.d v) h' Q':=fun v h' w=>dJ.mono os w fun fr' h'' hk q=>k fr' h'' (fun t ht=>by simp only[wrO,dT,List.any_cons,om]at ht;rw[hk t ht.2,EH ht.1]) q;exact Jv.mono w (fun w=>fY.mono w fun v h' hh=>⟨hh.1,hh.2.1,st v h' hh.2.2⟩) (fun hh=>⟨hh.1,st _ _ hh.2⟩)
theorem EG {h:ak}{l:Nat}{fr fr':Fr}{ex:Ex}{h':ak}(e:tg h l fr=some (ex,fr',h')):fr'=fr:=by unfold tg at e;split at e<;>first|(cases e;done)|(simp only[aS,bA]at e;exact e.2.1.symm)
theorem Dm {call:ui}{nt:Nat}{rd:Option Nat}{g:Operand}{ps:Array Nat}{a b:Code}{fr fr':Fr}{h h':ak}{ex:Ex}(e:code E call nt rd (.rangeFunc g ps a b) fr h=some (ex,fr',h')):fr'=fr:=by
 simp only[code]at e;cases hin:inRound h rd with
 | false=>rw[hin]at e;cases e
 | true =>
   rw[hin]at e
   simp only[cond_true]at e
   split at e
   · split at e;· cases e
     · split at e;· exact EG e
       · cases e
   · cases e
theorem GC.wp_mono {nt:Nat}{rd:Option Nat}:∀ (g:GC) {fr:Fr}{h:ak}{Q Q':Ex→Fr→ak→Prop},g.wp E nt rd fr h Q→(∀ ex fr' h',(∀ t,g.wr t=false→fr'.get t=fr.get t)→Q ex fr' h'→Q' ex fr' h')→g.wp E nt rd fr h Q'
 | .skip,fr,h,Q,Q',w,k=>k _ _ _ (fun _ _=>rfl) w
 | .exit _,fr,h,Q,Q',w,k=>k _ _ _ (fun _ _=>rfl) w
 | .ret,fr,h,Q,Q',w,k=>k _ _ _ (fun _ _=>rfl) w
 | .ops l,fr,h,Q,Q',w,k=>gV.mono l w fun fr' h'=>k _ fr' h'
 | .bp l,fr,h,Q,Q',w,k=>dJ.mono l w fun fr' h'=>k _ fr' h'
 | .seq a b,fr,h,Q,Q',w,k=>by
   refine GC.wp_mono a w fun ex fr' h' hk q=>?_;cases ex with
   | normal=>exact GC.wp_mono b q fun ex2 fr2 h2 hk2 q2=>k _ _ _ (fun t ht=>by simp only[GC.wr,om]at ht;rw[hk2 t ht.2,hk t ht.1]) q2
   | exit id=>exact k _ _ _ (fun t ht=>hk t (by simp only[GC.wr,om]at ht;exact ht.1)) q
   | ret=>exact k _ _ _ (fun t ht=>hk t (by simp only[GC.wr,om]at ht;exact ht.1)) q
 | .cond c a b,fr,h,Q,Q',w,k=>by
   simp only[GC.wp,Bb]at w ⊢;split at w;· exact⟨fun e=>GC.wp_mono a (w.1 e) fun ex fr' h' hk q=>k _ _ _ (fun t ht=>hk t (by simp only[GC.wr,om]at ht;exact ht.1)) q,
       fun e=>GC.wp_mono b (w.2 e) fun ex fr' h' hk q=>k _ _ _ (fun t ht=>hk t (by simp only[GC.wr,om]at ht;exact ht.2)) q⟩
   · exact w
 | .block id a,fr,h,Q,Q',w,k=>by
   refine GC.wp_mono a w fun ex fr' h' hk q=>?_;cases ex with
   | normal=>exact k _ _ _ hk q
   | exit j=>exact k _ _ _ hk q
   | ret=>exact k _ _ _ hk q
 | .loop a,fr,h,Q,Q',w,k=>by
   obtain⟨n,hn,w⟩:=w;refine⟨n,hn,?_⟩;have key:∀ n fr1 h1,(∀ t,a.wr t=false→fr1.get t=fr.get t)→wh (a.wp E nt rd) Q n fr1 h1→wh (a.wp E nt rd) Q' n fr1 h1:=by
     intro n;induction n with
     | zero=>intro _ _ _ w;exact w
     | succ n ih =>
       intro fr1 h1 hk1 w
       refine GC.wp_mono a w fun ex fr' h' hk q=>?_
       have hk2:∀ t,a.wr t=false→fr'.get t=fr.get t:=fun t ht=>by rw[hk t ht,hk1 t ht]
       cases ex with
       | normal=>exact ih _ _ hk2 q
       | exit j=>exact k _ _ _ hk2 q
       | ret=>exact k _ _ _ hk2 q
   exact key n fr h (fun _ _=>rfl) w
 | .Dc g ps a b,fr,h,Q,Q',w,k=>by obtain⟨d,ex,fr',h',e,q⟩:=w;refine⟨d,ex,fr',h',e,k _ _ _ (fun t _=>?_) q⟩;rw[Dm e]
def cW (E:Env) (rs:List ResultVar) (K:Value→ak→Prop) (ex:Ex) (fr:Fr) (h:ak):Prop :=
 match ex with
 | .exit _=>False
 | _=>match aW (me E fr h) rs with
   | some vs=>K (dE vs) h
   | none=>False
theorem cy.SI {f:FuncId}{fn:Func}{c:Code}{g:GC}{nt:Nat}{rs:List ResultVar}{args:List Value}{h:ak}{K:Value→ak→Prop}
  (hx:E.ext f args h=none) (hf:E.vQ.get f=some fn) (hb:fn.body=some c) (hg:clean E (max fn.ntmps args.length) c=some g) (hnt:max fn.ntmps args.length=nt) (hrs:fn.results.toList=rs)
  (w:g.wp E nt none (bY args 0 .leaf) h (cW E rs K)):cy E (.func f) args h K:=by
 subst hnt hrs
 obtain⟨d,ex,fr',h',e,q⟩:=GC.lM c g hg w
 unfold cW at q
 split at q
 ·exact q.elim
 ·rename_i hnx;split at q
  ·rename_i vs hvs;refine⟨d+1,dE vs,h',?_,q⟩;rw[dN];simp only[hx,hf,hb,e];have last:(match aW (me E fr' h') fn.results.toList with|some [v]=>some (v,h')|some vs=>some (.tuple vs.toArray,h')|none=>none)=some (dE vs,h'):=by rw[hvs];unfold dE;split<;>simp_all
   cases ex with
   | normal=>exact last
   | ret=>exact last
   | exit id=>exact absurd rfl (hnx id)
  ·exact q.elim
end
section
variable {E:Env}{nt:Nat}{rd:Option Nat}{fr:Fr}{h:ak}{Q:Ex→Fr→ak→Prop}{K:Value→ak→Prop}
theorem SQ:GC.skip.wp E nt rd fr h Q=Q .normal fr h:=ct rfl rfl
theorem ZD {l:List GO}:(GC.ops l).wp E nt rd fr h Q=gV E l fr h (Q .normal):=ct rfl rfl
theorem SO {l:List (GO×List GO)}:(GC.bp l).wp E nt rd fr h Q=dJ E l fr h (Q .normal):=ct rfl rfl
theorem cw_seq {a b:GC}:(GC.seq a b).wp E nt rd fr h Q=a.wp E nt rd fr h (vi (b.wp E nt rd) Q):=ct rfl rfl
theorem OE {id:Nat}{a:GC}:(GC.block id a).wp E nt rd fr h Q=a.wp E nt rd fr h (rX id Q):=ct rfl rfl
theorem TU {id:Nat}:(GC.exit id).wp E nt rd fr h Q=Q (.exit id) fr h:=ct rfl rfl
theorem aaI:GC.ret.wp E nt rd fr h Q=Q .ret fr h:=ct rfl rfl
theorem FL {B:Fr→ak→(Ex→Fr→ak→Prop)→Prop}:vi B Q .normal fr h=B fr h Q:=ct rfl rfl
theorem Kq {B:Fr→ak→(Ex→Fr→ak→Prop)→Prop}{i:Nat}:vi B Q (.exit i) fr h=Q (.exit i) fr h:=ct rfl rfl
theorem R9 {B:Fr→ak→(Ex→Fr→ak→Prop)→Prop}:vi B Q .ret fr h=Q .ret fr h:=ct rfl rfl
theorem Bm {id:Nat}:rX id Q .normal fr h=Q .normal fr h:=ct rfl rfl
theorem H4 {id:Nat}:rX id Q .ret fr h=Q .ret fr h:=ct rfl rfl
theorem Fw {id:Nat}:rX id Q (.exit id) fr h=Q .normal fr h:=by simp[rX]
theorem Lu {id j:Nat}(hj:j≠id):rX id Q (.exit j) fr h=Q (.exit j) fr h:=by simp[rX,bF,hj]
theorem DH {R:Fr→ak→Prop}:Cd R Q .normal fr h=R fr h:=ct rfl rfl
theorem It {R:Fr→ak→Prop}{i:Nat}:Cd R Q (.exit i) fr h=Q (.exit i) fr h:=ct rfl rfl
theorem Ml {R:Fr→ak→Prop}:Cd R Q .ret fr h=Q .ret fr h:=ct rfl rfl
def eR (fr:Fr) (t:Nat) (K:Value→Prop) [iJ K]:Prop:=∃ v,fr.get t=some v∧K v
def dM (E:Env) (fr:Fr) (x:Operand) (K:Value→Prop) [iJ K]:Prop:=de (ev E fr x) K
section
variable {K:Value→Prop}
theorem Mh {t:Nat}{v:Value}:eR (fr.set t v) t K=K v:=by simp[eR,T.aj]
theorem T0 {s t:Nat}{v:Value}(hs:s≠t):eR (fr.set s v) t K=eR fr t K:=by simp[eR,T.aj,hs]
theorem bf {t:Nat}{v:Value}(e:fr.get t=some v):∀ K,eR fr t K=K v:=fun K=>by simp[eR,e]
theorem jP {t:Nat}{fr0:Fr}(e:fr.get t=fr0.get t):∀ K,eR fr t K=eR fr0 t K:=fun K=>by simp[eR,e]
theorem J8 {t:Nat}:dM E fr (.tmp t) K=eR fr t K:=by simp only[dM,eR,ev];cases fr.get t<;>simp[de]
theorem pd {v:Value}(hc:fW v=true):dM E fr (.const v) K=K v:=by simp[dM,ev,hc]
theorem TJ {k:IntKind}{n:Int}:dM E fr (.const (.int k n)) K=K (.int k n):=pd rfl
theorem Rk {b:Bool}:dM E fr (.const (.bool b)) K=K (.bool b):=pd rfl
theorem IC {s:ByteArray}:dM E fr (.const (.string s)) K=K (.string s):=pd rfl
theorem IA:dM E fr (.const (.pointer none)) K=K (.pointer none):=pd rfl
theorem D6:dM E fr (.const (.slice none 0 0)) K=K (.slice none 0 0):=pd rfl
theorem Nd {f:FuncId}:dM E fr (.func f) K=K (.func (.func f) #[] #[]):=by simp[dM,ev]
end
def BH (v:Value) (A B:Prop) [iJ A] [iJ B]:Prop:=Bb (some v) A B
def lW (p:Prop) (A B:Prop) [iJ A] [iJ B]:Prop:=(p→A)∧(¬p→B)
theorem je {A B:Prop}:lW True A B=A:=by simp[lW]
theorem ij {A B:Prop}:lW False A B=B:=by simp[lW]
theorem Tc {p:Prop}{A B:Prop}:lW (¬p) A B=lW p B A:=by
 unfold lW;apply propext;constructor;·exact fun h=>⟨fun hp=>h.2 (fun hn=>hn hp),h.1⟩
 ·exact fun h=>⟨h.2,fun hn=>Classical.byContradiction fun hb=>hn fun hp=>hb (h.1 hp)⟩
theorem Jo {p:Prop}{A B:Prop}(hp:p) (a:A):lW p A B:=⟨fun _=>a,fun hn=>absurd hp hn⟩
theorem Qd {p:Prop}{A B:Prop}(hp:¬p) (b:B):lW p A B:=⟨fun h=>absurd h hp,fun _=>b⟩
theorem FZ {p:Prop}{A B:Prop}(a:p→A) (b:¬p→B):lW p A B:=⟨a,b⟩
theorem TL {c:Operand}{a b:GC}:(GC.cond c a b).wp E nt rd fr h Q=dM E fr c fun v=>BH v (a.wp E nt rd fr h Q) (b.wp E nt rd fr h Q):=by
 simp only[GC.wp,dM,de,BH,Bb];cases ev E fr c with
 | none=>simp
 | some v=>simp
theorem KY {b:Bool}{A B:Prop}:BH (.bool b) A B=lW (b=true) A B:=by simp[BH,Bb,lW]
def Wq (v:Value) (w:Bool) (A B:Prop) [iJ A] [iJ B]:Prop:=match v with
 | .bool b=>(b=w→A)∧(b≠w→B)
 | _=>B
theorem Aw {s:Nat}{w:Bool}{A B:Prop}:Jv (some (s,w)) fr A B=eR fr s fun v=>Wq v w A B:=by
 simp only[Jv,eR,Wq];cases fr.get s with
 | none=>simp[undef]
 | some v=>cases v<;>simp
theorem Tk {b w:Bool}{A B:Prop}:Wq (.bool b) w A B=lW (b=w) A B:=by simp[Wq,lW]
theorem Ms {w:Bool}{A B:Prop}:Wq undef w A B=B:=by simp[Wq,undef]
section
variable {Q:Fr→ak→Prop}{os:List GO}{op:Op}{d s:Nat}{w:Bool}{ag:List GO}{ps:List (GO×List GO)}
theorem Ok:gV E [] fr h Q=Q fr h:=ct rfl rfl
theorem ab2:gV E (⟨none,some d,op⟩::os) fr h Q=fY E op fr h fun v h'=>gV E os (fr.set d v) h' Q:=ct rfl rfl
theorem opsW_n:gV E (⟨none,none,op⟩::os) fr h Q=fY E op fr h fun _ h'=>gV E os fr h' Q:=ct rfl rfl
theorem TR:gV E (⟨some (s,w),some d,op⟩::os) fr h Q=eR fr s fun v=>Wq v w (fY E op fr h fun v h'=>gV E os (fr.set d v) h' Q) (gV E os (fr.set d undef) h Q):=Aw
theorem MO:dJ E [] fr h Q=Q fr h:=ct rfl rfl
theorem UH:dJ E ((⟨none,some d,op⟩,ag)::ps) fr h Q=fY E op fr h fun v h'=>h.n≤h'.n∧Ig E ag (fr.set d v) h'∧dJ E ps (fr.set d v) h' Q:=ct rfl rfl
theorem Wm:dJ E ((⟨none,none,op⟩,ag)::ps) fr h Q=fY E op fr h fun _ h'=>h.n≤h'.n∧Ig E ag fr h'∧dJ E ps fr h' Q:=ct rfl rfl
theorem Sc:dJ E ((⟨some (s,w),some d,op⟩,ag)::ps) fr h Q=eR fr s fun v=>Wq v w (fY E op fr h fun v h'=>h.n≤h'.n∧Ig E ag (fr.set d v) h'∧dJ E ps (fr.set d v) h' Q) (Ig E ag (fr.set d undef) h∧dJ E ps (fr.set d undef) h Q):=Aw
theorem WA:Ig E [] fr h=True:=ct rfl rfl
end
theorem fj {v:Value}{h:ak}{K:Value→ak→Prop}:qF (some (v,h)) K=K v h :=
 propext ⟨fun ⟨_,_,e,k⟩=>by cases e;exact k,fun k=>⟨_,_,rfl,k⟩⟩
theorem AZ {K:Value→ak→Prop}:qF none K=False:=by simp[qF]
theorem tN {r:Option Value}:qF (r.map (·,h)) K=de r fun v=>K v h:=by
 cases r with
 | none=>simp[qF,de]
 | some v=>rw[bS,fj];simp[de]
theorem bu {α:Type}{v:α}{K:α→Prop}:de (some v) K=K v:=by simp[de]
theorem JD {op:Op}(hk:eT E op=.pure) (hc:∀ c,op≠.call c):fY E op fr h K=de (kR E fr (bR op)) fun v=>K v h:=by
 unfold fY;split;·exact absurd rfl (hc _)
 ·simp only[jl,bR,hk];exact tN
theorem fR {op:Op}(hk:eT E op=.pure) (hc:∀ c,op≠.call c) (hf:tV E fr (bR op)=none:=by rfl):fY E op fr h K=de (dZ E fr (bR op)) fun v=>K v h:=by rw[JD hk hc];simp only[kR,hf]
theorem zO {op:Op}(hk:eT E op=.read) (hc:∀ c,op≠.call c):fY E op fr h K=de (gH E fr (bR op) h) fun v=>K v h:=by
 unfold fY;split;·exact absurd rfl (hc _)
 ·simp only[jl,bR,hk];exact tN
theorem nG {op:Op}(hk:eT E op=.alloc) (hc:∀ c,op≠.call c):fY E op fr h K=de (gQ E fr (bR op)) fun p=>K (p.2 h.n) (ai h p.1):=by
 unfold fY;split;·exact absurd rfl (hc _)
 ·simp only[jl,bR,hk];cases gQ E fr _ with
  | none=>simp[qF,de]
  | some p=>rw[bS,fj];simp[de]
theorem yS {op:Op}(hk:eT E op=.act) (hc:∀ c,op≠.call c):fY E op fr h K=qF (mb E fr (bR op) h) K:=by
 unfold fY;split;·exact absurd rfl (hc _)
 ·rename_i hno;simp only[jl,bR,hk]
section
variable {x y z:Operand}{t t':TypeId}
theorem N6:fY E (.move x) fr h K=dM E fr x fun v=>K v h:=fR rfl an
theorem Hr:fY E (.assign x) fr h K=dM E fr x fun v=>K v h:=fR rfl an
theorem Q4:fY E (.pick x y z) fr h K=dM E fr x fun v=>BH v (dM E fr y fun v=>K v h) (dM E fr z fun v=>K v h):=by
 rw[fR rfl an];simp only[dZ,bR,dM,de,BH,Bb];cases ev E fr x with
 | none=>simp
 | some v =>
   cases v with
   | bool b=>cases b<;>simp
   | _=>simp
def cH (E:Env) (op:BinOp) (t:TypeId) (c:Bool) (a b:Value) (K:Value→Prop) [iJ K]:Prop :=
 match a,b with
 | .nilIface,.nilIface=>c=true∧de (eS E op t .nilIface .nilIface) K
 | .float .f64 a,.float .f64 b=>de (Xc op a b) K
 | .float .f64 _,.chan none=>de (DL op) K
 | .chan none,.float .f64 _=>de (DL op) K
 | .chan none,.chan none=>de (DL op) K
 | _,_=>de (eS E op t a b) K
theorem Tq {op:BinOp}{a b:Nat}:eS E op t (.float .f64 a) (.float .f64 b)=none:=by cases op<;>rfl
theorem O0 {op:BinOp}{a:Nat}:eS E op t (.float .f64 a) (.chan none)=none:=by cases op<;>rfl
theorem Nv {op:BinOp}{b:Nat}:eS E op t (.chan none) (.float .f64 b)=none:=by cases op<;>rfl
theorem TF {op:BinOp}:eS E op t (.chan none) (.chan none)=none:=by cases op<;>rfl
theorem U5 {op:BinOp}{c:Bool}{a b:Value}{K:Value→Prop}(hn:¬(a=.nilIface∧b=.nilIface)) (hf:H8 op a b=none):cH E op t c a b K=de (eS E op t a b) K:=by
 unfold cH;split;·exact absurd ⟨rfl,rfl⟩ hn
 ·have hf:Xc op _ _=none:=hf;rw[hf,Tq]
 ·have hf:DL op=none:=hf;rw[hf,O0]
 ·have hf:DL op=none:=hf;rw[hf,Nv]
 ·have hf:DL op=none:=hf;rw[hf,TF]
 ·rfl
theorem TH {op:BinOp}{c:Bool}{a b u:Value}{K:Value→Prop}(hf:H8 op a b=some u):cH E op t c a b K=K u:=by unfold H8 at hf;split at hf<;>first|(cases hf;done)|(simp only[cH,hf,bu])
theorem Wv {op:BinOp}:fY E (.binOp op t x y t') fr h K=dM E fr x fun a=>dM E fr y fun b=>cH E op t (isConst x || isConst y) a b fun v=>K v h:=by
 rw[JD rfl an];rcases hx:ev E fr x with _|a;· simp[kR,tV,dZ,bR,dM,de,hx]
 · rcases hy:ev E fr y with _|b;· simp[kR,tV,dZ,bR,dM,de,hx,hy]
   · have e1:(dM E fr x fun a=>dM E fr y fun b=>cH E op t (isConst x || isConst y) a b fun v=>K v h)=cH E op t (isConst x || isConst y) a b fun v=>K v h:=by unfold dM de;simp[hx,hy]
     rw[e1];simp only[kR,tV,dZ,bR,hx,hy];cases hf:H8 op a b with
     | some u=>rw[TH hf];simp only[bu]
     | none =>
       simp only
       by_cases hn:a=.nilIface∧b=.nilIface
       · obtain⟨rfl,rfl⟩:=hn;simp only[cH];cases (isConst x || isConst y)<;>simp[de]
       · rw[U5 hn hf];unfold de;split;· rename_i h1 h2;cases h1;cases h2;exact absurd ⟨rfl,rfl⟩ hn
         · rename_i h1 h2;cases h1;cases h2;rfl
         · rename_i hno;exact absurd rfl (hno a b rfl)
section
variable {c:Bool}{k k':IntKind}{a b:Int}{K:Value→Prop}
theorem Vz:cH E .add t c (.int k a) (.int k b) K=K (.int k (k.wrap (a+b))):=by simp[cH,eS]
theorem Wu:cH E .sub t c (.int k a) (.int k b) K=K (.int k (k.wrap (a-b))):=by simp[cH,eS]
theorem Tw:cH E .mul t c (.int k a) (.int k b) K=K (.int k (k.wrap (a*b))):=by simp[cH,eS]
theorem WK:cH E .quo t c (.int k a) (.int k b) K=(b≠0∧K (.int k (k.wrap (a.tdiv b)))):=by by_cases hb:b=0<;>simp[cH,eS,de,hb]
theorem Vq:cH E .rem t c (.int k a) (.int k b) K=(b≠0∧K (.int k (a.tmod b))):=by by_cases hb:b=0<;>simp[cH,eS,de,hb]
theorem TZ:cH E .and t c (.int k a) (.int k b) K=K (.int k (k.wrap (BitVec.ofInt k.bits a &&& BitVec.ofInt k.bits b).toNat)):=by simp[cH,eS]
theorem Nz:cH E .or t c (.int k a) (.int k b) K=K (.int k (k.wrap (BitVec.ofInt k.bits a ||| BitVec.ofInt k.bits b).toNat)):=by simp[cH,eS]
theorem S7:cH E .shl t c (.int k a) (.int k' b) K=(0≤b∧K (.int k (k.wrap (a*2 ^ min b.toNat k.bits)))):=by
 by_cases hb:b<0;·have:¬0≤b:=ah;simp[cH,eS,de,hb,this]
 ·have:0≤b:=ah;simp[cH,eS,de,hb,this]
theorem Vd:cH E .shr t c (.int k a) (.int k' b) K=(0≤b∧K (.int k (a.fdiv (2 ^ min b.toNat k.bits)))):=by
 by_cases hb:b<0;·have:¬0≤b:=ah;simp[cH,eS,de,hb,this]
 ·have:0≤b:=ah;simp[cH,eS,de,hb,this]
theorem T3:cH E .eql t c (.int k a) (.int k b) K=lW (a=b) (K (.bool true)) (K (.bool false)):=by
 by_cases hp:a=b;·rw[show (a=b)=True from eq_true hp,je];simp[cH,eS,hp]
 ·rw[show (a=b)=False from eq_false hp,ij];simp[cH,eS,show (a==b)=false by simpa using hp]
theorem SL:cH E .neq t c (.int k a) (.int k b) K=lW (a=b) (K (.bool false)) (K (.bool true)):=by
 by_cases hp:a=b;·rw[show (a=b)=True from eq_true hp,je];simp[cH,eS,hp]
 ·rw[show (a=b)=False from eq_false hp,ij];simp[cH,eS,show (a != b)=true by simpa using hp]
theorem Uv:cH E .lss t c (.int k a) (.int k b) K=lW (a<b) (K (.bool true)) (K (.bool false)):=by
 by_cases hp:a<b;·rw[show (a<b)=True from eq_true hp,je];simp[cH,eS,hp]
 ·rw[show (a<b)=False from eq_false hp,ij];simp[cH,eS,hp]
theorem WG:cH E .leq t c (.int k a) (.int k b) K=lW (a≤b) (K (.bool true)) (K (.bool false)):=by
 by_cases hp:a≤b;·rw[show (a≤b)=True from eq_true hp,je];simp[cH,eS,hp]
 ·rw[show (a≤b)=False from eq_false hp,ij];simp[cH,eS,hp]
theorem WE:cH E .gtr t c (.int k a) (.int k b) K=lW (b<a) (K (.bool true)) (K (.bool false)):=by
 by_cases hp:b<a;·rw[show (b<a)=True from eq_true hp,je];simp[cH,eS,hp]
 ·rw[show (b<a)=False from eq_false hp,ij];simp[cH,eS,hp]
theorem VZ:cH E .geq t c (.int k a) (.int k b) K=lW (b≤a) (K (.bool true)) (K (.bool false)):=by
 by_cases hp:b≤a;·rw[show (b≤a)=True from eq_true hp,je];simp[cH,eS,hp]
 ·rw[show (b≤a)=False from eq_false hp,ij];simp[cH,eS,hp]
end
def CF (E:Env) (t:TypeId):Bool:=match E.qh.get t with
 | some i=>match i.desc with|.struct _|.array _ _|.invalid=>false|_=>true
 | none=>false
def xF (E:Env) (t:TypeId):Option Nat:=match E.qh.get t with
 | some i=>match i.desc with|.struct _|.array _ _=>some i.size|_=>none
 | none=>none
def cellAt (h:ak) (a:Addr):Option Value:=match av h a 1 with|some [v]=>some v|_=>none
def H5 (h:ak) (x:Value) (K:Value→Prop) [iJ K]:Prop:=match x with|.pointer (some a)=>de (cellAt h a) K|_=>False
def Ja (h:ak) (n:Nat) (x:Value) (K:Value→Prop) [iJ K]:Prop:=match x with|.pointer (some a)=>de (av h a n) fun l=>K (.agg ⟨l⟩)|_=>False
theorem Re {h:ak}{a:Addr}{K:Value→Prop}:(∃ v,(match av h a 1 with|some [v]=>some v|_=>none)=some v∧K v)=∃ v,cellAt h a=some v∧K v:=rfl
theorem Mg (ht:CF E t=true):fY E (.load t x) fr h K=dM E fr x fun v=>H5 h v fun u=>K u h:=by
 rw[zO rfl an];simp only[gH,bR,dM,de,H5];cases ev E fr x with
 | none=>simp
 | some v =>
   simp only[loadAt]
   unfold CF at ht
   cases hi:E.qh.get t with
   | none=>rw[hi]at ht;cases ht
   | some i =>
     rw[hi]at ht
     cases v with
     | pointer a =>
       cases a with
       | none=>simp
       | some a =>
         have e:∀ A:Prop,(∃ v,some (Value.pointer (some a))=some v∧match v with|.pointer (some a)=>∃ v,cellAt h a=some v∧K v h|_=>False)=∃ v,cellAt h a=some v∧K v h:=fun _=>an
         rw[e True]
         cases hd:i.desc<;>simp only[hd]at ht ⊢<;>first|(cases ht;done)|exact Re (K:=fun v=>K v h)
     | _=>simp
theorem MN {n:Nat}(ht:xF E t=some n):fY E (.load t x) fr h K=dM E fr x fun v=>Ja h n v fun u=>K u h:=by
 rw[zO rfl an];simp only[gH,bR,dM,de,Ja];cases ev E fr x with
 | none=>simp
 | some v =>
   simp only[loadAt]
   unfold xF at ht
   cases hi:E.qh.get t with
   | none=>rw[hi]at ht;cases ht
   | some i =>
     rw[hi]at ht
     cases v with
     | pointer a =>
       cases a with
       | none=>simp[de]
       | some a =>
         have:∀ m,some m=some n→(∃ v,(av h a m).map (fun l=>Value.agg l.toArray)=some v∧K v h)=∃ v,av h a n=some v∧K (.agg v.toArray) h:=by intro m hm;cases hm;cases av h a n<;>simp
         cases hd:i.desc<;>simp only[hd]at ht ⊢<;>first|(cases ht;done)|(rw[this _ ht];simp)
     | _=>simp
theorem Q9 {h:ak}{a:Addr}{K:Value→Prop}:H5 h (.pointer (some a)) K=de (cellAt h a) K:=ct rfl rfl
theorem N7 {h:ak}{n:Nat}{a:Addr}{K:Value→Prop}:Ja h n (.pointer (some a)) K=de (av h a n) fun l=>K (.agg ⟨l⟩):=ct rfl rfl
def GJ (E:Env) (t:TypeId) (f:Nat):Option Nat:=match b_ E t with
 | some (.struct fields)=>match nth fields.toList f with
   | some fd=>match size E fd.type with
     | some sz=>cond (Nat.beq sz 0) none (some fd.offset)
     | none=>none
   | none=>none
 | _=>none
def Jk (off:Nat) (x:Value) (K:Value→Prop) [iJ K]:Prop:=match x with|.pointer (some a)=>K (.pointer (some (a.add off)))|_=>False
theorem Bw {f n:Nat}(ht:GJ E t f=some n):fY E (.fieldAddr t x f) fr h K=dM E fr x fun v=>Jk n v fun u=>K u h:=by
 rw[fR rfl an];simp only[dZ,bR,dM,de,Jk];cases ev E fr x with
 | none=>simp
 | some v =>
   simp only[qy]
   unfold GJ at ht
   cases hu:b_ E t with
   | none=>rw[hu]at ht;cases ht
   | some d =>
     rw[hu]at ht
     cases d with
     | struct fields =>
       simp only at ht ⊢
       cases hf:nth fields.toList f with
       | none=>rw[hf]at ht;cases ht
       | some fd =>
         rw[hf]at ht
         simp only at ht ⊢
         cases hs:size E fd.type with
         | none=>rw[hs]at ht;cases ht
         | some sz =>
           rw[hs]at ht
           simp only at ht ⊢
           cases hz:Nat.beq sz 0 with
           | true=>rw[hz]at ht;cases ht
           | false =>
             rw[hz]at ht
             cases ht
             cases v with
             | pointer a=>cases a<;>simp[hf,hs,hz]
             | _=>simp
     | _=>simp at ht
theorem MJ {n:Nat}{a:Addr}{K:Value→Prop}:Jk n (.pointer (some a)) K=K (.pointer (some (a.add n))):=ct rfl rfl
def Dt (E:Env) (t:TypeId):Option Nat:=match b_ E t with
 | some (.slice e)=>size E e
 | _=>none
def JO (sz:Nat) (x i:Value) (K:Value→Prop) [iJ K]:Prop:=match x,i with
 | .slice (some a) len _,.int _ i=>(0≤i∧i<(len:Int))∧K (.pointer (some (a.add (i.toNat*sz))))
 | _,_=>False
theorem zZ {n:Nat}(ht:Dt E t=some n):fY E (.indexAddr t x y) fr h K=dM E fr x fun v=>dM E fr y fun i=>JO n v i fun u=>K u h:=by
 rw[fR rfl an];simp only[dZ,bR,dM,de,JO];cases ev E fr x with
 | none=>simp
 | some v =>
   cases ev E fr y with
   | none=>simp
   | some i =>
     simp only[nM]
     unfold Dt at ht
     cases hu:b_ E t with
     | none=>rw[hu]at ht;cases ht
     | some d =>
       rw[hu]at ht
       cases d with
       | slice e =>
         simp only at ht ⊢
         cases v with
         | slice a len cap =>
           cases a with
           | none=>simp
           | some a =>
             cases i with
             | int k i =>
               simp only[ht]
               by_cases h0:0≤i
               · by_cases h1:i<(len:Int)<;>simp[h0,h1]
               · simp[h0]
             | _=>simp
         | _=>simp
       | _=>simp at ht
theorem KJ {sz len cap:Nat}{a:Addr}{k:IntKind}{i:Int}{K:Value→Prop}:JO sz (.slice (some a) len cap) (.int k i) K=((0≤i∧i<(len:Int))∧K (.pointer (some (a.add (i.toNat*sz))))):=ct rfl rfl
def uB (E:Env) (fr:Fr) (xs:List Operand) (K:List Value→Prop) [iJ K]:Prop:=de (aW (ev E fr) xs) K
theorem Ua {K:List Value→Prop}:uB E fr [] K=K []:=by simp[uB,aW]
theorem P6 {x:Operand}{xs:List Operand}{K:List Value→Prop}:uB E fr (x::xs) K=dM E fr x fun v=>uB E fr xs fun vs=>K (v::vs):=by
 simp only[uB,dM,aW,de];cases ev E fr x with
 | none=>simp
 | some v=>cases aW (ev E fr) xs<;>simp
theorem Pe {f:FuncId}{xs:List Operand}{ts:Array TypeId}(hq:E.qf f=false:=by rfl):fY E (.call ⟨.value (.func f),⟨xs⟩,ts⟩) fr h K=uB E fr xs fun as=>cy E (.func f) as h K:=by simp only[fY,isQ,hq,cond_false,target,uB,ev,de];cases aW (ev E fr) xs<;>simp
def wW (E:Env) (f:Value) (as:List Value) (h:ak) (K:Value→ak→Prop) [iJ K]:Prop:=match f with
 | .func (.func g) first captured=>@cy E (.func g) (first.toList++as++captured.toList) h K iJ.mk
 | .func (.yield l) _ _=>@cy E (.yield l) as h K iJ.mk
 | _=>False
theorem Ll {n:Nat}{xs:List Operand}{ts:Array TypeId}:fY E (.call ⟨.value (.tmp n),⟨xs⟩,ts⟩) fr h K=uB E fr xs fun as=>eR fr n fun f=>wW E f as h K:=by
 have e:∀ as,(eR fr n fun f=>wW E f as h K)=∃ f,ev E fr (.tmp n)=some f∧wW E f as h K:=fun as=>J8.symm;simp only[uB,de,e];simp only[fY,isQ,cond_false,target];cases aW (ev E fr) xs with
 | none=>simp
 | some as =>
   cases ev E fr (.tmp n) with
   | none=>simp
   | some f =>
     cases f with
     | func fn first cap=>cases fn<;>simp[wW]
     | _=>simp[wW]
theorem Jj {g:FuncId}{first captured:List Value}{as:List Value}:wW E (.func (.func g) ⟨first⟩ ⟨captured⟩) as h K=cy E (.func g) (first++as++captured) h K:=ct rfl rfl
def T2 (x:Value) (K:Value→Prop) [iJ K]:Prop:=match x with
 | .slice _ n _=>K (.int .i64 n)
 | _=>False
def isSlice (E:Env) (t:TypeId):Bool:=match b_ E t with|some (.slice _)=>true|_=>false
theorem P1 (ht:isSlice E t=true):fY E (.call ⟨.builtin .len,⟨[x]⟩,⟨[t]⟩⟩) fr h K=dM E fr x fun v=>T2 v fun u=>K u h:=by
 unfold isSlice at ht;split at ht
 · rename_i e hu;simp only[fY,jl,kR,tV,v8,bR,eT,hu,dZ,Bx,aW,dM,tN,de,T2];cases ev E fr x with
   | none=>simp
   | some v =>simp only[Tt,hu];cases v<;>simp
 · cases ht
theorem Lo {a:Option Addr}{n c:Nat}{K:Value→Prop}:T2 (.slice a n c) K=K (.int .i64 n):=ct rfl rfl
end
theorem OF {t:Nat}{K:Value→ak→Prop}:cW E [.tmp t] K .ret fr h=eR fr t fun v=>K v h:=by simp only[cW,aW,me,eR,ev];cases fr.get t<;>simp[dE]
theorem Nj {t s:Nat}{K:Value→ak→Prop}:cW E [.tmp t,.tmp s] K .ret fr h=eR fr t fun v=>eR fr s fun u=>K (.tuple #[v,u]) h:=by simp only[cW,aW,me,eR,ev];cases fr.get t<;>cases fr.get s<;>simp[dE]
theorem EC {v:Value}{l:List Value}{i:Nat}:bY (v::l) i fr=bY l (i+1) (fr.set i v):=ct rfl rfl
theorem Ie {i:Nat}:bY [] i fr=fr:=ct rfl rfl
theorem aP {a:GC}(I:Nat→Fr→ak→Prop) (n:Nat) (h1:I n fr h) (hm:n<1000000)
   (hs:∀ n fr' h',I n fr' h'→(∀ t,a.wr t=false→fr'.get t=fr.get t)→a.wp E nt rd fr' h' (Cd (fun fr' h'=>∃ m,m<n∧I m fr' h') Q)) :
   (GC.loop a).wp E nt rd fr h Q:=by
 refine⟨n+1,ah,?_⟩
 have key:∀ N n fr' h',n<N→I n fr' h'→(∀ t,a.wr t=false→fr'.get t=fr.get t)→wh (a.wp E nt rd) Q N fr' h':=by
   intro N;induction N with
   | zero=>intro n fr h aT;omega
   | succ N ih =>
     intro n fr' h' aT hi hk
     refine GC.wp_mono a (hs n fr' h' hi hk) fun ex fr2 h2 hk' q=>?_
     cases ex with
     | normal=>obtain⟨m,hm,hi⟩:=q;exact ih m fr2 h2 ah hi fun t ht=>by rw[hk' t ht,hk t ht]
     | exit j=>exact q
     | ret=>exact q
 exact key _ n _ _ ah h1 fun _ _=>rfl
end
theorem cy.Oo {E:Env}{f:FuncId}{fn:Func}{g:GC}{nt:Nat}{rs:List ResultVar}{args:List Value}{h:ak}{K:Value→ak→Prop}
  (hx:E.ext f args h=none) (hf:E.vQ.get f=some fn) (hg:fn.body.bind (clean E nt)=some g) (hn:fn.ntmps=nt) (hrs:fn.results.toList=rs) (hnt:args.length≤nt)
  (w:g.wp E nt none (bY args 0 .leaf) h (cW E rs K)):cy E (.func f) args h K:=by
 obtain⟨c,hb,hc⟩:=qD.1 hg
 exact cy.SI hx hf hb (by rw[hn,Nat.max_eq_left hnt];exact hc) (by rw[hn];exact Nat.max_eq_left hnt) hrs w
open Go.RowKit
def zB (B:Nat):Value→Bool
 | .bool _|.int _ _|.string _|.float _ _|.pointer none|.map none|.nilFunc|.nilIface=>true
 | .pointer (some a)=>a.spot.isNone&&Nat.blt a.block B
 | .slice none _ c=>Nat.blt c bh
 | .slice (some a) _ c=>a.spot.isNone&&Nat.blt a.block B&&Nat.blt c bh
 | .iface _ (.pointer (some a))=>a.spot.isNone&&Nat.blt a.block B
 | _=>false
def sV (B:Nat):Ren:=fun i=>if i<B then some (i,0) else none
theorem VR.ok0 {B:Nat}:∀ {v:Value},zB B v=true→VR (sV B) v v
 | .bool _,_=>.bool _
 | .int _ _,_=>.int _ _
 | .float _ _,_=>.float _ _
 | .string _,_=>.string _
 | .pointer none,_=>.AN
 | .map none,_=>.DI
 | .nilFunc,_=>.nilFunc
 | .nilIface,_=>.nilIface
 | .pointer (some ⟨b,o,s⟩),h=>by simp only[zB,aZ,blt_eq,decide_eq_true_eq,tM]at h;obtain⟨rfl,h2⟩:=h;exact .ptr (c:=0) _ (by simp[sV,h2])
 | .slice none _ c,h=>by simp only[zB,blt_eq,decide_eq_true_eq]at h;exact .jq _ _ h
 | .slice (some ⟨b,o,s⟩) _ c,h=>by simp only[zB,aZ,blt_eq,decide_eq_true_eq,tM]at h;obtain⟨⟨rfl,h2⟩,h3⟩:=h;exact .slice (c:=0) _ _ _ (by simp[sV,h2]) h3
 | .iface _ (.pointer (some ⟨b,o,s⟩)),h=>by simp only[zB,aZ,blt_eq,decide_eq_true_eq,tM]at h;obtain⟨rfl,h2⟩:=h;exact .iface _ _ _ (.ptr (c:=0) _ (by simp[sV,h2]))
def yr (B:Nat):Value→Option Value
 | .slice (some _) 0 0=>some (.slice (some ⟨0,0,none⟩) 0 fb)
 | v=>cond (zB B v) (some v) none
theorem Ka {B:Nat}{v u:Value}(h:yr B v=some u):VR (sV B) u v:=by
 unfold yr at h;split at h;·cases h;exact .iQ _ _ _
 ·cases hk:zB B v with
  | false=>rw[hk]at h;cases h
  | true=>rw[hk]at h;cases h;exact VR.ok0 hk
def SJ (B:Nat):Obj→iY
 | .cells xs _ _=>.ro fun i=>(xs[i]?).bind (yr B)
 | _=>.dead
def jo (W:World):ak:={ n:=W.heap.size,b:=T.ofList (W.heap.toList.map (SJ W.heap.size)) }
theorem uz (W:World) (i:Nat):(jo W).b.get i=(W.heap[i]?).map (SJ W.heap.size):=by simp[jo,T.uG]
theorem Mr (P:Program) (W:World):HR P (sV W.heap.size) (jo W) W where
 gG i b c e:=by
   unfold sV at e;by_cases h:i<W.heap.size;· rw[if_pos h]at e;cases e;exact⟨h,h⟩
   · rw[if_neg h]at e;cases e
 rj i b c e:=by
   unfold sV at e;by_cases h:i<W.heap.size
   · rw[if_pos h]at e;cases e;refine⟨SJ W.heap.size W.heap[i],W.heap[i],by rw[uz];simp[h],by simp[h],?_⟩;generalize W.heap[i]=o;cases o with
     | cells xs el f =>refine .ro _ _ fun j v hv=>?_;obtain⟨v0,h0,h1⟩:=qD.1 hv;exact⟨xs,el,f,v0,rfl,h0,Ka h1⟩
     | _=>exact .dead _
   · rw[if_neg h]at e;cases e
 inj i j b c d e e' hn:=by
   unfold sV at e e';by_cases h:i<W.heap.size
   · rw[if_pos h]at e;cases e;by_cases h':j<W.heap.size;· rw[if_pos h']at e';cases e';exact absurd rfl hn
     · rw[if_neg h']at e';cases e'
   · rw[if_neg h]at e;cases e
theorem Dp {W:World}{b:Nat}(l:List Value) (off:Nat) (hc:∀ (i:Nat) (u:Value),l[i]?=some u→∃ v,W.cell? ⟨b,off+i,none⟩=some v∧yr W.heap.size v=some u):av (jo W) ⟨b,off,none⟩ l.length=some l:=by
 cases l with
 | nil=>rfl
 | cons v0 l0 =>
   obtain⟨v1,h0,_⟩:=hc 0 v0 rfl
   unfold World.cell? at h0
   simp only at h0
   split at h0
   · rename_i c el f hb;have aT:b<W.heap.size:=(fq.1 hb).1;have hlt':Nat.blt b (jo W).n=true:=by simp[blt_eq,jo,aT]
     have key:∀ (l:List Value) (off:Nat),(∀ (i:Nat) (u:Value),l[i]?=some u→∃ v,c[off+i]?=some v∧yr W.heap.size v=some u) →
         jz (fun i=>(c[i]?).bind (yr W.heap.size)) off l.length=some l:=by
       intro l
       induction l with
       | nil=>intro off _;rfl
       | cons u l ih =>
         intro off hc
         obtain⟨v,h1,h2⟩:=hc 0 u rfl
         rw[cj]at h1
         simp only[dn,jz,h1,h2,vB]
         rw[ih (off+1) (fun i u' e=>by have:=hc (i+1) u' (by simpa using e);rwa [show off+1+i=off+(i+1) by omega])]
     have hcells:av (jo W) ⟨b,off,none⟩ (v0::l0).length=jz (fun i=>(c[i]?).bind (yr W.heap.size)) off (v0::l0).length:=by unfold av;simp only[hlt',uz,hb,bS,SJ,cond_true];rfl
     rw[hcells];refine key _ _ (fun i u e=>?_);obtain⟨v,h1,h2⟩:=hc i u e;rw[cell_of hb]at h1;exact⟨v,h1,h2⟩
   · cases h0
section
variable {P:Program}{E:Env}
theorem I9 (hE:bJ P E) (hx:ji P E) (hn:jt P) {f:FuncId}{W:World}(hg:GR E (sV W.heap.size)) {us:List Value}{args:Array Value}(hargs:eW (sV W.heap.size) us args.toList) (hext:E.ext f us (jo W)=none)
  (r:cy E (.func f) us (jo W) fun v _=>v=.bool true):Calls P f args W fun e w'=>e=.returned (.bool true)∧Below W.heap.size W w':=by
 obtain⟨d,v,h',e,rfl⟩:=r
 refine(sI hE hx hn hext e (Mr P W) hg hargs).mono fun e w' hh=>?_
 obtain⟨v',ρ',rfl,r,hs⟩:=hh
 cases r
 refine⟨rfl,hs.below fun i x e=>?_⟩
 rw[uz]
 unfold sV at e
 by_cases h:i<W.heap.size
 ·simp only[h,sZ,bS];generalize W.heap[i]=o;cases o with
  | cells xs el f=>exact .inr ⟨_,rfl⟩
  | _=>exact .inl rfl
 ·rw[if_neg h]at e;cases e
theorem dG.Fb {ρ:Ren}{h:ak}{w w':World}(hr:HR P ρ h w) (hb:Below w.heap.size w w'):dG P ρ h w ρ h w' where
 le:=Ren.le_refl _
 hr:={
  gG:=fun i b c e=>⟨(hr.gG i b c e).1,bX (hr.gG i b c e).2 hb.size⟩
  rj:=fun i b c e=>by obtain⟨k,o,e1,e2,e3⟩:=hr.rj i b c e;exact⟨k,o,e1,by rw[hb.block b (hr.gG i b c e).2];exact e2,e3⟩
  inj:=hr.inj }
 n:=aQ _
 new i x e e0:=by rw[e]at e0;cases e0
 bM _ _ _:=rfl
 os:=hb.os
 tape:=hb.tape
 output:=hb.output
 size:=hb.size
 frame b aT _:=hb.block b aT
 Fe i b c e _:=⟨i,c,e,.inl rfl⟩
 stays _ _ _ _:=rfl
def sD (ext:FuncId→List Value→ak→Option (Option (Value×ak))) (k:FuncId) (f:FuncId) (args:List Value) (h:ak):Option (Option (Value×ak)) :=
 cond (Nat.beq f k) (match args with|[]=>some (some (.bool true,h))|_=>some none) (ext f args h)
theorem EB {ng ng' k:Nat}{ext:FuncId→List Value→ak→Option (Option (Value×ak))}(h0:ji P (iW P ng ext)) (hle:ng≤ng') {fn:Func}{c:Code}(hf:P.funcs[k]?=some fn) (hb:fn.body=some c) (hn:jt P)
  (hk:∀ w:World,Calls P k #[] w fun e w'=>e=.returned (.bool true)∧Below w.heap.size w w'):ji P (iW P ng' (sD ext k)):=by
 intro f args h v h' e ρ w args' hr hg ra
 simp only[iW,sD,bF]at e
 by_cases hfk:f=k
 ·subst hfk;rw[if_pos rfl]at e;split at e
  ·simp only[aS,bA]at e;obtain⟨rfl,rfl⟩:=e;have hargs:args'=#[]:=by obtain ⟨l⟩:=args';simp only at ra;cases ra;rfl
   subst hargs;refine .inr (.inl ⟨f,#[],kj hf hn hb #[] w,(hk w).mono fun e w' hh=>?_⟩);obtain⟨rfl,hbl⟩:=hh;exact⟨_,ρ,rfl,.bool _,dG.Fb hr hbl⟩
  ·simp at e
 ·rw[if_neg hfk]at e;exact h0 f args h v h' e ρ w args' hr (fun g aT=>hg g (bX aT hle)) ra
theorem cy.extH {f:FuncId}{args:List Value}{h h':ak}{K:Value→ak→Prop}{v:Value}(hx:E.ext f args h=some (some (v,h'))) (k:K v h'):cy E (.func f) args h K :=
 ⟨1,v,h',by rw[dN,hx],k⟩
theorem cy.ext {f:FuncId}{args:List Value}{h:ak}{K:Value→ak→Prop}{v:Value}(hx:E.ext f args h=some (some (v,h))) (k:K v h):cy E (.func f) args h K:=cy.extH hx k
end
structure aw (B:Nat) (h h':ak):Prop where
 n:h.n≤h'.n
 get:∀ i,i<B→h'.b.get i=h.b.get i
theorem aw.refl (B:Nat) (h:ak):aw B h h:=⟨aQ _,fun _ _=>rfl⟩
theorem aw.trans {B:Nat}{h h1 h2:ak}(a:aw B h h1) (b:aw B h1 h2):aw B h h2:=⟨bO a.n b.n,fun i hi=>by rw[b.get i hi,a.get i hi]⟩
theorem aw.mono {B B':Nat}{h h':ak}(a:aw B' h h') (hb:B≤B'):aw B h h':=⟨a.n,fun i hi=>a.get i (bX hi hb)⟩
theorem aw.new {B:Nat}{h:ak}(k:iY) (hb:B≤h.n):aw B h (ai h k):=⟨by simp[ai],fun i hi=>by simp only[ai];exact T.aR _ _ ah⟩
theorem aw.set {B:Nat}{h:ak}{i:Nat}(k:iY) (hb:B≤i):aw B h { h with b:=h.b.set i k }:=⟨aQ _,fun j hj=>T.aR _ _ ah⟩
theorem bE (h:ak) (k:iY):(ai h k).n=h.n+1:=rfl
theorem az (h:ak) (k:iY):(ai h k).b.get h.n=some k:=by simp[ai,T.aj]
theorem aK {h:ak}{i:Nat}(k:iY) (hi:i<h.n):(ai h k).b.get i=h.b.get i:=by simp only[ai];exact T.aR _ _ ah
theorem aG {B b off n:Nat}{h h':ak}{l:List Value}(e:aw B h h') (hb:b<B) (hc:av h ⟨b,off,none⟩ n=some l):av h' ⟨b,off,none⟩ n=some l:=by
 unfold av at hc ⊢;cases hn:Nat.beq n 0 with
 | true=>rw[hn]at hc;exact hc
 | false =>
   rw[hn]at hc
   simp only[cond_false]at hc ⊢
   rw[e.get b hb]
   by_cases aT:b<h.n
   · have:b<h'.n:=bX aT e.n;simp only[blt_eq,aT,this,decide_true,cond_true]at hc ⊢;exact hc
   · simp[blt_eq,aT]at hc
theorem aD {B b off:Nat}{h h':ak}{v:Value}(e:aw B h h') (hb:b<B) (hc:cellAt h ⟨b,off,none⟩=some v):cellAt h' ⟨b,off,none⟩=some v:=by
 unfold cellAt at hc ⊢;cases hl:av h ⟨b,off,none⟩ 1 with
 | none=>rw[hl]at hc;cases hc
 | some l=>rw[hl]at hc;rw[aG e hb hl];exact hc
theorem aq {h:ak}{i:Nat}{cs:List Value}{e:TypeId}{x:Bool}(hi:i<h.n) (hb:h.b.get i=some (.cells cs e x)) {off n:Nat}{l:List Value}(hl:(cs.drop off).take n=l) (hn:l.length=n) :
   av h ⟨i,off,none⟩ n=some l:=by
 have tk:∀ (n:Nat) (c:List Value),n≤c.length→takeN n c=some (c.take n):=by
   intro n;induction n with
   | zero=>intro c _;rfl
   | succ n ih =>
     intro c hc
     cases c with
     | nil=>simp at hc
     | cons a c=>simp only[takeN,ih c (by simpa using hc),bS,iX]
 unfold av
 rw[bF]
 by_cases h0:n=0
 · subst h0;rw[if_pos rfl];simp at hl;rw[← hl]
 · rw[if_neg h0];simp only[blt_eq,hi,decide_true,cond_true,hb,jJ];rw[tk _ _ (by rw[← hl]at hn;simp at hn;simp;omega),hl]
theorem ay {h:ak}{i:Nat}{cs:List Value}{e:TypeId}{x:Bool}(hi:i<h.n) (hb:h.b.get i=some (.cells cs e x)) {off:Nat}{v:Value}(hv:cs[off]?=some v):cellAt h ⟨i,off,none⟩=some v:=by unfold cellAt;have aT:=(cQ.1 hv).1;rw[aq (n:=1) hi hb (l:=[v]) (by rw[kJ aT];simp only[iX,iH];rw[(cQ.1 hv).2]) rfl]
theorem Gv {h:ak}{cs:List Value}{e:TypeId}{x:Bool}{off:Nat}{v:Value}(hv:cs[off]?=some v):cellAt (ai h (.cells cs e x)) ⟨h.n,off,none⟩=some v :=
 ay (by simp[ai]) (az _ _) hv
theorem dk {h:ak}{b off n:Nat}{l:List Value}(hc:av h ⟨b,off,none⟩ n=some l) {j:Nat}{v:Value}(hj:l[j]?=some v):cellAt h ⟨b,off+j,none⟩=some v:=by
 have hjl:=(cQ.1 hj).1;unfold av at hc;rw[bF]at hc;by_cases h0:n=0;· rw[if_pos h0]at hc;cases hc;simp at hj
 · rw[if_neg h0]at hc;simp only at hc;unfold cellAt av;simp only[show Nat.beq 1 0=false from rfl,cond_false];cases aT:Nat.blt b h.n with
   | false=>rw[aT]at hc;cases hc
   | true =>
     rw[aT]at hc;simp only[cond_true]at hc ⊢;cases hk:h.b.get b with
     | none=>rw[hk]at hc;cases hc
     | some k =>
       rw[hk]at hc
       cases k with
       | cells cs e x =>
         simp only[jJ]at hc ⊢
         obtain⟨h1,rfl⟩:=pI _ _ _ hc
         rw[jx (by simp at hjl;omega),kH]at hj
         have aT:=(cQ.1 hj).1
         rw[kJ aT]
         simp only[takeN,bS]
         rw[(cQ.1 hj).2]
       | ro g =>
         obtain⟨i1,i2⟩:=tj _ _ _ hc
         have:=i2 j v hj
         simp only[jz,this]
       | _=>cases hc
def iz (B:Nat) (h:ak) (a:Option Addr) (sz:Nat) (rows:List (List Value)):Prop :=
 ∀ i (hi:i<rows.length),∃ b off,a=some ⟨b,off,none⟩∧b<B∧av h ⟨b,off+i*sz,none⟩ sz=some rows[i]
theorem iz.ext {B:Nat}{h h':ak}{a:Option Addr}{sz:Nat}{rows:List (List Value)}(r:iz B h a sz rows) (e:aw B h h'):iz B h' a sz rows:=fun i hi=>by obtain⟨b,off,e1,e2,e3⟩:=r i hi;exact⟨b,off,e1,e2,aG e e2 e3⟩
inductive bT (B:Nat) (h:ak) (e:TypeId):Value→Nat→List Value→Prop
 | nil:bT B h e (.slice none 0 0) 0 []
 | emp (i:Nat) (hi:i<h.n):bT B h e (.slice (some ⟨i,0,none⟩) 0 0) 0 []
 | row (i n:Nat) (cs:List Value) (hB:B≤i) (hi:i<h.n) (hb:h.b.get i=some (.cells cs e false)):bT B h e (.slice (some ⟨i,0,none⟩) n bh) n cs
theorem bT.ext {B B':Nat}{h h':ak}{e:TypeId}{v:Value}{n:Nat}{cs:List Value}(o:bT B h e v n cs) (x:aw B' h h') (hB:h.n≤B'):bT B h' e v n cs:=by
 cases o with
 | nil=>exact .nil
 | emp i hi=>exact .emp i (bX hi x.n)
 | row i n cs h1 h2 h3=>exact .row i n cs h1 (bX h2 x.n) (by rw[x.get i ah];exact h3)
theorem bT.new {B:Nat}{h:ak}{e:TypeId}{v:Value}{n:Nat}{cs:List Value}(o:bT B h e v n cs) (k:iY):bT B (ai h k) e v n cs:=o.ext (aw.new (B:=h.n) k a_) a_
section
variable {E:Env}{nt:Nat}{rd:Option Nat}{fr:Fr}{h:ak}{K:Value→ak→Prop}{x y z:Operand}{t t':TypeId}
theorem Ld {v:Value}{l:List Value}(hz:zero E t=some v) (hl:v.cells.toList=l) (ho:l.all aE=true):fY E (.alloc t) fr h K=K (.pointer (some ⟨h.n,0,none⟩)) (ai h (.cells l t true)):=by subst hl;rw[nG rfl an];simp[gQ,bR,hz,xE,ho,de]
def G' (t:TypeId) (v:Value) (h:ak) (K:Value→ak→Prop) [iJ K]:Prop:=v.cells.toList.all aE=true∧K (.pointer (some ⟨h.n,0,none⟩)) (ai h (.cells v.cells.toList t true))
theorem U8:fY E (.box t x) fr h K=dM E fr x fun v=>G' t v h K:=by
 rw[nG rfl an];simp only[gQ,bR,dM,de,G'];cases ev E fr x with
 | none=>simp
 | some v =>
   simp only[xE,aS,exists_eq_left']
   generalize v.cells.toList=l
   generalize hc:l.all aE=b
   cases b<;>simp
theorem JB {v:Value}(hv:v.cells=#[v]) (ho:aE v=true):G' t v h K=K (.pointer (some ⟨h.n,0,none⟩)) (ai h (.cells [v] t true)):=by unfold G';rw[hv];simp[ho]
theorem SN {k:IntKind}{n:Int}:G' t (.int k n) h K=K (.pointer (some ⟨h.n,0,none⟩)) (ai h (.cells [.int k n] t true)):=JB rfl rfl
theorem Fg {a:Option Addr}:G' t (.pointer a) h K=K (.pointer (some ⟨h.n,0,none⟩)) (ai h (.cells [.pointer a] t true)):=JB rfl rfl
theorem SB {l:List Value}:G' t (.agg ⟨l⟩) h K=(l.all aE=true∧K (.pointer (some ⟨h.n,0,none⟩)) (ai h (.cells l t true))):=rfl
def jQ (n:Nat) (p v:Value) (h:ak) (K:Value→ak→Prop) [iJ K]:Prop :=
 match p with
 | .pointer (some a)=>(v.cells.toList.length=n∧v.cells.toList.all aE=true)∧de (du h a v.cells.toList) fun h'=>K undef h'
 | _=>False
theorem Lz {n:Nat}(hn:size E t=some n):fY E (.store t x y) fr h K=dM E fr x fun p=>dM E fr y fun v=>jQ n p v h K:=by
 rw[yS rfl an];simp only[mb,bR,dM,de,jQ];cases ev E fr x with
 | none=>simp[qF]
 | some p =>
   cases ev E fr y with
   | none=>simp[qF]
   | some v =>
     simp only[storeAt,hn]
     cases p with
     | pointer a =>
       cases a with
       | none=>simp[qF]
       | some a =>
         simp only[aS,exists_eq_left']
         generalize v.cells.toList=l
         generalize h2:l.all aE=b
         cases hb:Nat.beq l.length n with
         | true =>
           have h1:l.length=n:=eY hb
           cases b with
           | true =>
             simp only[dP,cond_true,h1,true_and,and_true]
             cases du h a l with
             | none=>simp[qF]
             | some h'=>simp only[bS,fj];simp
           | false=>simp[qF]
         | false =>
           have h1:¬l.length=n:=mj hb
           simp[qF,h1]
     | _=>simp[qF]
theorem HL {n:Nat}{cs l:List Value}{e:TypeId}{b:Bool}(h1:l.length=n) (h2:cs.length=n) (h3:l.all aE=true) (hn:n≠0) :
   jQ n (.pointer (some ⟨h.n,0,none⟩)) (.agg ⟨l⟩) (ai h (.cells cs e b)) K=K undef (ai h (.cells l e b)):=by
 have ov:∀ (l cs:List Value),l.length=cs.length→fV cs 0 l=some l:=by
   intro l;induction l with
   | nil=>intro cs hc;cases cs<;>simp at hc;rfl
   | cons a l ih =>
     intro cs hc
     cases cs with
     | nil=>simp at hc
     | cons c cs=>simp only[fV,db,cond_true,ih cs (by simpa using hc),bS]
 have hw:du (ai h (.cells cs e b)) ⟨h.n,0,none⟩ l=some (ai h (.cells l e b)):=by
   unfold du;cases l with
   | nil=>simp at h1;omega
   | cons a l =>
     simp only[az,ov (a::l) cs ah,bS]
     simp[ai,T.set_set]
 simp only[jQ,Value.cells]
 rw[hw]
 simp[h1,h3]
theorem mN {i off:Nat}{cs cs' l:List Value}{e:TypeId}{b:Bool}(hb:h.b.get i=some (.cells cs e b)) (ho:fV cs off l=some cs') (hl:l≠[]):du h ⟨i,off,none⟩ l=some { h with b:=h.b.set i (.cells cs' e b) }:=by
 unfold du;cases l with
 | nil=>exact absurd rfl hl
 | cons a l=>simp only[hb,ho,bS]
theorem jn {a b:Nat}(hn:a≠b):Nat.beq a b=false:=by
 cases h:Nat.beq a b with
 | true=>exact absurd (eY h) hn
 | false=>rfl
def vu (E:Env) (fr:Fr) (ps:List (Nat×Operand)) (K:List (Nat×Value)→Prop) [iJ K]:Prop:=de (aW (fun (p:Nat×Operand)=>(ev E fr p.2).map (p.1,·)) ps) K
theorem Wc {K:List (Nat×Value)→Prop}:vu E fr [] K=K []:=by simp[vu,aW]
theorem Nr {i:Nat}{x:Operand}{ps:List (Nat×Operand)}{K:List (Nat×Value)→Prop}:vu E fr ((i,x)::ps) K=dM E fr x fun v=>vu E fr ps fun vs=>K ((i,v)::vs):=by
 simp only[vu,dM,aW,de];cases ev E fr x with
 | none=>simp
 | some v=>cases aW (fun (p:Nat×Operand)=>(ev E fr p.2).map (p.1,·)) ps<;>simp
def elemOf (E:Env) (t:TypeId):Option (TypeId×Nat×List Value):=match b_ E t with
 | some (.slice elem)=>match E.qh.get elem with
   | some i=>match i.zero with
     | some z=>cond (Nat.beq z.cells.toList.length i.size&&!Nat.beq i.size 0&&Nat.ble i.bytes 10000) (some (elem,i.size,z.cells.toList)) none
     | none=>none
   | none=>none
 | _=>none
theorem yd {e:TypeId}{sz:Nat}{zs:List Value}(hx:elemOf E t=some (e,sz,zs)):∃ i z,b_ E t=some (.slice e)∧E.qh.get e=some i∧i.zero=some z∧i.size=sz∧z.cells.toList=zs∧zs.length=sz∧sz≠0∧i.bytes≤10000:=by
 unfold elemOf at hx;split at hx
 · rename_i elem hu;split at hx
   · rename_i i hi;split at hx
     · rename_i z hz;cases hc:(Nat.beq z.cells.toList.length i.size&&!Nat.beq i.size 0&&Nat.ble i.bytes 10000) with
       | false=>rw[hc]at hx;cases hx
       | true =>rw[hc]at hx;cases hx;simp only[aZ,ic]at hc;exact⟨i,z,hu,hi,hz,rfl,rfl,eY hc.1.1,mj hc.1.2,fX hc.2⟩
     · cases hx
   · cases hx
 · cases hx
def vX (e:TypeId) (sz:Nat) (zs:List Value) (len:Nat) (ps:List (Nat×Value)) (h:ak) (K:Value→ak→Prop) [iJ K]:Prop :=
 de (iV (fun k=>some (k*sz,sz)) (rep len zs) ps) fun l=>K (.slice (some ⟨h.n,0,none⟩) len len) (ai h (.cells l e true))
theorem Az {e:TypeId}{sz len:Nat}{zs:List Value}{ps:List (Nat×Operand)}(hx:elemOf E t=some (e,sz,zs)) (hl:len*sz≤1000000) :
   fY E (.buildSlice t len ⟨ps⟩) fr h K=vu E fr ps fun l=>vX e sz zs len l h K:=by
 obtain⟨i,z,h1,h2,h3,h4,h5,h6,h7,h8⟩:=yd hx
 subst h4 h5
 rw[nG rfl an]
 simp only[gQ,bR,Zp,vu,de,vX]
 cases aW (fun (p:Nat×Operand)=>(ev E fr p.2).map (p.1,·)) ps with
 | none=>simp
 | some l =>
   have hc:(Nat.ble (len*i.size) 1000000&&Nat.beq z.cells.toList.length i.size&&!Nat.beq i.size 0)=true:=by simp only[aZ,ic];exact⟨⟨oH hl,by rw[h6];exact db _⟩,jn h7⟩
   simp only[tb,h1,h2,h3,hc,cond_true,aS,exists_eq_left']
   cases iV (fun k=>some (k*i.size,i.size)) (rep len z.cells.toList) l<;>simp
theorem Mm {f:Nat→Option (Nat×Nat)}{cs:List Value}:iV f cs []=some cs:=rfl
theorem bs_one {e:TypeId}{sz:Nat}{zs l:List Value}{v:Value}(hv:v.cells.toList=l) (hl:l.length=sz) (hz:zs.length=sz) (h0:sz≠0):vX e sz zs 1 [(0,v)] h K=K (.slice (some ⟨h.n,0,none⟩) 1 1) (ai h (.cells l e true)):=by
 have ov:∀ (l cs:List Value),l.length=cs.length→fV cs 0 l=some l:=by
   intro l;induction l with
   | nil=>intro cs hc;cases cs<;>simp at hc;rfl
   | cons a l ih =>
     intro cs hc
     cases cs with
     | nil=>simp at hc
     | cons c cs=>simp only[fV,db,cond_true,ih cs (by simpa using hc),bS]
 subst hv;have hb:Nat.blt 0 sz=true:=by rw[blt_eq];simp;omega
 have hb2:Nat.beq v.cells.toList.length sz=true:=by rw[hl];exact db _
 have:iV (fun k=>some (k*sz,sz)) (rep 1 zs) [(0,v)]=some v.cells.toList:=by simp only[iV,rep,ei,dO,hb,hb2,cond_true,ov v.cells.toList zs ah]
 unfold vX;rw[this,bu]
def iK (e:TypeId) (sz:Nat) (s y:Value) (h:ak) (K:Value→ak→Prop) [iJ K]:Prop :=
 match s,lenOf y with
 | .slice base sl sc,some n=>((sl+n≤1000000∧(sl≤sc∨n≠0)) ∧
   ((n=0→K (.slice base sl sc) h)∧(n≠0→de (firstCells h sz n y) fun new=>new.all aE=true∧qF (bW h e sz base sl sc n new) K)))
 | _,_=>False
def seqT (E:Env) (t:TypeId):Bool:=((b_ E t).map AM)==some true
theorem IH {e:TypeId}{sz:Nat}{zs:List Value}(hx:elemOf E t=some (e,sz,zs)) (hs:seqT E t'=true) :
   fY E (.call ⟨.builtin .append,⟨[x,y]⟩,⟨[t,t']⟩⟩) fr h K=dM E fr x fun s=>dM E fr y fun v=>iK e sz s v h K:=by
 obtain⟨i,z,h1,h2,h3,h4,h5,h6,h7,h8⟩:=yd hx
 subst h4 h5
 have hs':(b_ E t').map AM=some true:=by simpa[seqT]using hs
 simp only[fY,jl,kR,tV,v8,bR,eT,mb,Bx,aW,dM,de,iK]
 cases ev E fr x with
 | none=>simp[qF]
 | some s =>
   cases ev E fr y with
   | none=>simp[qF]
   | some v =>
     simp only[aS,exists_eq_left',yL]
     cases s with
     | slice base sl sc =>
       simp only[h1,h2,hs']
       cases hlen:lenOf v with
       | none=>simp[qF]
       | some n =>
         simp only
         rw[h3]
         simp only
         have e1:Nat.beq z.cells.toList.length i.size=true:=by rw[h6];exact db _
         have e2:Nat.beq i.size 0=false:=jn h7
         have e3:Nat.ble i.bytes 10000=true:=oH h8
         rw[e1,e2,e3]
         simp only[sE,kI]
         by_cases c1:sl+n≤1000000
         · by_cases c2:sl≤sc∨n≠0
           · have f1:Nat.ble (sl+n) 1000000=true:=oH c1;have f2:(Nat.ble sl sc || !Nat.beq n 0)=true:=by
               rcases c2 with c2|c2;· rw[oH c2];rfl
               · rw[jn c2];simp
             rw[f1,f2];simp only[dP,cond_true,c1,c2,true_and];by_cases hn:n=0;· subst hn;simp[fj]
             · have f3:Nat.beq n 0=false:=jn hn;rw[f3];simp only[cond_false];cases firstCells h i.size n v with
               | none=>simp[qF,hn]
               | some new =>simp only[aS,exists_eq_left'];generalize new.all aE=b;cases b<;>simp[AZ,hn]
           · have f2:(Nat.ble sl sc || !Nat.beq n 0)=false:=by
               have a1:¬sl≤sc:=fun a=>c2 (.inl a);have a2:n=0:=by
                 by_cases hn:n=0;· exact hn
                 · exact absurd (.inr hn) c2
               subst a2;cases hb:Nat.ble sl sc with
               | true=>exact absurd (fX hb) a1
               | false=>rfl
             rw[f2];simp[AZ,c2]
         · have f1:Nat.ble (sl+n) 1000000=false:=by
             cases hb:Nat.ble (sl+n) 1000000 with
             | true=>exact absurd (fX hb) c1
             | false=>rfl
           rw[f1];simp[AZ,c1]
     | _=>simp[qF]
theorem yD {B:Nat}{e:TypeId}{sz n m:Nat}{s y:Value}{cs new:List Value}(o:bT B h e s n cs) (hB:B≤h.n) (hlen:cs.length=n*sz) (hy:lenOf y=some m) (hm:m≠0) (hsz:n+m≤1000000)
   (hnew:firstCells h sz m y=some new) (hnl:new.length=m*sz) (hone:new.all aE=true) (hpos:sz≠0)
   (k:∀ v' h',bT B h' e v' (n+m) (cs++new)→aw B h h'→h'.n=h.n+1→K v' h'):iK e sz s y h K:=by
 have pos:0<m*sz:=Nat.mul_pos ah ah
 cases o with
 | nil =>
   simp only[iK,hy]
   refine⟨⟨ah,.inr hm⟩,fun h0=>absurd h0 hm,fun _=>?_⟩
   rw[hnew,bu]
   refine⟨hone,?_⟩
   have:bW h e sz none 0 0 m new=some (.slice (some ⟨h.n,0,none⟩) m bh,ai h (.cells ([]++new) e false)):=by
     unfold bW;have f1:Nat.beq 0 fb=false:=rfl;have f2:Nat.beq 0 bh=false:=rfl;have f3:Nat.ble m 0=false:=by
       cases hb:Nat.ble m 0 with
       | true=>have:=fX hb;omega
       | false=>rfl
     simp only[f1,f2,cond_false,firstCells,db,cond_true,cb,f3]
   rw[this,fj]
   refine k _ _ ?_ (aw.new _ hB) rfl
   rw[cb]
   exact .row h.n m _ hB (by simp[ai]) (az _ _)
 | emp i0 hi0 =>
   simp only[iK,hy]
   refine⟨⟨ah,.inr hm⟩,fun h0=>absurd h0 hm,fun _=>?_⟩
   rw[hnew,bu]
   refine⟨hone,?_⟩
   have:bW h e sz (some ⟨i0,0,none⟩) 0 0 m new=some (.slice (some ⟨h.n,0,none⟩) m bh,ai h (.cells ([]++new) e false)):=by
     unfold bW;have f1:Nat.beq 0 fb=false:=rfl;have f2:Nat.beq 0 bh=false:=rfl;have f3:Nat.ble m 0=false:=by
       cases hb:Nat.ble m 0 with
       | true=>have:=fX hb;omega
       | false=>rfl
     simp only[f1,f2,cond_false,firstCells,av,dO,db,cond_true,cb,f3]
   rw[this,fj]
   refine k _ _ ?_ (aw.new _ hB) rfl
   rw[cb]
   exact .row h.n m _ hB (by simp[ai]) (az _ _)
 | row i n cs h1 h2 h3 =>
   simp only[iK,hy]
   refine⟨⟨ah,.inr hm⟩,fun h0=>absurd h0 hm,fun _=>?_⟩
   rw[hnew,bu]
   refine⟨hone,?_⟩
   have:bW h e sz (some ⟨i,0,none⟩) n bh m new=some (.slice (some ⟨h.n,0,none⟩) (n+m) bh,ai { h with b:=h.b.set i .dead } (.cells (cs++new) e false)):=by
     unfold bW;have f1:Nat.beq bh fb=false:=rfl;have f2:Nat.beq bh bh=true:=db _;have f3:Nat.ble ((n+m)*sz) cs.length=false:=by
       cases hb:Nat.ble ((n+m)*sz) cs.length with
       | true =>
         have:=fX hb
         rw[hlen,iN]at this
         omega
       | false=>rfl
     have f4:Nat.beq (n*sz) cs.length=true:=by rw[hlen];exact db _
     simp only[f1,f2,h3,cond_false,cond_true,db,f3,f4]
   rw[this,fj]
   refine k _ _ ?_ ?_ rfl
   · exact .row h.n (n+m) _ hB (by simp[ai]) (by simp[ai,T.aj])
   · refine⟨by simp[ai],fun j hj=>?_⟩;simp only[ai];rw[T.aR _ _ ah,T.aR _ _ ah]
end
section
variable {E:Env}{fr:Fr}{h:ak}{K:Value→ak→Prop}{x y:Operand}{t:TypeId}
def Nq (E:Env) (t:TypeId):Option (Nat×Nat):=match b_ E t with
 | some (.array n e)=>(size E e).map fun s=>(n,s)
 | _=>none
def J' (n sz:Nat) (x i:Value) (K:Value→Prop) [iJ K]:Prop:=match x,i with
 | .pointer (some a),.int _ i=>(0≤i∧i<(n:Int))∧K (.pointer (some (a.add (i.toNat*sz))))
 | _,_=>False
theorem zR {n sz:Nat}(ht:Nq E t=some (n,sz)):fY E (.indexAddr t x y) fr h K=dM E fr x fun v=>dM E fr y fun i=>J' n sz v i fun u=>K u h:=by
 rw[fR rfl an];simp only[dZ,bR,dM,de,J'];cases ev E fr x with
 | none=>simp
 | some v =>
   cases ev E fr y with
   | none=>simp
   | some i =>
     simp only[nM]
     unfold Nq at ht
     cases hu:b_ E t with
     | none=>rw[hu]at ht;cases ht
     | some d =>
       rw[hu]at ht
       cases d with
       | array m e =>
         simp only[aY,bA]at ht
         obtain⟨s,hs,rfl,rfl⟩:=ht
         cases v with
         | pointer a =>
           cases a with
           | none=>simp
           | some a =>
             cases i with
             | int k i =>
               simp only[hs]
               by_cases h0:0≤i
               · by_cases h1:i<(m:Int)<;>simp[h0,h1]
               · simp[h0]
             | _=>simp
         | _=>simp
       | _=>simp at ht
theorem Mt {n sz:Nat}{a:Addr}{k:IntKind}{i:Int}{K:Value→Prop}:J' n sz (.pointer (some a)) (.int k i) K=((0≤i∧i<(n:Int))∧K (.pointer (some (a.add (i.toNat*sz))))):=ct rfl rfl
theorem tF (a b:ByteArray):eqStr a b=decide (a=b):=by
 rw[sK,decide_eq_true_eq];simp only[eqStr,beq_iff_eq];constructor
 · intro h;have:∀ (x y:List UInt8),x.map (·.toNat)=y.map (·.toNat)→x=y:=by
     intro x;induction x with
     | nil=>intro y h;cases y<;>simp at h;rfl
     | cons c x ih =>
       intro y h
       cases y with
       | nil=>simp at h
       | cons d y=>simp only[dT,pV]at h;rw[ih y h.2,UInt8.toNat_inj.1 h.1]
   have:=this _ _ h;cases a;cases b;simp only at this;congr 1;exact pw.1 this
 · intro h;rw[h]
section
variable {c:Bool}{a b:ByteArray}{K:Value→Prop}
theorem Rv:cH E .eql t c (.string a) (.string b) K=lW (a=b) (K (.bool true)) (K (.bool false)):=by
 by_cases hp:a=b;·rw[show (a=b)=True from eq_true hp,je];simp[cH,eS,tF,hp]
 ·rw[show (a=b)=False from eq_false hp,ij];simp[cH,eS,tF,hp]
theorem Pf:cH E .neq t c (.string a) (.string b) K=lW (a=b) (K (.bool false)) (K (.bool true)):=by
 by_cases hp:a=b;·rw[show (a=b)=True from eq_true hp,je];simp[cH,eS,tF,hp]
 ·rw[show (a=b)=False from eq_false hp,ij];simp[cH,eS,tF,hp]
end
theorem EI {c:Bool}{xs ys:List Value}{K:Value→Prop}{b:Bool}(hp:plainKey E 20 t=true) (he:nP E 100 t (.agg ⟨xs⟩) (.agg ⟨ys⟩)=some b):cH E .neq t c (.agg ⟨xs⟩) (.agg ⟨ys⟩) K=K (.bool (!b)):=by simp[cH,eS,hp,he]
theorem Ox {c:Bool}{xs ys:List Value}{K:Value→Prop}{b:Bool}(hp:plainKey E 20 t=true) (he:nP E 100 t (.agg ⟨xs⟩) (.agg ⟨ys⟩)=some b):cH E .eql t c (.agg ⟨xs⟩) (.agg ⟨ys⟩) K=K (.bool b):=by simp[cH,eS,hp,he]
def bL (r k:Option Bool):Option Bool:=match r with
 | some true=>k
 | r=>r
theorem jg {a b:Bool}:bL (some a) (some b)=some (a&&b):=by cases a<;>rfl
theorem H0 (a b:Int):(a==b)=decide (a=b):=rfl
section
variable {c:Bool}{xs ys:List Value}{K:Value→Prop}{p:Prop}[Decidable p]
theorem Nt (hp:plainKey E 20 t=true) (he:nP E 100 t (.agg ⟨xs⟩) (.agg ⟨ys⟩)=some (decide p)):cH E .neq t c (.agg ⟨xs⟩) (.agg ⟨ys⟩) K=lW p (K (.bool false)) (K (.bool true)):=by
 rw[EI hp he];by_cases h:p;·rw[decide_eq_true h,eq_true h,je];simp
 ·rw[decide_eq_false h,eq_false h,ij];simp
theorem M8 (hp:plainKey E 20 t=true) (he:nP E 100 t (.agg ⟨xs⟩) (.agg ⟨ys⟩)=some (decide p)):cH E .eql t c (.agg ⟨xs⟩) (.agg ⟨ys⟩) K=lW p (K (.bool true)) (K (.bool false)):=by
 rw[Ox hp he];by_cases h:p;·rw[decide_eq_true h,eq_true h,je]
 ·rw[decide_eq_false h,eq_false h,ij]
end
theorem bI {cs:List Value}{e:TypeId}{b:Bool}{off:Nat}:cellAt (ai h (.cells cs e b)) ⟨h.n,off,none⟩=cs[off]?:=by
 by_cases aT:off<cs.length;·rw[bw aT];exact Gv (bw aT)
 ·rw[qK ah];unfold cellAt av;have h1:Nat.blt h.n (ai h (.cells cs e b)).n=true:=by simp[blt_eq,ai]
  simp only[show Nat.beq 1 0=false from rfl,cond_false,h1,cond_true,az,jJ];rw[mE ah];rfl
theorem aV {cs:List Value}{e:TypeId}{b:Bool}{n:Nat}(hn:cs.length=n):av (ai h (.cells cs e b)) ⟨h.n,0,none⟩ n=some cs :=
 aq (by simp[ai]) (az _ _) (by simp[← hn]) hn
theorem lH {k:iY}{i off:Nat}(hi:i<h.n):cellAt (ai h k) ⟨i,off,none⟩=cellAt h ⟨i,off,none⟩:=by
 have hi':i<(ai h k).n:=by simp[ai];omega
 unfold cellAt av;simp only[aK k hi,blt_eq,hi,hi',decide_true,cond_true]
theorem CH {k:iY}{i off n:Nat}(hi:i<h.n):av (ai h k) ⟨i,off,none⟩ n=av h ⟨i,off,none⟩ n:=by
 have hi':i<(ai h k).n:=by simp[ai];omega
 unfold av;simp only[aK k hi,blt_eq,hi,hi',decide_true,cond_true]
theorem tD {sz:Nat}:∀ (rows:List (List Value)) (i:Nat),(∀ r∈rows,r.length=sz)→∀ (hi:i<rows.length),(rows.flatten.drop (i*sz)).take sz=rows[i]
 | r::rows,0,hl,_=>by have:=hl r (eZ ..);simp[← this]
 | r::rows,i+1,hl,hi=>by have h1:=hl r (eZ ..);have:=tD rows i (fun r hr=>hl r (fU _ hr)) (by simpa using hi);rw[mG,pP,show (i+1)*sz-r.length=i*sz by rw[h1,iN];omega,mE (by rw[h1,iN];omega)];simpa using this
theorem gU {sz:Nat}:∀ (rows:List (List Value)),(∀ r∈rows,r.length=sz)→rows.flatten.length=rows.length*sz
 | [],_=>an
 | r::rows,hl=>by have h1:=hl r (eZ ..);have:=gU rows (fun r hr=>hl r (fU _ hr));rw[mG,dA,this,h1,dn,iN];omega
theorem bT.rowAt {B:Nat}{e:TypeId}{v:Value}{n sz:Nat}{rows:List (List Value)}(o:bT B h e v n rows.flatten) (hl:∀ r∈rows,r.length=sz) (hn:n=rows.length) :
   ∃ a c,v=.slice a rows.length c∧iz h.n h a sz rows:=by
 subst hn
 generalize hcs:rows.flatten=cs at o
 generalize hm:rows.length=m at o ⊢
 cases o with
 | nil =>
   refine⟨none,0,by rw[show (0:Nat)=0 from rfl],fun i hi=>?_⟩
   omega
 | emp i0 hi0 =>
   refine⟨some ⟨i0,0,none⟩,0,by rw[show (0:Nat)=0 from rfl],fun i hi=>?_⟩
   omega
 | row i m cs h1 h2 h3 =>
   subst hcs
   refine⟨_,_,rfl,fun j hj=>⟨i,0,rfl,h2,?_⟩⟩
   exact aq h2 h3 (by rw[cb];exact tD rows j hl hj) (hl _ (bG _))
theorem Kd {n:Nat}{cs l:List Value}{e:TypeId}{b:Bool}(hc:(Nat.beq l.length n&&Nat.beq cs.length n&&l.all aE&&!Nat.beq n 0)=true) (k:K undef (ai h (.cells l e b))) :
  jQ n (.pointer (some ⟨h.n,0,none⟩)) (.agg ⟨l⟩) (ai h (.cells cs e b)) K:=by
 simp only[aZ,ic]at hc
 rw[HL (eY hc.1.1.1) (eY hc.1.1.2) hc.1.2 (mj hc.2)]
 exact k
theorem J4 {e:TypeId}{sz:Nat}{zs:List Value}{v:Value}(hc:(Nat.beq v.cells.toList.length sz&&Nat.beq zs.length sz&&!Nat.beq sz 0)=true) (k:K (.slice (some ⟨h.n,0,none⟩) 1 1) (ai h (.cells v.cells.toList e true))):vX e sz zs 1 [(0,v)] h K:=by simp only[aZ,ic]at hc;rw[bs_one rfl (eY hc.1.1) (eY hc.1.2) (mj hc.2)];exact k
theorem yv {B:Nat}{e:TypeId}{sz n j:Nat}{s:Value}{cs new:List Value}{h1:ak}(o:bT B h1 e s n cs) (hB:B≤h1.n) (hlen:cs.length=n*sz) (hsz:n+1≤1000000)
  (hnl:new.length=sz) (hone:new.all aE=true) (hpos:sz≠0) (hj:j=h1.n)
  (k:∀ v' h',bT B h' e v' (n+1) (cs++new)→aw B h1 h'→K v' h'):iK e sz s (.slice (some ⟨j,0,none⟩) 1 1) (ai h1 (.cells new e true)) K:=by
 subst hj
 refine yD (o.new _) (bO hB (aL _)) hlen (m:=1) rfl ao hsz (new:=new) ?_ ah hone hpos fun v' h' o' x' _=>k v' h' o' ((aw.new _ hB).trans x')
 simp only[firstCells,fk]
 exact aV hnl
theorem lN {e:TypeId}{sz len:Nat}{zs l:List Value}{ps:List (Nat×Value)}(hf:iV (fun k=>some (k*sz,sz)) (rep len zs) ps=some l) (k:K (.slice (some ⟨h.n,0,none⟩) len len) (ai h (.cells l e true))):vX e sz zs len ps h K:=by unfold vX;rw[hf,bu];exact k
end
theorem wrap_i64 {n:Int}(h0 : -9223372036854775808≤n) (h1:n≤9223372036854775807):IntKind.wrap .i64 n=n:=by rw[IntKind.wrap_i64];omega
theorem wrap_u64 {n:Int}(h0:0≤n) (h1:n≤18446744073709551615):IntKind.wrap .u64 n=n:=by simp[IntKind.wrap,IntKind.bits,IntKind.signed];omega
theorem bC {k:Nat}(h:k≤4611686018427387904):IntKind.wrap .i64 ((k:Int)+1)=((k+1:Nat):Int):=by rw[wrap_i64 ah ah];omega
section
variable {E:Env}{fr:Fr}{h:ak}{K:Value→ak→Prop}{x y z:Operand}{t t':TypeId}
def unK (op:UnOp) (v:Value) (K:Value→Prop) [iJ K]:Prop:=de (aun op v) K
theorem aab {op:UnOp}:fY E (.unOp op t x) fr h K=dM E fr x fun v=>unK op v fun u=>K u h:=by rw[fR rfl an];simp only[dZ,bR,dM,de,unK];cases ev E fr x<;>simp
theorem abz {b:Bool}{K:Value→Prop}:unK .not (.bool b) K=K (.bool !b):=by simp[unK,aun]
def OW (E:Env) (t:TypeId):Option IntKind:=match b_ E t with|some (.int k)=>some k|_=>none
def Jt (k:IntKind) (v:Value) (K:Value→Prop) [iJ K]:Prop:=match v with|.int _ n=>K (.int k (k.wrap n))|_=>False
theorem Nh {k k':IntKind}(h1:OW E t=some k') (h2:OW E t'=some k):fY E (.convert t t' x) fr h K=dM E fr x fun v=>Jt k v fun u=>K u h:=by
 unfold OW at h1 h2;split at h1
 ·rename_i k1 hu1;split at h2
  ·rename_i k2 hu2;cases h2;rw[fR (by simp[eT,hu1]) an];simp only[dZ,bR,dM,de,Jt];cases ev E fr x with
   | none=>simp
   | some v=>cases v<;>simp[wj,hu1,hu2]
  ·cases h2
 ·cases h1
theorem Ov {k k':IntKind}{n:Int}{K:Value→Prop}:Jt k (.int k' n) K=K (.int k (k.wrap n)):=ct rfl rfl
def bstrK (h:ak) (v:Value) (K:Value→Prop) [iJ K]:Prop:=match v with
 | .slice none _ _=>K (.string .empty)
 | .slice (some a) n _=>de (match av h a n with|some l=>(aW byteOf l).map fun l=>(⟨l.toArray⟩:ByteArray)|none=>none) fun s=>K (.string s)
 | _=>False
def fldPl (E:Env) (t:TypeId) (f:Nat):Option (Nat×Option Nat):=match b_ E t with
 | some (.struct fields)=>match nth fields.toList f with
   | some fd=>match E.qh.get fd.type with
     | some i=>match i.desc with
       | .struct _|.array _ _=>some (fd.offset,some i.size)
       | .invalid=>none
       | _=>some (fd.offset,none)
     | none=>none
   | none=>none
 | _=>none
def aaA (i:Nat) (v:Value) (K:Value→Prop) [iJ K]:Prop:=match v with|.tuple cs=>de cs.toList[i]? K|_=>False
theorem EY {i:Nat}:fY E (.extract x i) fr h K=dM E fr x fun v=>aaA i v fun u=>K u h:=by
 rw[fR rfl an];simp only[dZ,bR,dM,de,aaA];cases ev E fr x with
 | none=>simp
 | some v=>cases v<;>simp[dL]
theorem KG {i:Nat}{l:List Value}{K:Value→Prop}:aaA i (.tuple ⟨l⟩) K=de l[i]? K:=ct rfl rfl
theorem C8 {fn:Fn}{f c:List Operand}(hy:Dx fn=false):fY E (.makeFunc fn ⟨f⟩ ⟨c⟩) fr h K=uB E fr f fun fs=>uB E fr c fun cs=>K (.func fn ⟨fs⟩ ⟨cs⟩) h:=by
 rw[fR rfl an];simp only[dZ,bR,uB,Bx,de];cases aW (ev E fr) f with
 | none=>simp
 | some fs=>cases aW (ev E fr) c<;>simp[hy]
theorem Bt {g:FuncId}{f c:List Operand}:fY E (.makeFunc (.func g) ⟨f⟩ ⟨c⟩) fr h K=uB E fr f fun fs=>uB E fr c fun cs=>K (.func (.func g) ⟨fs⟩ ⟨cs⟩) h:=C8 rfl
def placesOf (E:Env) (t:TypeId):Option (List Value×List (Nat×Nat)):=match zero E t,b_ E t with
 | some z,some (.struct fields)=>(aW (fun f=>(size E f.type).map (f.offset,·)) fields.toList).map fun p=>(z.cells.toList,p)
 | _,_=>none
def yb (zs:List Value) (pl:List (Nat×Nat)) (ps:List (Nat×Value)) (K:Value→Prop) [iJ K]:Prop:=de (iV (nth pl) zs ps) fun l=>K (.agg ⟨l⟩)
theorem Kn {zs:List Value}{pl:List (Nat×Nat)}{ps:List (Nat×Operand)}(hp:placesOf E t=some (zs,pl)):fY E (.build t ⟨ps⟩) fr h K=vu E fr ps fun l=>yb zs pl l fun u=>K u h:=by
 unfold placesOf at hp;split at hp
 · rename_i z fields hz hu;simp only[aY,bA]at hp;obtain⟨p,hp,rfl,rfl⟩:=hp;rw[fR rfl an];simp only[dZ,bR,Zp,vu,de,yb];cases aW (fun (p:Nat×Operand)=>(ev E fr p.2).map (p.1,·)) ps with
   | none=>simp
   | some l =>simp only[yU,hz,hu,hp,aS,exists_eq_left'];generalize iV (nth p) z.cells.toList l=r;cases r<;>simp
 · cases hp
theorem WO {zs l:List Value}{pl:List (Nat×Nat)}{ps:List (Nat×Value)}{K:Value→Prop}(hf:iV (nth pl) zs ps=some l) (k:K (.agg ⟨l⟩)):yb zs pl ps K:=by unfold yb;rw[hf,bu];exact k
theorem Jh {f:Nat→Option (Nat×Nat)}{cs:List Value}{i:Nat}{v:Value}{ps:List (Nat×Value)}:iV f cs ((i,v)::ps)=match f i with
  | none=>none
  | some (off,n)=>cond (Nat.blt 0 n) (cond (Nat.beq v.cells.toList.length n) (match fV cs off v.cells.toList with|some cs=>iV f cs ps|none=>none) none) none:=rfl
theorem Ds:fY E (.nilCheck x) fr h K=dM E fr x fun v=>match v with
   | .pointer (some a)=>K (.pointer (some a)) h
   | .iface t v=>K (.iface t v) h
   | .func (.func f) a b=>K (.func (.func f) a b) h
   | .func (.yield l) a b=>K (.func (.yield l) a b) h
   | _=>False:=by
 rw[fR rfl an]
 simp only[dZ,bR,dM,de]
 cases ev E fr x with
 | none=>simp
 | some v =>
   cases v with
   | pointer a=>cases a<;>simp
   | func fn a b=>cases fn<;>simp
   | _=>simp
end
section
variable {α:Type}[DecidableEq α]
structure KeyOK (E:Env) (kt:TypeId) (kv:α→Value):Prop where
 b_:∃ d,b_ E kt=some d∧∀ a b,(cond (pT d) (mX d (kv a) (kv b)) (nP E 100 kt (kv a) (kv b)))=some (decide (a=b))
 chk:∀ a,d_ E 20 kt (kv a)=true
 same:∀ a,bt 50 (kv a) (kv a)=true
variable {kv:α→Value}
end
section
variable {α:Type}[DecidableEq α] {kv:α→Value}{E:Env}{fr:Fr}{h:ak}{K:Value→ak→Prop}{x y z:Operand}{t t' kt et:TypeId}{r:Nat}{f:α→Option Value}{k:α}
def FV (E:Env) (t:TypeId) (m k:Value) (ok:Bool) (h:ak) (K:Value→Prop) [iJ K]:Prop:=de (mh E t m k ok h) K
theorem Hm {ok:Bool}:fY E (.lookup t x y ok) fr h K=dM E fr x fun m=>dM E fr y fun k=>FV E t m k ok h fun u=>K u h:=by
 rw[zO rfl an];simp only[gH,bR,dM,de,FV];cases ev E fr x with
 | none=>simp
 | some v=>cases ev E fr y<;>simp
def Vt (E:Env) (t:TypeId) (m k v:Value) (h:ak) (K:Value→ak→Prop) [iJ K]:Prop:=de (jT E t m k v h) fun h'=>K undef h'
theorem EA (hu:(b_ E t).isSome=true) (hns:E.smap t=false):fY E (.makeMap t none) fr h K=K (.map (some h.n)) (ai h (.map [] 0)):=by obtain⟨d,hd⟩:=qo.1 hu;rw[nG rfl an];simp[gQ,bR,hd,de,hns]
end
section
variable {E:Env}{nt:Nat}{rd:Option Nat}{fr:Fr}{h:ak}{K:Value→ak→Prop}{x y z:Operand}{t t':TypeId}
def aaj (v:Value) (K:Value→Prop) [iJ K]:Prop:=match v with
 | .slice _ _ c=>c<bh∧K (.int .i64 c)
 | _=>False
def Fz (E:Env) (fr:Fr) (o:Option Operand) (K:Option Value→Prop) [iJ K]:Prop:=de (Gz E fr o) K
theorem Qr {K:Option Value→Prop}:Fz E fr none K=K none:=by simp[Fz,Gz]
theorem NV {K:Option Value→Prop}:Fz E fr (some x) K=dM E fr x fun v=>K (some v):=by simp only[Fz,Gz,dM,de];cases ev E fr x<;>simp
def slcK (sz:Nat) (v:Value) (lo hi mx:Option Value) (K:Value→Prop) [iJ K]:Prop:=match v,lo,hi,mx with
 | .slice a n c,none,some (.int _ j),none=>((c=bh∧sz≠0∧0≤j∧j≤n)∧K (.slice a j.toNat bh))∨((c<bh∧0≤j∧j≤c)∧K (.slice a j.toNat c))
 | .slice a n c,some (.int _ i),some (.int _ j),none=>(c<bh∧0≤i∧i≤j∧j≤c)∧K (.slice (cond (Nat.beq c i.toNat) a (a.map (·.add (i.toNat*sz)))) (j-i).toNat (c-i.toNat))
 | _,_,_,_=>False
def kq (E:Env) (t:TypeId):Option Nat:=match b_ E t with|some (.slice e)=>size E e|_=>none
def dW (E:Env) (t:TypeId) (v:Value) (lo hi mx:Option Value) (K:Value→Prop) [iJ K]:Prop:=de (hX E t v lo hi mx) K
theorem Kw {lo hi mx:Option Operand}:fY E (.slice t x lo hi mx) fr h K=dM E fr x fun v=>Fz E fr lo fun lo=>Fz E fr hi fun hi=>Fz E fr mx fun mx=>dW E t v lo hi mx fun u=>K u h:=by
 rw[fR rfl an];simp only[dZ,bR,dM,Fz,de,dW];cases ev E fr x with
 | none=>simp
 | some v =>
   cases Gz E fr lo with
   | none=>simp
   | some a =>
     cases Gz E fr hi with
     | none=>simp
     | some b =>
       cases Gz E fr mx with
       | none=>simp
       | some c=>simp
theorem Ho {c:Bool}{a:Option Addr}{n m:Nat}{K:Value→Prop}(ht:isSlice E t=true):cH E .eql t c (.slice a n m) (.slice none 0 0) K=K (.bool a.isNone):=by
 unfold isSlice at ht;split at ht
 ·rename_i e hu;have:eS E .eql t (.slice a n m) (.slice none 0 0)=some (.bool a.isNone):=by cases a<;>simp[eS,gw,nP,hu]
  simp only[cH,this,bu]
 ·cases ht
def Sz (fr:Fr) (d:Nat) (v:Value):Prop:=∃ v',fr.get d=some v'∧bt 50 v v'=true
theorem Oc {d:Nat}{v u:Value}:Sz (fr.set d u) d v=(bt 50 v u=true):=by simp[Sz,T.aj]
theorem aaq {d s:Nat}{v u:Value}(hs:s≠d):Sz (fr.set s u) d v=Sz fr d v:=by simp[Sz,T.aj,hs]
def EF (E:Env) (t:TypeId) (p:Value) (h:ak) (K:Value→Prop) [iJ K]:Prop:=de (loadAt E t p h) K
theorem N3 {d:Nat}{l:List GO}:Ig E (⟨none,some d,.load t x⟩::l) fr h=((dM E fr x fun p=>EF E t p h fun v=>Sz fr d v)∧Ig E l fr h):=by
 simp only[Ig,Jv,gH,bR,dM,de,EF,Sz];cases ev E fr x with
 | none=>simp
 | some p=>simp
theorem Kz {d s:Nat}{w:Bool}{l:List GO}:Ig E (⟨some (s,w),some d,.load t x⟩::l) fr h=((eR fr s fun b=>Wq b w (dM E fr x fun p=>EF E t p h fun v=>Sz fr d v) True)∧Ig E l fr h):=by
 have e:(∃ v v' d',gH E fr (bR (.load t x)) h=some v∧some d=some d'∧fr.get d'=some v'∧bt 50 v v'=true)=(dM E fr x fun p=>EF E t p h fun v=>Sz fr d v):=by
  simp only[gH,bR,dM,de,EF,Sz];cases ev E fr x with
  | none=>simp
  | some p=>simp
 simp only[Ig,Aw,e]
theorem UX {v:Value}{K:Value→Prop}(ht:CF E t=true):EF E t v h K=H5 h v K:=by
 unfold CF at ht;split at ht
 · rename_i i hi;unfold EF loadAt H5;cases v with
   | pointer a =>
     cases a with
     | none=>simp[de]
     | some a =>
       simp only[hi]
       split
       · rename_i hd;simp[hd]at ht
       · rename_i hd;simp[hd]at ht
       · rename_i hd;simp[hd]at ht
       · rfl
   | _=>simp[de]
 · cases ht
theorem Oa {n:Nat}{v:Value}{K:Value→Prop}(ht:xF E t=some n):EF E t v h K=Ja h n v K:=by
 unfold xF at ht;split at ht
 · rename_i i hi;unfold EF loadAt Ja;cases v with
   | pointer a =>
     cases a with
     | none=>simp[de]
     | some a =>
       simp only[hi]
       split at ht
       · rename_i fs hd;cases ht;simp only[hd];cases av h a i.size<;>simp[de]
       · rename_i m e hd;cases ht;simp only[hd];cases av h a i.size<;>simp[de]
       · cases ht
   | _=>simp[de]
 · cases ht
theorem Qz {K:Value→ak→Prop}:cW E [] K .normal fr h=K (dE []) h:=ct rfl rfl
theorem MH {K:Value→ak→Prop}:cW E [] K .ret fr h=K (dE []) h:=ct rfl rfl
theorem Mp {s:Nat}{ex:Ex}{K:Value→ak→Prop}(hx:∀ i,ex≠.exit i):cW E [.cell s t] K ex fr h=eR fr s fun p=>EF E t p h fun v=>K v h:=by
 have:∀ (o:Option Value),(match aW (me E fr h) [.cell s t]with|some vs=>K (dE vs) h|none=>False)=(eR fr s fun p=>EF E t p h fun v=>K v h):=by
   intro _;simp only[aW,me,eR,EF,de];cases fr.get s with
   | none=>simp
   | some p =>
     simp only[aS,exists_eq_left']
     generalize hr:loadAt E t p h=r
     cases r<;>simp[dE]
 cases ex with
 | exit i=>exact absurd rfl (hx i)
 | _=>exact this none
theorem Je {s:Nat}{K:Value→ak→Prop}:cW E [.cell s t] K .ret fr h=eR fr s fun p=>EF E t p h fun v=>K v h:=Mp an
theorem U_ {s d:Nat}{K:Value→ak→Prop}:cW E [.cell s t,.tmp d] K .ret fr h=eR fr s fun p=>EF E t p h fun v=>eR fr d fun u=>K (.tuple #[v,u]) h:=by
 simp only[cW,aW,me,eR,EF,de,ev];cases fr.get s with
 | none=>simp
 | some p =>
   simp only[aS,exists_eq_left']
   generalize loadAt E t p h=r
   cases r with
   | none=>simp
   | some v=>cases fr.get d<;>simp[dE]
end
section
variable {E:Env}{fr:Fr}{h:ak}{K:Value→ak→Prop}{x y z:Operand}{t t':TypeId}
def Ot (v:Value) (j:Nat):Prop:=∀ a n c,v=.slice (some a) n c→a.block≠j
theorem Px {B:Nat}{e:TypeId}{sz n m:Nat}{s y:Value}{cs new:List Value}(o:bT B h e s n cs) (hB:B≤h.n) (hlen:cs.length=n*sz) (hy:lenOf y=some m) (hm:m≠0) (hsz:n+m≤1000000)
   (hnew:firstCells h sz m y=some new) (hnl:new.length=m*sz) (hone:new.all aE=true) (hpos:sz≠0)
   (k:∀ v' h',bT B h' e v' (n+m) (cs++new)→aw B h h'→(∀ j,j<h.n→Ot s j→h'.b.get j=h.b.get j)→K v' h'):iK e sz s y h K:=by
 have pos:0<m*sz:=Nat.mul_pos ah ah
 cases o with
 | nil =>
   simp only[iK,hy]
   refine⟨⟨ah,.inr hm⟩,fun h0=>absurd h0 hm,fun _=>?_⟩
   rw[hnew,bu]
   refine⟨hone,?_⟩
   have:bW h e sz none 0 0 m new=some (.slice (some ⟨h.n,0,none⟩) m bh,ai h (.cells ([]++new) e false)):=by
     unfold bW;have f1:Nat.beq 0 fb=false:=rfl;have f2:Nat.beq 0 bh=false:=rfl;have f3:Nat.ble m 0=false:=by
       cases hb:Nat.ble m 0 with
       | true=>have:=fX hb;omega
       | false=>rfl
     simp only[f1,f2,cond_false,firstCells,db,cond_true,cb,f3]
   rw[this,fj]
   refine k _ _ ?_ (aw.new _ hB) (fun j hj _=>aK _ hj)
   rw[cb]
   exact .row h.n m _ hB (by simp[ai]) (az _ _)
 | emp i0 hi0 =>
   simp only[iK,hy]
   refine⟨⟨ah,.inr hm⟩,fun h0=>absurd h0 hm,fun _=>?_⟩
   rw[hnew,bu]
   refine⟨hone,?_⟩
   have:bW h e sz (some ⟨i0,0,none⟩) 0 0 m new=some (.slice (some ⟨h.n,0,none⟩) m bh,ai h (.cells ([]++new) e false)):=by
     unfold bW;have f1:Nat.beq 0 fb=false:=rfl;have f2:Nat.beq 0 bh=false:=rfl;have f3:Nat.ble m 0=false:=by
       cases hb:Nat.ble m 0 with
       | true=>have:=fX hb;omega
       | false=>rfl
     simp only[f1,f2,cond_false,firstCells,av,dO,db,cond_true,cb,f3]
   rw[this,fj]
   refine k _ _ ?_ (aw.new _ hB) (fun j hj _=>aK _ hj)
   rw[cb]
   exact .row h.n m _ hB (by simp[ai]) (az _ _)
 | row i n cs h1 h2 h3 =>
   simp only[iK,hy]
   refine⟨⟨ah,.inr hm⟩,fun h0=>absurd h0 hm,fun _=>?_⟩
   rw[hnew,bu]
   refine⟨hone,?_⟩
   have:bW h e sz (some ⟨i,0,none⟩) n bh m new=some (.slice (some ⟨h.n,0,none⟩) (n+m) bh,ai { h with b:=h.b.set i .dead } (.cells (cs++new) e false)):=by
     unfold bW;have f1:Nat.beq bh fb=false:=rfl;have f2:Nat.beq bh bh=true:=db _;have f3:Nat.ble ((n+m)*sz) cs.length=false:=by
       cases hb:Nat.ble ((n+m)*sz) cs.length with
       | true =>
         have:=fX hb
         rw[hlen,iN]at this
         omega
       | false=>rfl
     have f4:Nat.beq (n*sz) cs.length=true:=by rw[hlen];exact db _
     simp only[f1,f2,h3,cond_false,cond_true,db,f3,f4]
   rw[this,fj]
   refine k _ _ ?_ ?_ (fun j hj hno=>by have hne:i≠j:=hno ⟨i,0,none⟩ n bh rfl;simp only[ai];rw[T.aR _ _ ah,T.aR _ _ hne])
   · exact .row h.n (n+m) _ hB (by simp[ai]) (by simp[ai,T.aj])
   · refine⟨by simp[ai],fun j hj=>?_⟩;simp only[ai];rw[T.aR _ _ ah,T.aR _ _ ah]
theorem o0 {B:Nat}{e:TypeId}{sz n m:Nat}{s y:Value}{cs new:List Value}(o:bT B h e s n cs) (hB:B≤h.n) (hlen:cs.length=n*sz) (hy:lenOf y=some m) (hsz:n+m≤1000000)
   (hnew:m≠0→firstCells h sz m y=some new) (hnl:new.length=m*sz) (hone:new.all aE=true) (hpos:sz≠0)
   (k:∀ v' h',bT B h' e v' (n+m) (cs++new)→aw B h h'→K v' h'):iK e sz s y h K:=by
 by_cases hm:m=0
 · subst hm;have:new=[]:=dq.1 ah;subst this;rw[ei]at k;cases o with
   | nil=>simp only[iK,hy];exact⟨⟨ah,.inl a_⟩,fun _=>k _ _ .nil (aw.refl _ _),fun h=>absurd rfl h⟩
   | emp i hi=>simp only[iK,hy];exact⟨⟨ah,.inl a_⟩,fun _=>k _ _ (.emp i hi) (aw.refl _ _),fun h=>absurd rfl h⟩
   | row i n cs h1 h2 h3 =>simp only[iK,hy];exact⟨⟨ah,.inl (bO (show n≤1000000 by omega) ao)⟩,fun _=>k _ _ (.row i n cs h1 h2 h3) (aw.refl _ _),fun h=>absurd rfl h⟩
 · exact yD o hB hlen hy hm hsz (hnew hm) hnl hone hpos fun v' h' o x _=>k v' h' o x
theorem pb:∀ (new a b c:List Value),b.length=new.length→fV (a++(b++c)) a.length new=some (a++(new++c))
 | [],a,[],c,_=>by
   have:∀ (a:List Value),fV (a++c) a.length []=some (a++c):=by
     intro a;cases a with
     | nil=>cases c<;>rfl
     | cons x a=>rfl
   simpa using this a
 | x::new,[],y::b,c,h=>by have:=pb new [] b c (by simpa using h);simp only[gy,cF]at this;simp only[gy,cF,mo,fV,db,cond_true,this,bS]
 | x::new,z::a,b,c,h=>by have:=pb (x::new) a b c h;simp only[mo,dn,fV,show Nat.beq (a.length+1) 0=false from rfl,cond_false,Nat.add_sub_cancel,this,bS]
theorem fa {n i off:Nat}{cs cs' l:List Value}{e:TypeId}{b:Bool}{v:Value}(hb:h.b.get i=some (.cells cs e b)) (hv:v.cells.toList=l) (hl:l.length=n) (ho:fV cs off l=some cs') (h1:l.all aE=true) (hn:n≠0)
  (q:K undef { h with b:=h.b.set i (.cells cs' e b) }):jQ n (.pointer (some ⟨i,off,none⟩)) v h K:=by
 subst hv
 have hne:v.cells.toList≠[]:=by intro he;rw[he]at hl;simp at hl;omega
 simp only[jQ]
 refine⟨⟨hl,h1⟩,?_⟩
 rw[mN hb ho hne,bu]
 exact q
theorem jY {b off:Nat}:∀ (l:List Value),l≠[]→(∀ j v,l[j]?=some v→cellAt h ⟨b,off+j,none⟩=some v)→av h ⟨b,off,none⟩ l.length=some l:=by
 intro l hne hp;have h0:Nat.beq l.length 0=false:=by
   cases l with
   | nil=>exact absurd rfl hne
   | cons a l=>rfl
 have first:∀ j v,l[j]?=some v→cellAt h ⟨b,off+j,none⟩=some v:=hp
 unfold av;rw[h0];simp only[cond_false];have one:=fun j v (hj:l[j]?=some v)=>(show cellAt h ⟨b,off+j,none⟩=some v from hp j v hj);unfold cellAt av at one;simp only[show Nat.beq 1 0=false from rfl,cond_false]at one;obtain⟨a0,l0,rfl⟩:=List.exists_cons_of_ne_nil hne;have one0:=one 0 a0 rfl;cases aT:Nat.blt b h.n with
 | false=>rw[aT]at one0;simp at one0
 | true =>
   rw[aT]at one
   simp only[cond_true]at one ⊢
   cases hk:h.b.get b with
   | none=>have:=one 0 a0 rfl;rw[hk]at this;simp at this
   | some k =>
     rw[hk]at one
     cases k with
     | cells cs e x =>
       simp only[jJ]at one ⊢
       have pt:∀ j v,(a0::l0)[j]?=some v→cs[off+j]?=some v:=by
         intro j v hj;have:=one j v hj;cases hd:cs.drop (off+j) with
         | nil=>rw[hd]at this;simp[takeN]at this
         | cons c r =>
           rw[hd]at this
           simp only[takeN,bS]at this
           have e2:cs[off+j]?=(cs.drop (off+j))[0]?:=an
           rw[e2,hd]
           simpa using this
       have gen:∀ (l:List Value) (off:Nat),(∀ j v,l[j]?=some v→cs[off+j]?=some v)→takeN l.length (cs.drop off)=some l:=by
         intro l;induction l with
         | nil=>intro off _;cases cs.drop off<;>rfl
         | cons a l ih =>
           intro off hp
           have h1:=hp 0 a rfl
           have aT:=(cQ.1 h1).1
           rw[cj]at h1 aT
           have h2:=ih (off+1) (fun j v hj=>by rw[show off+1+j=off+(j+1) by omega];exact hp (j+1) v (by simpa using hj))
           rw[kJ aT]
           simp only[dn,takeN,h2,bS]
           rw[(cQ.1 h1).2]
       exact gen _ off pt
     | ro g =>
       have pt:∀ j v,(a0::l0)[j]?=some v→g (off+j)=some v:=by
         intro j v hj;have:=one j v hj;simp only[jz]at this;cases hg:g (off+j) with
         | none=>rw[hg]at this;simp at this
         | some w=>rw[hg]at this;simpa using this
       have gen:∀ (l:List Value) (off:Nat),(∀ j v,l[j]?=some v→g (off+j)=some v)→jz g off l.length=some l:=by
         intro l;induction l with
         | nil=>intro off _;rfl
         | cons a l ih =>
           intro off hp
           have h1:=hp 0 a rfl
           rw[cj]at h1
           have h2:=ih (off+1) (fun j v hj=>by rw[show off+1+j=off+(j+1) by omega];exact hp (j+1) v (by simpa using hj))
           simp only[dn,jz,h1,h2]
       exact gen _ off pt
     | _=>have:=one 0 a0 rfl;simp at this
theorem iz.cells {B sz:Nat}{a:Option Addr}{rows:List (List Value)}(r:iz B h a sz rows) (hl:∀ r∈rows,r.length=sz) (hz:sz≠0) (hr:rows≠[]) :
  ∃ b off,a=some ⟨b,off,none⟩∧b<B∧av h ⟨b,off,none⟩ (rows.length*sz)=some rows.flatten:=by
 have h0:0<rows.length:=oE.2 hr
 obtain⟨b,off,rfl,hb,_⟩:=r 0 h0
 refine⟨b,off,rfl,hb,?_⟩
 rw[← gU rows hl]
 refine jY _ ?_ fun j v hj=>?_
 ·intro he;have:=gU rows hl;rw[he]at this;have:0<rows.length*sz:=Nat.mul_pos h0 ah;simp at *;omega
 ·have hjl:=(cQ.1 hj).1;rw[gU rows hl]at hjl;have hq:j / sz<rows.length:=(Nat.div_lt_iff_lt_mul ah).2 hjl;obtain⟨b',off',e1,_,e3⟩:=r (j / sz) hq;cases e1;have hmod:j%sz<sz:=nj _ ah;have hin:rows[j / sz][j%sz]?=some v:=by rw[← tD rows (j / sz) hl hq];rw[jx hmod,kH];rw[show j / sz*sz+j%sz=j by rw[Nat.mul_comm];exact Nat.div_add_mod j sz];exact hj
  have:=dk e3 hin;rw[show off+j / sz*sz+j%sz=off+j by rw[nu];congr 1;rw[Nat.mul_comm];exact Nat.div_add_mod j sz]at this;exact this
end
section
variable {E:Env}{fr:Fr}{h:ak}{K:Value→ak→Prop}{t:TypeId}
theorem Jy {n off:Nat}{cs cs':List Value}{e:TypeId}{b:Bool}{v:Value}(ho:fV cs off v.cells.toList=some cs') (hc:(Nat.beq v.cells.toList.length n&&v.cells.toList.all aE&&!Nat.beq n 0)=true) (k:K undef (ai h (.cells cs' e b))) :
  jQ n (.pointer (some ⟨h.n,off,none⟩)) v (ai h (.cells cs e b)) K:=by
 simp only[aZ,ic]at hc
 refine fa (cs':=cs') (az _ _) rfl (eY hc.1.1) ho hc.1.2 (mj hc.2) ?_
 have:({ ai h (.cells cs e b) with b:=(ai h (.cells cs e b)).b.set h.n (.cells cs' e b) }:ak)=ai h (.cells cs' e b):=by simp[ai,T.set_set]
 rw[this];exact k
end
section
variable {E:Env}{fr:Fr}{h:ak}{K:Value→ak→Prop}{t:TypeId}
def Xx (E:Env) (t:TypeId):Option (List Value×Nat):=match zero E t,b_ E t with
 | some z,some (.array _ e)=>(size E e).map (z.cells.toList,·)
 | _,_=>none
def lU (zs:List Value) (sz:Nat) (ps:List (Nat×Value)) (K:Value→Prop) [iJ K]:Prop:=de (iV (fun i=>some (i*sz,sz)) zs ps) fun l=>K (.agg ⟨l⟩)
theorem H_ {zs:List Value}{sz:Nat}{ps:List (Nat×Operand)}(hp:Xx E t=some (zs,sz)):fY E (.build t ⟨ps⟩) fr h K=vu E fr ps fun l=>lU zs sz l fun u=>K u h:=by
 unfold Xx at hp;split at hp
 · rename_i z n e hz hu;simp only[aY,bA]at hp;obtain⟨p,hp,rfl,rfl⟩:=hp;rw[fR rfl an];simp only[dZ,bR,Zp,vu,de,lU];cases aW (fun (p:Nat×Operand)=>(ev E fr p.2).map (p.1,·)) ps with
   | none=>simp
   | some l =>simp only[yU,hz,hu,hp,aS,exists_eq_left'];generalize iV (fun i=>some (i*p,p)) z.cells.toList l=r;cases r<;>simp
 · cases hp
theorem ab9 {zs l:List Value}{sz:Nat}{ps:List (Nat×Value)}{K:Value→Prop}(hf:iV (fun i=>some (i*sz,sz)) zs ps=some l) (k:K (.agg ⟨l⟩)):lU zs sz ps K:=by unfold lU;rw[hf,bu];exact k
end
section
variable {E:Env}{nt:Nat}{rd:Option Nat}{fr:Fr}{h:ak}{K:Value→ak→Prop}{x y z:Operand}{t t':TypeId}
def UO (a b:Value) (K:Value→Prop) [iJ K]:Prop:=de (rE true a b) K
theorem Uh:fY E (.call ⟨.builtin .max,⟨[x,y]⟩,⟨[t,t']⟩⟩) fr h K=dM E fr x fun a=>dM E fr y fun b=>UO a b fun u=>K u h:=by
 simp only[fY,jl,kR,tV,v8,bR,eT,dZ,Bx,aW,dM,tN,de,UO];cases ev E fr x with
 | none=>simp
 | some a =>
   cases ev E fr y with
   | none=>simp
   | some b =>
     simp only[aS,exists_eq_left',xX]
     cases rE true a b<;>simp
theorem VK {k k':IntKind}{a b:Int}{K:Value→Prop}:UO (.int k a) (.int k' b) K=K (.int k (max a b)):=by
 simp only[UO,rE,cond_true,bu];rw[Int.max_def];by_cases hl:a<b;·rw[if_pos hl,if_pos ah]
 ·by_cases he:a=b;·subst he;simp
  ·rw[if_neg ah,if_neg ah]
def WY (E:Env) (t:TypeId):Option (TypeId×List Value):=match b_ E t with
 | some (.slice e)=>match E.qh.get e with
   | some i=>match i.zero with
     | some z=>cond (Nat.ble i.bytes 10000&&Nat.beq z.cells.toList.length i.size&&!Nat.beq i.size 0) (some (e,z.cells.toList)) none
     | none=>none
   | none=>none
 | _=>none
def IK (e:TypeId) (zs:List Value) (a b:Value) (h:ak) (K:Value→ak→Prop) [iJ K]:Prop:=match a,b with
 | .int _ l,.int _ c=>(0≤l∧l≤c∧c<1000000)∧K (.slice (some ⟨h.n,0,none⟩) l.toNat c.toNat) (ai h (.cells (rep c.toNat zs) e true))
 | _,_=>False
theorem k_ {e:TypeId}{zs:List Value}(hm:WY E t=some (e,zs)):fY E (.makeSlice t x y) fr h K=dM E fr x fun a=>dM E fr y fun b=>IK e zs a b h K:=by
 rw[nG rfl an];unfold WY at hm;split at hm
 · rename_i e' hu;split at hm
   · rename_i i hi;split at hm
     · rename_i z hz;cases hc:(Nat.ble i.bytes 10000&&Nat.beq z.cells.toList.length i.size&&!Nat.beq i.size 0) with
       | false=>rw[hc]at hm;cases hm
       | true =>
         rw[hc]at hm;simp only[cond_true,aS,bA]at hm;obtain⟨rfl,rfl⟩:=hm;simp only[gQ,bR,dM,de];cases ev E fr x with
         | none=>simp
         | some a =>
           cases ev E fr y with
           | none=>simp
           | some b =>
             simp only[aS,exists_eq_left']
             cases a<;>cases b<;>simp only[uN,hu,IK,reduceCtorEq,false_and,exists_false]
             rename_i k1 l k2 c
             by_cases hlc:0≤l∧l≤c∧c<1000000
             · simp only[hlc.1,hlc.2.1,hlc.2.2,decide_true,dP,cond_true,hi,hz,hc,aS,exists_eq_left',true_and]
             · simp only[hlc,false_and];have:(decide (0≤l)&&decide (l≤c)&&decide (c<1000000))=false:=by rw[mZ];intro h1;simp only[aZ,decide_eq_true_eq]at h1;exact hlc ⟨h1.1.1,h1.1.2,h1.2⟩
               simp only[this,cond_false,reduceCtorEq,false_and,exists_false]
     · cases hm
   · cases hm
 · cases hm
end
open Go.RowKit
inductive oQ where
 | int (k:IntKind)
 | flt (k:FloatKind)
 | bool
 | str
 | Hz (e:TypeId)
def Be (g:TypeId→Option (List oQ)) (sz:TypeId→Nat):List Field→Nat→Option (List oQ)
 | [],_=>some []
 | f::fs,off=>match g f.type with
   | some l=>cond (Nat.beq f.offset off&&Nat.beq (sz f.type) l.length) ((Be g sz fs (off+l.length)).map (l++·)) none
   | none=>none
def flat (P:Program):Nat→TypeId→Option (List oQ)
 | 0,_=>none
 | n+1,t=>match P.underlying t with
   | some (.int k)=>some [.int k]
   | some (.float k)=>some [.flt k]
   | some .bool=>some [.bool]
   | some .string=>some [.str]
   | some (.slice e)=>cond (Nat.blt 0 (P.cellsOf e)) (some [.Hz e]) none
   | some (.array m e)=>match flat P n e with
     | some l=>cond (Nat.beq (P.cellsOf e) l.length&&Nat.beq (P.cellsOf t) (m*l.length)&&Nat.blt 0 l.length) (some (rep m l)) none
     | none=>none
   | some (.struct fs)=>match Be (flat P n) P.cellsOf fs.toList 0 with
     | some l=>cond (Nat.beq (P.cellsOf t) l.length) (some l) none
     | none=>none
   | _=>none
section
variable {H:Type}{enc:TypeId×Value→H}{P:Program}{W:World}
def WT (P:Program) (t:TypeId) (d:DataW H):Prop:=∀ n∈d.weights P t,n≤reachBytes
theorem ke {e:TypeId}{n:Nat}:∀ {l:List (DataW H)}{d:DataW H},d∈l→n∈d.weights P e→n∈DataW.weightsAll P e l
 | d0::l,d,hd,hn=>by
   simp only[DataW.weightsAll,dV];rcases cM.1 hd with rfl|hd;· exact .inl hn
   · exact .inr (ke hd hn)
 | [],_,hd,_=>by cases hd
theorem WT.of {ts:List TypeId}{ds:List (DataW H)}(h:(DataW.weightsEach P ts ds).all (·≤reachBytes)=true) {j:Nat}{t:TypeId}{d:DataW H}(ht:ts[j]?=some t) (hd:ds[j]?=some d):WT P t d:=fun n hn=>by simpa using dX.1 h _ (DataW.weights_mem_each ht hd n hn)
def Ww (enc:TypeId×Value→H) (P:Program) (W:World) (e:TypeId) (v:Value):Prop :=
 v=.slice none 0 0∨∃ a len cap,v=.slice (some a) len cap∧len≤cap∧cap≤maxLen∧0<P.cellsOf e∧cap*P.bytesOf e≤reachBytes∧∀ i,i<cap→∃ cs fuel x,W.cells? 0 (a.add (i*P.cellsOf e)) (P.cellsOf e)=some cs∧DataW.trod enc P W 0 (fun _=>true) true fuel e cs=some x∧WT P e x.1
def Gx (enc:TypeId×Value→H) (P:Program) (W:World):oQ→Value→Prop
 | .int k,v=>∃ n,v=.int k n∧(Lit.int k n).wf=true
 | .flt k,v=>∃ n,v=.float k n∧(Lit.float k n).wf=true
 | .bool,v=>∃ b,v=.bool b
 | .str,v=>∃ s,v=.string s∧s.size≤maxLen
 | .Hz e,v=>Ww enc P W e v
def jM (R:oQ→Value→Prop) (ls:List oQ) (vs:List Value):Prop:=vs.length=ls.length∧∀ (i:Nat) (l:oQ) (v:Value),ls[i]?=some l→vs[i]?=some v→R l v
theorem jM.one {R:oQ→Value→Prop}{l:oQ}{v:Value}(h:R l v):jM R [l] [v]:=⟨rfl,fun i l' v' h1 h2=>by
 cases i with
 | zero=>simp at h1 h2;subst h1 h2;exact h
 | succ i=>simp at h1⟩
theorem jM.append {R:oQ→Value→Prop}{l1 l2:List oQ}{v1 v2:List Value}(a:jM R l1 v1) (b:jM R l2 v2):jM R (l1++l2) (v1++v2):=⟨by simp[a.1,b.1],fun i l v h1 h2=>by
 rw[pE]at h1 h2;by_cases hi:i<l1.length;·rw[if_pos hi]at h1;rw[if_pos (by rw[a.1];exact hi)]at h2;exact a.2 i l v h1 h2
 ·rw[if_neg hi]at h1;rw[if_neg (by rw[a.1];exact hi),a.1]at h2;exact b.2 _ l v h1 h2⟩
theorem BX {R:oQ→Value→Prop}{g:TypeId→Option (List oQ)}{sz:TypeId→Nat}{cs:List Value}:∀ (fs:List Field) (off:Nat) (ls:List oQ),Be g sz fs off=some ls →
   (∀ f∈fs,∀ l,g f.type=some l→jM R l ((cs.drop f.offset).take (sz f.type)))→jM R ls ((cs.drop off).take ls.length)
 | [],off,ls,h,_=>by simp only[Be,aS]at h;subst h;exact⟨an,fun i l v h1 _=>by simp at h1⟩
 | f::fs,off,ls,h,hf=>by
   simp only[Be]at h;split at h
   · rename_i l hl;cases hc:(Nat.beq f.offset off&&Nat.beq (sz f.type) l.length) with
     | false=>rw[hc]at h;cases h
     | true =>rw[hc]at h;simp only[cond_true,aY]at h;obtain⟨l2,h2,rfl⟩:=h;simp only[aZ]at hc;have e1:=eY hc.1;have e2:=eY hc.2;have h1:=hf f (eZ ..) l hl;have h3:=BX fs _ l2 h2 fun f' hm=>hf f' (fU _ hm);rw[e1,e2]at h1;have:=h1.append h3;rw[dA,List.take_add,nB];exact this
   · cases h
theorem B_ {R:oQ→Value→Prop}{l:List oQ}:∀ (m:Nat) (cs:List Value),cs.length=m*l.length→(∀ i,i<m→jM R l ((cs.drop (i*l.length)).take l.length))→jM R (rep m l) cs
 | 0,cs,hl,_=>by have:cs=[]:=dq.1 ah;subst this;exact⟨rfl,fun i l' v h1 _=>by simp[rep]at h1⟩
 | m+1,cs,hl,h=>by
   rw[iN,fk]at hl;have h0:=h 0 ah;rw[dO,eh]at h0;have h1:=B_ (R:=R) (l:=l) m (cs.drop l.length) (by rw[kg];omega) fun i hi=>by have:=h (i+1) ah;rw[nB,show l.length+i*l.length=(i+1)*l.length by rw[iN];omega];exact this
   have:=h0.append h1;rw[iE]at this;exact this
theorem yB:∀ (n:Nat) (t:TypeId) (ls:List oQ) (fuel:Nat) (cs:List Value) (x:DataW H×List MemPlace),flat P n t=some ls→DataW.trod enc P W 0 (fun _=>true) true fuel t cs=some x→WT P t x.1→jM (Gx enc P W) ls cs
 | 0,_,_,_,_,_,h,_,_=>by simp[flat]at h
 | n+1,t,ls,fuel,cs,x,h,hd,hw=>by
   simp only[flat]at h;cases hu:P.underlying t with
   | none=>rw[hu]at h;cases h
   | some d =>
     rw[hu]at h
     cases d with
     | int k =>
       simp only[aS]at h;subst h
       obtain⟨m,rfl,_,hw2⟩:=DataW.trod_int hu hd
       exact .one ⟨m,rfl,hw2⟩
     | float k =>
       simp only[aS]at h;subst h
       cases fuel with
       | zero=>simp[DataW.trod]at hd
       | succ f =>
         unfold DataW.trod at hd
         rw[hu]at hd
         split at hd<;>simp_all
         exact .one ⟨_,rfl,hd.1.2⟩
     | bool =>
       simp only[aS]at h;subst h
       cases fuel with
       | zero=>simp[DataW.trod]at hd
       | succ f =>
         unfold DataW.trod at hd
         rw[hu]at hd
         split at hd<;>simp_all
         exact .one ⟨_,rfl⟩
     | string =>
       simp only[aS]at h;subst h
       obtain⟨s,rfl,_,hw2⟩:=DataW.trod_string hu hd
       exact .one ⟨s,rfl,hw2⟩
     | slice e =>
       simp only at h
       cases hp:Nat.blt 0 (P.cellsOf e) with
       | false=>rw[hp]at h;cases h
       | true =>
         rw[hp]at h
         simp only[cond_true,aS]at h;subst h
         rw[blt_eq,decide_eq_true_eq]at hp
         rcases DataW.trod_slice hu hd with ⟨rfl,_⟩|⟨a,len,cap,elems,rest,m,_,rfl,hx,_,h1,h2,h3,h4,h5,_⟩
         · exact .one (.inl rfl)
         · obtain⟨h6,h7⟩:=h5 rfl;subst hx;have wall:∀ y,y∈elems∨y∈rest→WT P e y.1:=fun y hy k hk=>hw k (by
             simp only[DataW.weights,hu,cM,dV];rcases hy with hy|hy;· exact .inr (.inl (ke (bD.2 ⟨y,hy,rfl⟩) hk))
             · exact .inr (.inr (ke (bD.2 ⟨y,hy,rfl⟩) hk)))
           refine .one (.inr ⟨a,len,cap,rfl,h1,h2,hp,?_,fun i hi=>?_⟩);· refine hw _ ?_;simp only[DataW.weights,hu,cM,aI];left;rw[show elems.length+rest.length=cap by omega]
           by_cases hil:i<len;· have:=h4 i hil;rw[bw ah,qD]at this;obtain⟨cs,c1,c2⟩:=this;exact⟨cs,m,_,c1,c2,wall _ (.inl (bG _))⟩
           · have:=h7 (i-len) ah;rw[bw ah,qD,show len+(i-len)=i by omega]at this;obtain⟨cs,c1,c2⟩:=this;exact⟨cs,m,_,c1,c2,wall _ (.inr (bG _))⟩
     | array m e =>
       simp only at h
       split at h
       · rename_i l hl;cases hb:(Nat.beq (P.cellsOf e) l.length&&Nat.beq (P.cellsOf t) (m*l.length)&&Nat.blt 0 l.length) with
         | false=>rw[hb]at h;cases h
         | true =>rw[hb]at h;simp only[cond_true,aS]at h;subst h;simp only[aZ]at hb;have h1:=eY hb.1.1;have h2:=eY hb.1.2;obtain⟨xs,m',_,hx,hlen,hn,hel⟩:=DataW.trod_array hu hd;subst hx;refine B_ m cs (by rw[hlen,h2]) fun i hi=>?_;have:=hel i hi;rw[bw ah,h1]at this;exact yB n e l m' _ _ hl this fun k hk=>hw k (by simp only[DataW.weights,hu];exact ke (bD.2 ⟨_,bG _,rfl⟩) hk)
       · cases h
     | struct fs =>
       simp only at h
       split at h
       · rename_i l hl;cases hb:Nat.beq (P.cellsOf t) l.length with
         | false=>rw[hb]at h;cases h
         | true =>
           rw[hb]at h;simp only[cond_true,aS]at h;subst h;have hlen:=eY hb;obtain⟨xs,m,_,hx,h1,h2,h3⟩:=DataW.trod_struct hu hd;subst hx;have:=BX (R:=Gx enc P W) (cs:=cs) fs.toList 0 l hl fun f hm lf hlf=>by obtain⟨i,hi,e⟩:=eU hm;have:=h3 i f (by rw[← lj,bw hi,e]);rw[bw (by rw[h2];simpa using hi)]at this;exact yB n f.type lf m _ _ hlf this fun k hk=>hw k (by
               simp only[DataW.weights,hu];refine DataW.weights_mem_each (j:=i) (t:=f.type) ?_ ?_ k hk;· rw[ie,bw hi,e];rfl
               · rw[ie,bw (by rw[h2];simpa using hi)];rfl)
           rw[eh,wz ah]at this;exact this
       · cases h
     | _=>cases h
def SlF (a:Option Addr) (len cap:Nat):Prop:=(a=none∧len=0∧cap=0)∨(∃ b off,a=some ⟨b,off,none⟩)∧((len=0∧cap=fb)∨(len≤cap∧cap<bh))
def kS (P:Program) (W:World):Nat→oQ→Value→Prop
 | _,.int k,u=>∃ n,u=.int k n∧(Lit.int k n).wf=true
 | _,.flt k,u=>∃ n,u=.float k n∧(Lit.float k n).wf=true
 | _,.bool,u=>∃ b,u=.bool b
 | _,.str,u=>∃ s,u=.string s∧s.size≤maxLen
 | 0,.Hz e,u=>∃ a len cap,u=.slice a len cap∧len*P.bytesOf e≤reachBytes∧SlF a len cap
 | d+1,.Hz e,u=>∃ a len cap,u=.slice a len cap∧len*P.bytesOf e≤reachBytes∧SlF a len cap∧∀ n ls,flat P n e=some ls→P.cellsOf e=ls.length→∃ rows:List (List Value),rows.length=len∧iz W.heap.size (jo W) a ls.length rows∧∀ r∈rows,jM (kS P W d) ls r
theorem lP {α:Type}{Q:Nat→α→Prop}:∀ (n:Nat),(∀ i,i<n→∃ r,Q i r)→∃ rows:List α,rows.length=n∧∀ i (h:i<rows.length),Q i rows[i]
 | 0,_=>⟨[],rfl,fun i h=>by simp at h⟩
 | n+1,h=>by
   obtain⟨rows,h1,h2⟩:=lP n fun i hi=>h i (vl hi);obtain⟨r,hr⟩:=h n (cK n);refine⟨rows++[r],by simp[h1],fun i hi=>?_⟩;rw[List.getElem_append];by_cases aT:i<rows.length;· rw[dif_pos aT];exact h2 i aT
   · rw[dif_neg aT];have:i=n:=by simp at hi;omega
     subst this;simpa using hr
theorem Kh {a:Addr}{v:Value}(h:W.cell? a=some v):a.block<W.heap.size∧a.spot=none:=by
 unfold World.cell? at h;split at h
 ·rename_i c e f hb;refine⟨(fq.1 hb).1,?_⟩;cases hs:a.spot with
  | none=>rfl
  | some s=>rw[hs]at h;simp at h
 ·cases h
theorem Ul (a:Addr):a.add 0=a:=by simp[Addr.add]
theorem Oz:∀ (d:Nat) (l:oQ) (v:Value),Gx enc P W l v→∃ u,yr W.heap.size v=some u∧kS P W d l u:=by
 intro d;induction d with
 | zero =>
   intro l v h
   cases l with
   | int k=>obtain⟨n,rfl,hw⟩:=h;exact⟨_,rfl,n,rfl,hw⟩
   | flt k=>obtain⟨n,rfl,hw⟩:=h;exact⟨_,rfl,n,rfl,hw⟩
   | bool=>obtain⟨b,rfl⟩:=h;exact⟨_,rfl,b,rfl⟩
   | str=>obtain⟨s,rfl,hw⟩:=h;exact⟨_,rfl,s,rfl,hw⟩
   | Hz e =>
     rcases h with rfl|⟨a,len,cap,rfl,h1,h2,h3,hwt,h4⟩
     · exact⟨_,rfl,none,0,0,rfl,(by rw[dO];exact eX _),.inl ⟨rfl,rfl,rfl⟩⟩
     · by_cases h0:len=0∧cap=0;· obtain⟨rfl,rfl⟩:=h0;exact⟨_,rfl,_,_,_,rfl,(by rw[dO];exact eX _),.inr ⟨⟨_,_,rfl⟩,.inl ⟨rfl,rfl⟩⟩⟩
       · obtain⟨cs,f,x,c1,_,_⟩:=h4 0 ah;obtain⟨_,c2,c3⟩:=World.cells?_some c1;have c4:=c3 0 h3;rw[bw ah]at c4;rw[dO,Ul,Ul]at c4;obtain⟨c5,c6⟩:=Kh c4;have hc:cap<bh:=by unfold bh;unfold maxLen at h2;omega
         refine⟨.slice (some a) len cap,?_,_,_,_,rfl,(bO (AJ _ h1) hwt),.inr ⟨⟨a.block,a.off,by rw[← c6]⟩,.inr ⟨h1,hc⟩⟩⟩;have hk:zB W.heap.size (.slice (some a) len cap)=true:=by simp[zB,c6,blt_eq,c5,hc]
         unfold yr;split;· rename_i e1;cases e1;exact absurd ⟨rfl,rfl⟩ h0
         · rw[hk];rfl
 | succ d ih =>
   intro l v h
   cases l with
   | int k=>obtain⟨n,rfl,hw⟩:=h;exact⟨_,rfl,n,rfl,hw⟩
   | flt k=>obtain⟨n,rfl,hw⟩:=h;exact⟨_,rfl,n,rfl,hw⟩
   | bool=>obtain⟨b,rfl⟩:=h;exact⟨_,rfl,b,rfl⟩
   | str=>obtain⟨s,rfl,hw⟩:=h;exact⟨_,rfl,s,rfl,hw⟩
   | Hz e =>
     rcases h with rfl|⟨a,len,cap,rfl,h1,h2,h3,hwt,h4⟩
     · exact⟨_,rfl,none,0,0,rfl,(by rw[dO];exact eX _),.inl ⟨rfl,rfl,rfl⟩,fun n ls _ _=>⟨[],rfl,fun i hi=>by simp at hi,fun r hr=>by simp at hr⟩⟩
     · by_cases h0:len=0∧cap=0;· obtain⟨rfl,rfl⟩:=h0;exact⟨_,rfl,_,_,_,rfl,(by rw[dO];exact eX _),.inr ⟨⟨_,_,rfl⟩,.inl ⟨rfl,rfl⟩⟩,fun n ls _ _=>⟨[],rfl,fun i hi=>by simp at hi,fun r hr=>by simp at hr⟩⟩
       · have hblk:a.block<W.heap.size∧a.spot=none:=by obtain⟨cs,f,x,c1,_,_⟩:=h4 0 ah;obtain⟨_,c2,c3⟩:=World.cells?_some c1;have c4:=c3 0 h3;rw[bw ah]at c4;rw[dO,Ul,Ul]at c4;exact Kh c4
         obtain⟨c5,c6⟩:=hblk;have hc:cap<bh:=by unfold bh;unfold maxLen at h2;omega
         refine⟨.slice (some a) len cap,?_,_,_,_,rfl,(bO (AJ _ h1) hwt),.inr ⟨⟨a.block,a.off,by rw[← c6]⟩,.inr ⟨h1,hc⟩⟩,fun n ls hf hl=>?_⟩
         · have hc:=hc;have hk:zB W.heap.size (.slice (some a) len cap)=true:=by simp[zB,c6,blt_eq,c5,hc]
           unfold yr;split;· rename_i e1;cases e1;exact absurd ⟨rfl,rfl⟩ h0
           · rw[hk];rfl
         · obtain⟨b,off,spot⟩:=a;simp only at c5 c6;subst c6;have each:∀ i,i<len→∃ row:List Value,av (jo W) ⟨b,off+i*ls.length,none⟩ ls.length=some row∧jM (kS P W d) ls row:=by
             intro i hi;obtain⟨cs,f,x,c1,c2,c3⟩:=h4 i ah;have hlf:=yB n e ls f cs x hf c2 c3;obtain⟨_,k2,k3⟩:=World.cells?_some c1;obtain⟨row,r1,r2⟩:=lP (Q:=fun j u=>∃ l v,ls[j]?=some l∧cs[j]?=some v∧yr W.heap.size v=some u∧kS P W d l u) ls.length fun j hj=>by have e1:ls[j]?=some (ls[j]):=bw hj;have e2:cs[j]?=some (cs[j]'(by have:=hlf.1;omega)):=bw _;obtain⟨u,u1,u2⟩:=ih _ _ (hlf.2 j _ _ e1 e2);exact⟨u,_,_,e1,e2,u1,u2⟩
             refine⟨row,?_,r1,fun j l u hl' hu=>?_⟩;· rw[← r1];refine Dp row _ fun j u hu=>?_;have hj:=(cQ.1 hu).1;obtain⟨l,v,e1,e2,e3,_⟩:=r2 j hj;rw[(cQ.1 hu).2]at e3;refine⟨v,?_,e3⟩;have:=k3 j (by rw[hl,← r1];exact hj);rw[e2]at this;rw[hl,Addr.add_lit,Addr.add_lit]at this;rw[r1];exact this
             · have hj:=(cQ.1 hu).1;obtain⟨l2,v,e1,_,_,e4⟩:=r2 j hj;rw[(cQ.1 hu).2]at e4;rw[hl']at e1;cases e1;exact e4
           obtain⟨rows,r1,r2⟩:=lP len each;refine⟨rows,r1,fun i hi=>⟨b,off,rfl,c5,(r2 i hi).1⟩,fun r hr=>?_⟩;obtain⟨i,hi,rfl⟩:=eU hr;exact(r2 i hi).2
theorem C' {t:TypeId}{v:Value}{d:DataW H}{ps:List MemPlace}{n:Nat}{ls:List oQ}(hf:flat P n t=some ls) (h:DataW.Trod enc P W 0 (fun _=>true) true t v d ps) (hw:WT P t d) (depth:Nat) :
  ∃ us:List Value,jM (kS P W depth) ls us∧eW (sV W.heap.size) us v.cells.toList:=by
 obtain⟨fuel,hd⟩:=h
 have hlf:=yB n t ls fuel _ _ hf hd hw
 obtain⟨us,r1,r2⟩:=lP (Q:=fun j u=>∃ l v',ls[j]?=some l∧v.cells.toList[j]?=some v'∧yr W.heap.size v'=some u∧kS P W depth l u) ls.length fun j hj=>by have e1:ls[j]?=some (ls[j]):=bw hj;have e2:v.cells.toList[j]?=some (v.cells.toList[j]'(by have:=hlf.1;omega)):=bw _;obtain⟨u,u1,u2⟩:=Oz depth _ _ (hlf.2 j _ _ e1 e2);exact⟨u,_,_,e1,e2,u1,u2⟩
 refine⟨us,⟨r1,fun j l u hl' hu=>?_⟩,eW.xv (by rw[r1,hlf.1]) fun j u hu=>?_⟩
 ·have hj:=(cQ.1 hu).1;obtain⟨l2,v,e1,_,_,e4⟩:=r2 j hj;rw[(cQ.1 hu).2]at e4;rw[hl']at e1;cases e1;exact e4
 ·have hj:=(cQ.1 hu).1;obtain⟨l2,v',_,e2,e3,_⟩:=r2 j hj;rw[(cQ.1 hu).2]at e3;exact⟨v',e2,Ka e3⟩
theorem ug (hl:laidOutB P=true) {W':World}(hb:Below W.heap.size W W'):∀ {ts:List TypeId}{vs:List Value}{ds:List (DataW H)}{ps:List MemPlace},(ts.all fun t=>P.readableRec t&&decide (t<P.types.size))=true →
   DataW.TrodAll enc P W 0 (fun _=>true) true ts vs ds ps→(∀ x∈ps,x.block<W.heap.size)→DataW.TrodAll enc P W' 0 (fun b=>decide (b<W.heap.size)) true ts vs ds ps
 | [],[],[],ps,_,h,_=>h
 | t::ts,v::vs,d::ds,ps,ht,h,aT=>by simp only[hY,aZ,decide_eq_true_eq]at ht;obtain⟨p,q,h1,h2,rfl⟩:=h;exact⟨p,q,Below.trod hl ht.1.1 ht.1.2 h1 hb (fun x hx=>aT x (jw _ hx)),ug hl hb ht.2 h2 (fun x hx=>aT x (qg _ hx)),rfl⟩
 | [],_::_,_,_,_,h,_=>h.elim
 | [],[],_::_,_,_,h,_=>h.elim
 | _::_,[],_,_,_,h,_=>h.elim
 | _::_,_::_,[],_,_,h,_=>h.elim
theorem OO (hl:laidOutB P=true) {f:Func}{s:ChangeSpec}{apart fresh handsOn:Bool}{W':World}{args:Array Value}{v:Value}{ds gs:List (DataW H)}{before pargs pvars:List MemPlace}
  (hW:DataW.Whole enc P f.params.toList s.vars apart W args.toList ds gs before)
  (hA:DataW.TrodAll enc P W 0 (fun _=>true) true f.params.toList args.toList ds pargs) (hV:DataW.TrodVars enc P W (fun _=>true) s.vars gs pvars) (hp:before=pargs++pvars)
  (hts:(f.params.toList.all fun t=>P.readableRec t&&decide (t<P.types.size))=true) (hvr:varsRowed P s.vars=true)
  (hres:∀ (b:Nat) (sp:Nat→Bool) (hd:Bool),DataW.TrodAll enc P W' b sp hd f.resultTypes.toList (v.resultList f.resultTypes.size) (s.fn H (ds++gs)).results [])
  (hfa:(s.fn H (ds++gs)).args=ds) (hfv:(s.fn H (ds++gs)).vars=gs)
  (hb:Below W.heap.size W W'):s.post enc P f apart fresh handsOn false W args v W':=by
 have aT:∀ x∈before,x.block<W.heap.size:=fun p hp=>hW.lt p hp
 subst hp
 refine⟨ds,gs,pargs++pvars,[],pargs,pvars,hW,hres _ _ _,?_,?_,hb.frame _,fun h=>by cases h⟩
 ·rw[hfa];exact ug hl hb hts hA fun x hx=>aT x (jw _ hx)
 ·rw[hfv];exact Below.trodVars hl hb hvr hV
end
open Go.RowKit
section
variable {E:Env}{fr:Fr}{h:ak}{K:Value→ak→Prop}{x y:Operand}{t t':TypeId}{c:Bool}{v w:Value}{J:Value→Prop}
end
abbrev Fc:=FuncId→List Value→ak→Option (Option (Value×ak))
section
variable {P:Program}
theorem VR.mI {ρ:Ren}:∀ {v u:Value},lK v=true→VR ρ v u→u=v:=by intro v u h r;cases r<;>first|rfl|(simp[lK]at h)
end
theorem sw:Ieee.double.signWeight=9223372036854775808:=by decide +kernel
end Go.Ev
