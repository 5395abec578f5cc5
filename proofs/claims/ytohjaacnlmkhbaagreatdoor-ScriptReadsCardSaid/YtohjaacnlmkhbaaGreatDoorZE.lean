/- THE EVALUATOR: a deterministic reading of the program's code over an abstract heap, and that the model does what it says (5). Conditions: none beyond each theorem's own. -/
import Derived.Test.YtohjaacnlmkhbaaGreatDoorZD
import Derived.IntWalk
import Derived.ProofKit
import Derived.OpenVars
import Derived.OpenShut
import Derived.SizedLaws
set_option linter.unusedSimpArgs false
set_option linter.unusedVariables false
namespace Go.Ev
structure GO where
 g:Option (Nat×Bool)
 d:Option Nat
 op:Op
inductive GC where
 | skip
 | ops (l:List GO)
 | fZ (l:List (GO×List GO))
 | wC (q az:List (GO×List GO)) (ia:List Op)
 | seq (a b:GC)
 | cond (c:Operand) (a b:GC)
 | block (id:Nat) (a:GC)
 | loop (a:GC)
 | wR (t:Nat) (d:Option Nat) (l:List GO) (rest:GC) (D:List Nat)
 | exit (id:Nat)
 | ret
 | zS (g:Operand) (ps:Array Nat) (a b:Code)
def v8 (all:List Oper):Option (Nat×Bool)→Option (Option (Nat×Bool))
 | none=>some none
 | some (j,w)=>match (nth all j).bind (·.dst) with
   | some d=>some (some (d,w))
   | none=>none
def wK (nt:Nat):Option Nat→Bool
 | none=>true
 | some d=>Nat.blt d nt
def jM (nt:Nat) (all:List Oper) (o:Oper):Option GO :=
 match v8 all o.guard with
 | some g=>cond (wK nt o.dst) (some ⟨g,o.dst,o.op⟩) none
 | none=>none
def wN (nt:Nat) (all:List Oper) (x:Item):Option (GO×List GO) :=
 match (nth all x.i).bind (jM nt all),aA (fun i=>(nth all i).bind (jM nt all)) x.again with
 | some g,some l=>some (g,l)
 | _,_=>none
def j9:List Oper→Bool
 | o0::_=>match o0.op with
   | .next _ false=>true
   | _=>false
 | []=>false
def qT:Code→Bool
 | .seq (.region _ ops false) _=>j9 ops.toList
 | _=>false
def FW (nt:Nat):List Oper→Option (Nat×Option Nat×List GO)
 | []=>none
 | o0::tl=>match o0.op,o0.guard with
   | .next (.tmp t) false,none=>cond ((o0::tl).any fc) none ((aA (jM nt (o0::tl)) tl).map fun l=>(t,o0.dst,l))
   | _,_=>none
def zR (t:Nat) (d:Option Nat):Oper:={ dst:=d,op:=.next (.tmp t) false,type:=0,pos:= "",after:=#[],guard:=none }
def clean (E:Env) (nt:Nat):Code→Option GC
 | .skip=>some .skip
 | .label _=>some .skip
 | .region _ ops false=>cond (ops.toList.any fc) none ((aA (jM nt ops.toList) ops.toList).map .ops)
 | .region _ ops true=>match ug E ops.toList with
   | some pl=>(aA (wN nt ops.toList) pl).map .fZ
   | none=>match mh E ops.toList with
     | some (q,a,z)=>match aA (wN nt ops.toList) q,aA (wN nt ops.toList) (a++z),aA (fun x=>(nth ops.toList x.i).map (·.op)) a with
       | some q',some az,some ia=>some (.wC q' az ia)
       | _,_,_=>none
     | none=>none
 | .seq a b=>match clean E nt a,clean E nt b with|some a,some b=>some (.seq a b)|_,_=>none
 | .cond c a b=>match clean E nt a,clean E nt b with|some a,some b=>some (.cond c a b)|_,_=>none
 | .block id a=>(clean E nt a).map (.block id)
 | .loop (.seq (.region id ops false) rest)=>cond (j9 ops.toList) (match FW nt ops.toList,clean E nt rest with|some (t,d,l),some g=>some (.wR t d l g (Mn ops.toList rest))|_,_=>none) ((clean E nt (.seq (.region id ops false) rest)).map .loop)
 | .loop a=>(clean E nt a).map .loop
 | .scope a=>clean E nt a
 | .exit id=>some (.exit id)
 | .ret=>some .ret
 | .rangeFunc g ps a b=>some (.zS g ps a b)
 | _=>none
def kg (r:Option (Value×Heap)) (K:Value→Heap→Prop):Prop:=∃ v h,r=some (v,h)∧K v h
def dq {α:Type}(r:Option α) (K:α→Prop) [Tok K]:Prop:=∃ v,r=some v∧K v
@[simp] theorem qR {α:Type}(v:α) (K:α→Prop):dq (some v) K↔K v:=by simp[dq]
section
variable (E:Env)
def vp:nZ:=fun _ _ _=>none
def aQ (op:Op):Oper:={ dst:=none,op,type:=0,pos:= "",after:=#[],guard:=none }
def VJ (c:Call):Bool:=match c.callee with|.value (.func f)=>E.qf f|_=>false
def bY (op:Op) (fr:Fr) (h:Heap) (K:Value→Heap→Prop) [Tok K]:Prop :=
 match op with
 | .call c=>match c.callee with
   | .builtin _=>kg (fF E vp fr (aQ op) h) K
   | _=>cond (VJ E c) (kg (fF E vp fr (aQ op) h) K) (match target E fr c with
     | some (f,args)=>@bT E f args h K Tok.mk
     | none=>False)
 | _=>kg (fF E vp fr (aQ op) h) K
def qA (fr:Fr) (d:Option Nat) (v:Value):Fr:=match d with|some d=>fr.set d v|none=>fr
def Ea (g:Option (Nat×Bool)) (fr:Fr) (A B:Prop):Prop :=
 match g with
 | none=>A
 | some (s,w)=>match fr.get s with
   | some (.bool b)=>(b=w→A)∧(b≠w→B)
   | some _=>B
   | none=>False
def fm:List GO→Fr→Heap→(Fr→Heap→Prop)→Prop
 | [],fr,h,Q=>Q fr h
 | x::os,fr,h,Q=>Ea x.g fr (bY E x.op fr h fun v h'=>fm os (qA fr x.d v) h' Q) (fm os (qA fr x.d undef) h Q)
def Bo:List GO→Fr→Heap→Prop
 | [],_,_=>True
 | x::l,fr,h=>Ea x.g fr (∃ v v' d,dP E fr (aQ x.op) h=some v∧x.d=some d∧fr.get d=some v'∧aW 50 v v'=true) True∧Bo l fr h
def eR:List (GO×List GO)→Fr→Heap→(Fr→Heap→Prop)→Prop
 | [],fr,h,Q=>Q fr h
 | (x,ag)::os,fr,h,Q=>Ea x.g fr (bY E x.op fr h fun v h'=>h.n≤h'.n∧Bo E ag (qA fr x.d v) h'∧eR os (qA fr x.d v) h' Q)
   (Bo E ag (qA fr x.d undef) h∧eR os (qA fr x.d undef) h Q)
def ue (B:Fr→Heap→(Ex→Fr→Heap→Prop)→Prop) (Q:Ex→Fr→Heap→Prop) (ex:Ex) (fr:Fr) (h:Heap):Prop :=
 match ex with
 | .normal=>B fr h Q
 | e=>Q e fr h
def iM (id:Nat) (Q:Ex→Fr→Heap→Prop) (ex:Ex) (fr:Fr) (h:Heap):Prop :=
 match ex with
 | .exit j=>Q (cond (Nat.beq j id) .normal (.exit j)) fr h
 | e=>Q e fr h
def tz (R:Fr→Heap→Prop) (Q:Ex→Fr→Heap→Prop) (ex:Ex) (fr:Fr) (h:Heap):Prop :=
 match ex with
 | .normal=>R fr h
 | e=>Q e fr h
def qP (A:Fr→Heap→(Ex→Fr→Heap→Prop)→Prop) (Q:Ex→Fr→Heap→Prop):Nat→Fr→Heap→Prop
 | 0,_,_=>False
 | n+1,fr,h=>A fr h (tz (qP A Q n) Q)
def uX (r:Option Value) (A B:Prop):Prop :=
 match r with
 | some (.bool b)=>(b=true→A)∧(b=false→B)
 | _=>False
def WP (nt:Nat) (rd:Option Nat) (c:Code) (fr:Fr) (h:Heap) (Q:Ex→Fr→Heap→Prop):Prop :=
 ∃ d ex fr' h',code E (dj E d) nt rd c fr h=some (ex,fr',h')∧Q ex fr' h'
def jO (B:Fr→Heap→(Ex→Fr→Heap→Prop)→Prop) (nt:Nat) (M:du) (fr0:Fr) (H:Heap) (e:Value×Value×Nat) (K:Fr→Heap→Prop):Prop :=
 ∃ f,put nt fr0 M.o0 (.tuple #[.bool true,e.1,e.2.1])=some f∧B f (bX H M.r (.iW M.m e.2.2 M.c)) fun ex f3 h3=>ex=.normal∧K f3 h3
def vd (B:Fr→Heap→(Ex→Fr→Heap→Prop)→Prop) (nt:Nat) (M:du) (fr0:Fr) (H:Heap) (Q:Ex→Fr→Heap→Prop):Prop :=
 ∃ f,put nt fr0 M.o0 (.tuple #[.bool false])=some f∧B f (bX H M.r .dead) fun ex f3 h3=>ex≠.normal∧Q ex f3 h3
def wS (B:Fr→Heap→(Ex→Fr→Heap→Prop)→Prop) (nt:Nat) (M:du) (sp:Option Nat) (fr0:Fr) (H:Heap):Prop :=
 ∀ e∈M.es,sp≠some e.2.2→jO B nt M fr0 H e fun f3 h3=>jK M fr0 H (f3,h3)
def lR (B:Fr→Heap→(Ex→Fr→Heap→Prop)→Prop) (nt:Nat) (M:du) (sp:Option Nat) (fr0:Fr) (H:Heap) (Q:Ex→Fr→Heap→Prop):Prop :=
 atR M fr0=true∧wS B nt M sp fr0 H∧match sp with
  | none=>vd B nt M fr0 H Q
  | some s=>∃ e,yJ s M.es=some e∧jO B nt M fr0 H e fun f1 h1=>H.n≤h1.n∧h1.b.get M.m=H.b.get M.m∧atR M (eD fr0 f1 (List.range nt))=true ∧
    wS B nt M sp (eD fr0 f1 (List.range nt)) h1∧vd B nt M (eD fr0 f1 (List.range nt)) h1 Q
def ur (fr:Fr) (t r:Nat) (o:Op):Bool :=
 match o with
 | .insert t' m _ _=>Nat.beq t t'&&match ev E fr m with
   | some (.map (some r'))=>Nat.beq r r'
   | _=>false
 | _=>false
def qm (fr:Fr) (o:Op):Option (Nat×Nat) :=
 match o with
 | .insert t m _ _=>match ev E fr m with
   | some (.map (some r))=>some (t,r)
   | _=>none
 | _=>none
def oO (fr:Fr) (h:Heap):List Op→Bool
 | []=>false
 | x::l=>match qm E fr x with
   | some (t,r)=>iB h r&&(x::l).all (ur E fr t r)
   | none=>false
def GC.wp (nt:Nat) (rd:Option Nat):GC→Fr→Heap→(Ex→Fr→Heap→Prop)→Prop
 | .skip,fr,h,Q=>Q .normal fr h
 | .ops l,fr,h,Q=>fm E l fr h (Q .normal)
 | .fZ l,fr,h,Q=>eR E l fr h (Q .normal)
 | .wC q az ia,fr,h,Q=>eR E q fr h fun fr1 h1=>oO E fr1 h1 ia=true∧eR E az fr1 h1 (Q .normal)
 | .seq a b,fr,h,Q=>a.wp nt rd fr h (ue (b.wp nt rd) Q)
 | .cond c a b,fr,h,Q=>uX (ev E fr c) (a.wp nt rd fr h Q) (b.wp nt rd fr h Q)
 | .block id a,fr,h,Q=>a.wp nt rd fr h (iM id Q)
 | .loop a,fr,h,Q=>∃ n,n≤1000000∧qP (a.wp nt rd) Q n fr h
 | .wR t d l rest D,fr,h,Q=>∃ M sp,gG E [zR t d] fr h=some M∧E.W8 M.es fr h=some sp∧lR (fun fr h Q=>fm E l fr h fun fr h=>rest.wp nt rd fr h Q) nt M sp (dH D fr (List.range nt)) h Q
 | .exit id,fr,h,Q=>Q (.exit id) fr h
 | .ret,fr,h,Q=>Q .ret fr h
 | .zS g ps a b,fr,h,Q=>WP E nt rd (.rangeFunc g ps a b) fr h Q
end
section
variable {E:Env}
theorem HS (c:nZ):mF vp c:=fun _ _ _ _ e=>by cases e
theorem zD {o:Oper}{fr:Fr}{h:Heap}{K:Value→Heap→Prop}(w:bY E o.op fr h K):∃ d v h',fF E (dj E d) fr o h=some (v,h')∧K v h':=by
 have other:kg (fF E vp fr (aQ o.op) h) K→∃ d v h',fF E (dj E d) fr o h=some (v,h')∧K v h':=fun ⟨v,h',e,k⟩ =>
   ⟨0,v,h',uy (HS _) e,k⟩
 unfold bY at w;split at w
 · rename_i c hc;split at w;· exact other w
   · rename_i hb;cases hq:VJ E c with
     | true=>rw[hq]at w;exact other w
     | false =>
     rw[hq,cond_false]at w;split at w
     · rename_i f args ht;obtain⟨d,v,h',e,k⟩:=w;refine⟨d,v,h',?_,k⟩;unfold fF;have hk:kindOf E o.op=.act:=by
         rw[hc];unfold kindOf;simp only;cases hcal:c.callee with
         | builtin b=>exact absurd hcal (hb b)
         | value f =>
           cases f with
           | func g=>unfold VJ at hq;rw[hcal]at hq;simp only at hq;simp only[hq,cond_false]
           | _=>rfl
         | invoke r m=>rfl
       rw[hk];simp only[hc];cases hcal:c.callee with
       | builtin b=>exact absurd hcal (hb b)
       | value f=>simp only[ht];exact e
       | invoke r m=>simp only[ht];exact e
     · exact w.elim
 · exact other w
theorem rF {nt:Nat}{fr:Fr}{o:Oper}{v:Value}(hd:wK nt o.dst=true):put nt fr o v=some (qA fr o.dst v):=by
 unfold Ev.put qA;cases h:o.dst with
 | none=>rfl
 | some d=>rw[h]at hd;simp only[wK]at hd;simp[hd]
theorem ot {nt:Nat}{all:List Oper}{o:Oper}{x:GO}(e:jM nt all o=some x):v8 all o.guard=some x.g∧x.d=o.dst∧x.op=o.op∧wK nt o.dst=true:=by
 unfold jM at e;split at e
 ·rename_i g hg;cases hd:wK nt o.dst with
  | false=>rw[hd]at e;cases e
  | true=>rw[hd]at e;cases e;exact⟨hg,rfl,rfl,rfl⟩
 ·cases e
theorem ss {all:List Oper}{fr:Fr}{o:Oper}{g:Option (Nat×Bool)}{A B:Prop}(hg:v8 all o.guard=some g) (w:Ea g fr A B) :
   (cz all fr o=some true∧A)∨(cz all fr o=some false∧B):=by
 unfold cz
 cases ho:o.guard with
 | none =>
   rw[ho]at hg;simp only[v8,Option.some.injEq]at hg;subst hg
   exact .inl ⟨rfl,w⟩
 | some p =>
   obtain⟨j,b⟩:=p
   rw[ho]at hg
   simp only[v8]at hg
   split at hg
   · rename_i d hd;cases hg;simp only[Ea]at w;simp only[hd];split at w
     · rename_i b' hb;by_cases hx:b'=b;· subst hx;exact .inl ⟨by rw[hb];simp,w.1 rfl⟩
       · exact .inr ⟨by rw[hb];simp[hx],w.2 hx⟩
     · rename_i v hv hno;refine .inr ⟨?_,w⟩;rw[hno];cases v with
       | bool b'=>exact absurd rfl (hv b')
       | _=>rfl
     · exact w.elim
   · cases hg
theorem mU {nt:Nat}{all:List Oper}:∀ (os:List Oper) (l:List GO) {fr:Fr}{h:Heap}{Q:Fr→Heap→Prop},aA (jM nt all) os=some l→fm E l fr h Q →
   ∃ d fr' h',cu E (dj E d) nt all os fr h=some (fr',h')∧Q fr' h'
 | [],l,fr,h,Q,hl,w=>by simp only[aA,Option.some.injEq]at hl;subst hl;exact⟨0,fr,h,rfl,w⟩
 | o::os,l,fr,h,Q,hl,w=>by
   obtain⟨x,xs,h1,h2,rfl⟩:=ik hl;obtain⟨e1,e2,e3,e4⟩:=ot h1;simp only[fm,e3]at w;rcases ss e1 w with ⟨hw,w⟩|⟨hw,w⟩;· obtain⟨d1,v,h',e,k⟩:=zD w;obtain⟨d2,fr',h'',e',q⟩:=mU os xs h2 k;refine⟨max d1 d2,fr',h'',?_,q⟩;have e:=uy (cF (E:=E) (Nat.le_max_left d1 d2)) e;have e':=gJ (cF (E:=E) (Nat.le_max_right d1 d2)) _ e';rw[e2]at e';simp only[cu,step,hw,e,rF e4,Option.map_some];exact e'
   · obtain⟨d2,fr',h'',e',q⟩:=mU os xs h2 w;refine⟨d2,fr',h'',?_,q⟩;rw[e2]at e';simp only[cu,step,hw,rF e4,Option.map_some];exact e'
theorem r9 {nt:Nat}{all:List Oper}{fr:Fr}{h:Heap}:∀ (is:List Nat) (l:List GO),aA (fun i=>(nth all i).bind (jM nt all)) is=some l→Bo E l fr h→fW E all fr h is=true
 | [],l,hl,w=>rfl
 | i::is,l,hl,w=>by
   obtain⟨x,xs,h1,h2,rfl⟩:=ik hl;simp only[Option.bind_eq_some_iff]at h1;obtain⟨o,ho,h1⟩:=h1;obtain⟨e1,e2,e3,e4⟩:=ot h1;obtain⟨w1,w2⟩:=w;simp only[fW,ho,r9 is xs h2 w2,Bool.and_true];rcases ss e1 w1 with ⟨hw,w⟩|⟨hw,w⟩;· obtain⟨v,v',d,k1,k2,k3,k4⟩:=w;rw[e3]at k1;have k1:dP E fr o h=some v:=k1;rw[← e2,k2];simp only[hw,k1,Option.bind_some,k3,k4]
   · simp only[hw]
theorem jD {nt:Nat}{all:List Oper}:∀ (os:List Item) (l:List (GO×List GO)) {fr:Fr}{h:Heap}{Q:Fr→Heap→Prop},aA (wN nt all) os=some l→eR E l fr h Q →
   ∃ d fr' h',ay E (dj E d) nt all os fr h=some (fr',h')∧Q fr' h'
 | [],l,fr,h,Q,hl,w=>by simp only[aA,Option.some.injEq]at hl;subst hl;exact⟨0,fr,h,rfl,w⟩
 | y::os,l,fr,h,Q,hl,w=>by
   obtain⟨x,xs,h1,h2,rfl⟩:=ik hl;unfold wN at h1;split at h1
   · rename_i g ag hg hag;cases h1;simp only[Option.bind_eq_some_iff]at hg;obtain⟨o,ho,hg⟩:=hg;obtain⟨e1,e2,e3,e4⟩:=ot hg;simp only[eR,e3]at w;rcases ss e1 w with ⟨hw,w⟩|⟨hw,w⟩;· obtain⟨d1,v,h',e,k1,k2,k⟩:=zD w;obtain⟨d2,fr',h'',e',q⟩:=jD os xs h2 k;refine⟨max d1 d2,fr',h'',?_,q⟩;have e:=uy (cF (E:=E) (Nat.le_max_left d1 d2)) e;have e':=fA (cF (E:=E) (Nat.le_max_right d1 d2)) _ e';have hn:Nat.ble h.n h'.n=true:=Nat.ble_eq_true_of_le k1;rw[e2]at e' k2;simp only[ay,ho,step,hw,e,rF e4,Option.map_some,hn,r9 _ _ hag k2,Bool.and_self,cond_true];exact e'
     · obtain⟨k2,k⟩:=w;obtain⟨d2,fr',h'',e',q⟩:=jD os xs h2 k;refine⟨d2,fr',h'',?_,q⟩;have hn:Nat.ble h.n h.n=true:=Nat.ble_eq_true_of_le (Nat.le_refl _);rw[e2]at e' k2;simp only[ay,ho,step,hw,rF e4,Option.map_some,hn,r9 _ _ hag k2,Bool.and_self,cond_true];exact e'
   · cases h1
theorem wu {ops:List Oper}{fr:Fr}{t r:Nat}:∀ {a:List Item}{ia:List Op},aA (fun x=>(nth ops x.i).map (·.op)) a=some ia →
   (a.all fun y=>match nth ops y.i with|some o=>Ef E fr t r o|none=>false)=ia.all (ur E fr t r)
 | [],ia,h=>by simp only[aA,Option.some.injEq]at h;subst h;rfl
 | x::a,ia,h=>by obtain⟨o,l,h1,h2,rfl⟩:=ik h;simp only[Option.map_eq_some_iff]at h1;obtain⟨o',h1,rfl⟩:=h1;simp only[List.all_cons,wu h2,h1];rfl
theorem DO {ops:List Oper}{fr:Fr}{h:Heap}{a:List Item}{ia:List Op}(hm:aA (fun x=>(nth ops x.i).map (·.op)) a=some ia):nY E ops fr h a=oO E fr h ia:=by
 cases a with
 | nil=>simp only[aA,Option.some.injEq]at hm;subst hm;rfl
 | cons x a =>
   have hm0:=hm
   obtain⟨o,l,h1,h2,rfl⟩:=ik hm
   simp only[Option.map_eq_some_iff]at h1
   obtain⟨o',h1,rfl⟩:=h1
   have e:Pv E fr (nth ops x.i)=qm E fr o'.op:=by rw[h1];rfl
   simp only[nY,oO,e]
   cases qm E fr o'.op with
   | none=>rfl
   | some p=>exact congrArg (iB h p.2&&·) (wu hm0)
theorem zG {f:Fr→Heap→Option (Ex×Fr×Heap)}:∀ (n m:Nat) (fr:Fr) (h:Heap) (r:Ex×Fr×Heap),n≤m→iter f n fr h=some r→iter f m fr h=some r
 | 0,_,_,_,_,_,e=>by simp[iter]at e
 | n+1,0,_,_,_,hm,_=>by omega
 | n+1,m+1,fr,h,r,hm,e=>by
   simp only[iter]at e ⊢;cases hf:f fr h with
   | none=>rw[hf]at e;cases e
   | some p =>
     rw[hf]at e
     obtain⟨ex,fr',h'⟩:=p
     cases ex with
     | normal=>exact zG n m _ _ _ (by omega) e
     | exit id=>exact e
     | ret=>exact e
theorem rV {b:Nat→Fr→Heap→Option (Ex×Fr×Heap)}{B:Fr→Heap→(Ex→Fr→Heap→Prop)→Prop}{nt:Nat}{M:du}(hB:∀ fr h Q,B fr h Q→∃ d ex fr' h',b d fr h=some (ex,fr',h')∧Q ex fr' h') {fr0:Fr}{H:Heap}{e:Value×Value×Nat}{K:Fr→Heap→Prop}
  (w:jO B nt M fr0 H e K):∃ d f1 h1,fS (b d) nt M fr0 H e=some (f1,h1)∧K f1 h1:=by
 obtain⟨f,hp,w⟩:=w
 obtain⟨d,ex,f3,h3,e1,rfl,q⟩:=hB _ _ _ w
 exact⟨d,f3,h3,by simp only[fS,hp,e1],q⟩
theorem wI {b:Nat→Fr→Heap→Option (Ex×Fr×Heap)}{B:Fr→Heap→(Ex→Fr→Heap→Prop)→Prop}{nt:Nat}{M:du}(hB:∀ fr h Q,B fr h Q→∃ d ex fr' h',b d fr h=some (ex,fr',h')∧Q ex fr' h') {fr0:Fr}{H:Heap}{Q:Ex→Fr→Heap→Prop}
  (w:vd B nt M fr0 H Q):∃ d ex f1 h1,rh (b d) nt M fr0 H=some (ex,f1,h1)∧Q ex f1 h1:=by
 obtain⟨f,hp,w⟩:=w
 obtain⟨d,ex,f3,h3,e1,hne,q⟩:=hB _ _ _ w
 refine⟨d,ex,f3,h3,?_,q⟩
 simp only[rh,hp,e1]
 cases ex with
 | normal=>exact absurd rfl hne
 | exit i=>rfl
 | ret=>rfl
theorem qE {b:Nat→Fr→Heap→Option (Ex×Fr×Heap)}{B:Fr→Heap→(Ex→Fr→Heap→Prop)→Prop}{nt:Nat}{M:du}(hm:∀ d d',d≤d'→∀ fr h r,b d fr h=some r→b d' fr h=some r) (hB:∀ fr h Q,B fr h Q→∃ d ex fr' h',b d fr h=some (ex,fr',h')∧Q ex fr' h')
   {sp:Option Nat}{fr0:Fr}{H:Heap}(w:wS B nt M sp fr0 H):∃ d,ME (b d) nt M sp fr0 H:=by
 have key:∀ l:List (Value×Value×Nat),(∀ e∈l,sp≠some e.2.2→jO B nt M fr0 H e fun f3 h3=>jK M fr0 H (f3,h3))→∃ d,∀ e∈l,sp≠some e.2.2→∃ p,fS (b d) nt M fr0 H e=some p∧jK M fr0 H p:=by
   intro l;induction l with
   | nil=>intro _;exact⟨0,fun e he=>by cases he⟩
   | cons x l ih =>
     intro hw
     obtain⟨d,hd⟩:=ih fun e he=>hw e (List.mem_cons_of_mem _ he)
     by_cases hx:sp=some x.2.2
     · exact⟨d,fun e he hne=>by
         rcases List.mem_cons.1 he with rfl|he;· exact absurd hx hne
         · exact hd e he hne⟩
     · obtain⟨d2,f1,h1,e1,q⟩:=rV hB (hw x List.mem_cons_self hx);refine⟨max d d2,fun e he hne=>?_⟩;rcases List.mem_cons.1 he with rfl|he;· exact⟨_,jg (hm _ _ (Nat.le_max_right d d2)) e1,q⟩
       · obtain⟨p,h1,h2⟩:=hd e he hne;exact⟨p,jg (hm _ _ (Nat.le_max_left d d2)) h1,h2⟩
 exact key M.es w
theorem Bz {b:Nat→Fr→Heap→Option (Ex×Fr×Heap)}{B:Fr→Heap→(Ex→Fr→Heap→Prop)→Prop}{nt:Nat}{M:du}(hm:∀ d d',d≤d'→∀ fr h r,b d fr h=some r→b d' fr h=some r) (hB:∀ fr h Q,B fr h Q→∃ d ex fr' h',b d fr h=some (ex,fr',h')∧Q ex fr' h')
   {sp:Option Nat}{fr0:Fr}{H:Heap}{Q:Ex→Fr→Heap→Prop}(w:lR B nt M sp fr0 H Q):∃ d ex fr' h',lF (b d) nt M sp fr0 H=some (ex,fr',h')∧Q ex fr' h':=by
 obtain⟨hat,hq,w⟩:=w
 obtain⟨d1,hq⟩:=qE hm hB hq
 cases sp with
 | none =>
   obtain⟨d2,ex,f1,h1,e,q⟩:=wI hB w
   refine⟨max d1 d2,ex,f1,h1,?_,q⟩
   unfold lF
   rw[if_pos ⟨hat,qF (hm _ _ (Nat.le_max_left d1 d2)) hq⟩]
   exact oX (hm _ _ (Nat.le_max_right d1 d2)) e
 | some s =>
   obtain⟨e0,hf,w⟩:=w
   obtain⟨d2,f1,h1,e1,c1,c2,c3,w,we⟩:=rV hB w
   obtain⟨d3,hq2⟩:=qE hm hB w
   obtain⟨d4,ex,f4,h4,e4,q⟩:=wI hB we
   refine⟨max (max d1 d2) (max d3 d4),ex,f4,h4,?_,q⟩
   have l1:d1≤max (max d1 d2) (max d3 d4):=by omega
   have l2:d2≤max (max d1 d2) (max d3 d4):=by omega
   have l3:d3≤max (max d1 d2) (max d3 d4):=by omega
   have l4:d4≤max (max d1 d2) (max d3 d4):=by omega
   unfold lF
   rw[if_pos ⟨hat,qF (hm _ _ l1) hq⟩]
   simp only[hf,jg (hm _ _ l2) e1]
   rw[if_pos ⟨c1,c2,c3,qF (hm _ _ l3) hq2⟩]
   exact oX (hm _ _ l4) e4
theorem Q3 {B:Fr→Heap→(Ex→Fr→Heap→Prop)→Prop}{nt t:Nat}{d:Option Nat}{l:List GO}{ops:List Oper}{fr:Fr}{h:Heap}{M':du}(hc:FW nt ops=some (t,d,l)) (hM:gG E [zR t d] fr h=some M') {sp:Option Nat}{fr0:Fr}{Q:Ex→Fr→Heap→Prop}(w:lR B nt M' sp fr0 h Q) :
   ∃ M,gG E ops fr h=some M∧aA (jM nt ops) M.tail=some l∧M.es=M'.es∧lR B nt M sp fr0 h Q:=by
 unfold FW at hc
 split at hc
 · cases hc
 rename_i o0 tl
 split at hc
 · rename_i t' kR SZ;cases hdf:(o0::tl).any fc with
   | true=>rw[hdf]at hc;cases hc
   | false =>
     rw[hdf,cond_false,Option.map_eq_some_iff]at hc;obtain⟨l',hl,hq⟩:=hc;simp only[Prod.mk.injEq]at hq;obtain⟨rfl,rfl,rfl⟩:=hq;have hd1:([{ dst:=o0.dst,op:=.next (.tmp t') false,type:=0,pos:= "",after:=#[],guard:=none }]:List Oper).any fc=false:=rfl;have hM2:gG E (o0::tl) fr h=some { M' with o0:=o0,tail:=tl }∧M'.o0.dst=o0.dst:=by
       simp only[gG,kR,SZ,hdf,hd1,zR]at hM ⊢;split at hM
       · split at hM
         · split at hM;· obtain⟨hcc,hM⟩:=lY hM;rw[hcc,cond_true];simp only[Option.some.injEq]at hM;subst hM;exact⟨rfl,rfl⟩
           · cases hM
         · cases hM
       · cases hM
     have hp:∀ f v,put nt f M'.o0 v=put nt f o0 v:=fun f v=>by unfold put;rw[hM2.2]
     refine⟨_,hM2.1,hl,rfl,?_⟩;simp only[lR,wS,jO,vd,jK,atR,hp]at w ⊢;exact w
 · cases hc
theorem AM {ops:List Oper}{fr:Fr}{h:Heap}(hn:∀ o0 tail x,ops=o0::tail→o0.op≠.next x false):gG E ops fr h=none:=by
 unfold gG;split;·rfl
 ·rename_i o0 tail;split;·rename_i t ho _;exact absurd ho (hn o0 tail _ rfl)
  ·rfl
theorem HU {call:nZ}{nt:Nat}{rd:Option Nat}{b:Code}{fr:Fr}{h:Heap}(hn:qT b=false):code E call nt rd (.loop b) fr h=iter (code E call nt rd b) 1000000 fr h:=by
 cases b with
 | seq x y=>cases x with
   | region id ops dr=>cases dr with
     | true=>simp only[code]
     | false =>
       simp only[code]
       rw[AM]
       intro o0 tail x e1 e2
       simp only[qT,j9,e1,e2]at hn
       cases hn
   | _=>simp only[code]
 | _=>simp only[code]
theorem GC.iD {nt:Nat}{rd:Option Nat}:∀ (c:Code) (g:GC) {fr:Fr}{h:Heap}{Q:Ex→Fr→Heap→Prop},clean E nt c=some g→g.wp E nt rd fr h Q→WP E nt rd c fr h Q
 | .skip,g,fr,h,Q,hg,w=>by simp only[clean,Option.some.injEq]at hg;subst hg;exact⟨0,_,_,_,rfl,w⟩
 | .label _,g,fr,h,Q,hg,w=>by simp only[clean,Option.some.injEq]at hg;subst hg;exact⟨0,_,_,_,rfl,w⟩
 | .exit _,g,fr,h,Q,hg,w=>by simp only[clean,Option.some.injEq]at hg;subst hg;exact⟨0,_,_,_,rfl,w⟩
 | .ret,g,fr,h,Q,hg,w=>by simp only[clean,Option.some.injEq]at hg;subst hg;exact⟨0,_,_,_,rfl,w⟩
 | .region _ os false,g,fr,h,Q,hg,w=>by
   simp only[clean]at hg;cases hdf:os.toList.any fc with
   | true=>rw[hdf]at hg;cases hg
   | false =>
   rw[hdf]at hg;simp only[cond_false,Option.map_eq_some_iff]at hg;obtain⟨l,hl,rfl⟩:=hg;obtain⟨d,fr',h',e,q⟩:=mU (nt:=nt) _ _ hl w;exact⟨d,_,fr',h',by simp only[code,hdf,cond_false,e,Option.map_some],q⟩
 | .region _ os true,g,fr,h,Q,hg,w=>by
   simp only[clean]at hg;split at hg;· rename_i pl hpl;simp only[Option.map_eq_some_iff]at hg;obtain⟨l,hl,rfl⟩:=hg;obtain⟨d,fr',h',e,q⟩:=jD (nt:=nt) _ _ hl w;exact⟨d,_,fr',h',by simp only[code,hpl,e,Option.map_some],q⟩
   · rename_i hpl;split at hg
     · rename_i q a z hpi;split at hg;· rename_i q' az ia hq haz hia;simp only[Option.some.injEq]at hg;subst hg;obtain⟨d1,fr1,h1,e1,hall,w⟩:=jD (nt:=nt) _ _ hq w;obtain⟨d2,fr',h',e2,k⟩:=jD (nt:=nt) _ _ haz w;refine⟨max d1 d2,_,fr',h',?_,k⟩;have e1:=fA (cF (E:=E) (Nat.le_max_left d1 d2)) _ e1;have e2:=fA (cF (E:=E) (Nat.le_max_right d1 d2)) _ e2;rw[← DO hia]at hall;simp only[code,hpl,hpi,e1,hall,cond_true,e2,Option.map_some]
       · cases hg
     · cases hg
 | .seq a b,g,fr,h,Q,hg,w=>by
   simp only[clean]at hg;split at hg
   · rename_i ga gb ha hb;cases hg;obtain⟨d,ex,fr',h',e,q⟩:=GC.iD a ga ha w;cases ex with
     | normal =>obtain⟨d2,ex2,fr2,h2,e2,q2⟩:=GC.iD b gb hb q;refine⟨max d d2,ex2,fr2,h2,?_,q2⟩;simp only[code,j7 (cF (E:=E) (Nat.le_max_left d d2)) _ _ _ _ e];exact j7 (cF (E:=E) (Nat.le_max_right d d2)) _ _ _ _ e2
     | exit id=>exact⟨d,_,fr',h',by simp only[code,e],q⟩
     | ret=>exact⟨d,_,fr',h',by simp only[code,e],q⟩
   · cases hg
 | .cond c a b,g,fr,h,Q,hg,w=>by
   simp only[clean]at hg;split at hg
   · rename_i ga gb ha hb;cases hg;simp only[GC.wp,uX]at w;split at w
     · rename_i bb hc;cases bb with
       | true =>obtain⟨d,ex,fr',h',e,q⟩:=GC.iD a ga ha (w.1 rfl);exact⟨d,ex,fr',h',by simp only[code,hc,e],q⟩
       | false =>obtain⟨d,ex,fr',h',e,q⟩:=GC.iD b gb hb (w.2 rfl);exact⟨d,ex,fr',h',by simp only[code,hc,e],q⟩
     · exact w.elim
   · cases hg
 | .block id a,g,fr,h,Q,hg,w=>by
   simp only[clean,Option.map_eq_some_iff]at hg;obtain⟨ga,ha,rfl⟩:=hg;obtain⟨d,ex,fr',h',e,q⟩:=GC.iD a ga ha w;cases ex with
   | normal=>exact⟨d,_,fr',h',by simp only[code,e],q⟩
   | exit j=>exact⟨d,_,fr',h',by simp only[code,e],q⟩
   | ret=>exact⟨d,_,fr',h',by simp only[code,e],q⟩
 | .loop a,g,fr,h,Q,hg,w=>by
   by_cases hb:∃ id ops rest,a=.seq (.region id ops false) rest∧j9 ops.toList=true
   · obtain⟨id,ops,rest,rfl,hh⟩:=hb;simp only[clean,hh,cond_true]at hg;split at hg
     · rename_i t d0 l ga hl hga;cases hg;obtain⟨M',sp,hM',hsp',w⟩:=w;obtain⟨M,hM,hl',hes,w⟩:=Q3 hl hM' w;have hsp:E.W8 M.es fr h=some sp:=by rw[hes];exact hsp'
       obtain⟨d,ex,fr',h',e,q⟩:=Bz (b:=fun d fr h=>match cu E (dj E d) nt ops.toList M.tail fr h with|some (fr,h)=>code E (dj E d) nt rd rest fr h|none=>none)
         (fun d d' hd fr h r e=>by
           split at e;· rename_i f1 h1 e1;rw[gJ (cF hd) _ e1];exact j7 (cF hd) _ _ _ _ e
           · cases e)
         (fun fr h Q w=>by obtain⟨d,f1,h1,e1,q⟩:=mU _ _ hl' w;obtain⟨d2,ex,fr',h',e2,q2⟩:=GC.iD rest ga hga q;refine⟨max d d2,ex,fr',h',?_,q2⟩;simp only[gJ (cF (Nat.le_max_left d d2)) _ e1];exact j7 (cF (Nat.le_max_right d d2)) _ _ _ _ e2) w
       exact⟨d,ex,fr',h',by simp only[code,hM,hsp];exact e,q⟩
     · cases hg
   have hsub:∃ ga,clean E nt a=some ga∧g=.loop ga∧qT a=false:=by
     by_cases hb2:∃ id ops rest,a=.seq (.region id ops false) rest
     · obtain⟨id,ops,rest,rfl⟩:=hb2;have hh:j9 ops.toList=false:=by
         cases hc:j9 ops.toList with
         | true=>exact absurd ⟨id,ops,rest,rfl,hc⟩ hb
         | false=>rfl
       rw[clean,hh,cond_false,Option.map_eq_some_iff]at hg;obtain⟨ga,h1,rfl⟩:=hg;exact⟨ga,h1,rfl,hh⟩
     · have e':clean E nt (.loop a)=(clean E nt a).map .loop∧qT a=false:=by
         cases a with
         | seq x y=>cases x with
           | region id ops dr=>cases dr with
             | true=>exact⟨by simp only[clean],rfl⟩
             | false=>exact absurd ⟨_,_,_,rfl⟩ hb2
           | _=>exact⟨by simp only[clean],rfl⟩
         | _=>exact⟨by simp only[clean],rfl⟩
       rw[e'.1,Option.map_eq_some_iff]at hg;obtain⟨ga,h1,rfl⟩:=hg;exact⟨ga,h1,rfl,e'.2⟩
   obtain⟨ga,ha,rfl,hhn⟩:=hsub;obtain⟨n,hn,w⟩:=w;have hs:∀ {fr h Q},ga.wp E nt rd fr h Q→WP E nt rd a fr h Q:=fun w=>GC.iD a ga ha w;have key:∀ n fr h,qP (ga.wp E nt rd) Q n fr h→∃ d ex fr' h',iter (code E (dj E d) nt rd a) n fr h=some (ex,fr',h')∧Q ex fr' h':=by
     intro n;induction n with
     | zero=>intro fr h w;exact w.elim
     | succ n ih =>
       intro fr h w
       obtain⟨d,ex,fr',h',e,q⟩:=hs w
       cases ex with
       | normal =>
         obtain⟨d2,ex2,fr2,h2,e2,q2⟩:=ih _ _ q
         refine⟨max d d2,ex2,fr2,h2,?_,q2⟩
         simp only[iter,j7 (cF (E:=E) (Nat.le_max_left d d2)) _ _ _ _ e]
         exact uq (fun fr h r=>j7 (cF (E:=E) (Nat.le_max_right d d2)) a fr h r) _ _ _ _ e2
       | exit id=>exact⟨d,_,fr',h',by simp only[iter,e],q⟩
       | ret=>exact⟨d,_,fr',h',by simp only[iter,e],q⟩
   obtain⟨d,ex,fr',h',e,q⟩:=key n fr h w;exact⟨d,ex,fr',h',by rw[HU hhn];exact zG _ _ _ _ _ hn e,q⟩
 | .scope a,g,fr,h,Q,hg,w=>by simp only[clean]at hg;obtain⟨d,ex,fr',h',e,q⟩:=GC.iD a g hg w;exact⟨d,ex,fr',h',by simp only[code,e],q⟩
 | .rangeFunc ..,g,fr,h,Q,hg,w=>by simp only[clean,Option.some.injEq]at hg;subst hg;exact w
 | .goto ..,g,fr,h,Q,hg,w=>by simp[clean]at hg
 | .refuse ..,g,fr,h,Q,hg,w=>by simp[clean]at hg
theorem Ea.mono {g:Option (Nat×Bool)}{fr:Fr}{A A' B B':Prop}(w:Ea g fr A B) (ha:A→A') (hb:B→B'):Ea g fr A' B':=by
 unfold Ea at w ⊢;split at w;·exact ha w
 ·split at w;·exact⟨fun e=>ha (w.1 e),fun e=>hb (w.2 e)⟩
  ·exact hb w
  ·exact w
theorem bY.mono {op:Op}{fr:Fr}{h:Heap}{K K':Value→Heap→Prop}(w:bY E op fr h K) (k:∀ v h',K v h'→K' v h'):bY E op fr h K':=by
 have other:∀ {r},kg r K→kg r K':=fun ⟨v,h',e,q⟩=>⟨v,h',e,k _ _ q⟩;unfold bY at w ⊢;split at w
 · rename_i c;split at w;· exact other w
   · cases hq:VJ E c with
     | true=>rw[hq]at w;exact other w
     | false =>
       rw[hq]at w
       rw[cond_false]at w ⊢
       split at w
       · exact w.mono k
       · exact w
 · exact other w
def OP (d:Option Nat) (t:Nat):Bool:=match d with|some d=>Nat.beq d t|none=>false
def UF (l:List GO) (t:Nat):Bool:=l.any fun x=>OP x.d t
def GC.wr:GC→Nat→Bool
 | .skip,_=>false
 | .ops l,t=>UF l t
 | .fZ l,t=>UF (l.map (·.1)) t
 | .wC q az _,t=>UF (q.map (·.1)) t || UF (az.map (·.1)) t
 | .seq a b,t=>a.wr t || b.wr t
 | .cond _ a b,t=>a.wr t || b.wr t
 | .block _ a,t=>a.wr t
 | .loop a,t=>a.wr t
 | .wR ..,_=>true
 | .exit _,_=>false
 | .ret,_=>false
 | .zS ..,_=>false
theorem CI {fr:Fr}{d:Option Nat}{v:Value}{t:Nat}(h:OP d t=false):(qA fr d v).get t=fr.get t:=by
 unfold qA;cases d with
 | none=>rfl
 | some d=>exact T.ar _ _ (by intro e;subst e;simp[OP]at h)
theorem fm.mono:∀ (l:List GO) {fr:Fr}{h:Heap}{Q Q':Fr→Heap→Prop},fm E l fr h Q→(∀ fr' h',(∀ t,UF l t=false→fr'.get t=fr.get t)→Q fr' h'→Q' fr' h')→fm E l fr h Q'
 | [],fr,h,Q,Q',w,k=>k fr h (fun _ _=>rfl) w
 | x::os,fr,h,Q,Q',w,k=>by have st:∀ v h',fm E os (qA fr x.d v) h' Q→fm E os (qA fr x.d v) h' Q':=fun v h' w=>fm.mono os w fun fr' h'' hk q=>k fr' h'' (fun t ht=>by simp only[UF,List.any_cons,Bool.or_eq_false_iff]at ht;rw[hk t ht.2,CI ht.1]) q;exact Ea.mono w (fun w=>bY.mono w fun v h'=>st v h') (st _ _)
theorem eR.mono:∀ (l:List (GO×List GO)) {fr:Fr}{h:Heap}{Q Q':Fr→Heap→Prop},eR E l fr h Q→(∀ fr' h',(∀ t,UF (l.map (·.1)) t=false→fr'.get t=fr.get t)→Q fr' h'→Q' fr' h')→eR E l fr h Q'
 | [],fr,h,Q,Q',w,k=>k fr h (fun _ _=>rfl) w
 | (x,ag)::os,fr,h,Q,Q',w,k=>by have st:∀ v h',eR E os (qA fr x.d v) h' Q→eR E os (qA fr x.d v) h' Q':=fun v h' w=>eR.mono os w fun fr' h'' hk q=>k fr' h'' (fun t ht=>by simp only[UF,List.map_cons,List.any_cons,Bool.or_eq_false_iff]at ht;rw[hk t ht.2,CI ht.1]) q;exact Ea.mono w (fun w=>bY.mono w fun v h' hh=>⟨hh.1,hh.2.1,st v h' hh.2.2⟩) (fun hh=>⟨hh.1,st _ _ hh.2⟩)
theorem Dt {h:Heap}{l:Nat}{fr fr':Fr}{ex:Ex}{h':Heap}(e:nz h l fr=some (ex,fr',h')):fr'=fr:=by unfold nz at e;split at e<;>first|(cases e;done)|(simp only[Option.some.injEq,Prod.mk.injEq]at e;exact e.2.1.symm)
theorem zY {call:nZ}{nt:Nat}{rd:Option Nat}{g:Operand}{ps:Array Nat}{a b:Code}{fr fr':Fr}{h h':Heap}{ex:Ex}(e:code E call nt rd (.rangeFunc g ps a b) fr h=some (ex,fr',h')):fr'=fr:=by
 simp only[code]at e;cases hin:inRound h rd with
 | false=>rw[hin]at e;cases e
 | true =>
   rw[hin]at e
   simp only[cond_true]at e
   split at e
   · split at e;· cases e
     · split at e;· exact Dt e
       · cases e
   · cases e
theorem vd.mono {B:Fr→Heap→(Ex→Fr→Heap→Prop)→Prop}{nt:Nat}{M:du}{fr0:Fr}{H:Heap}{Q Q':Ex→Fr→Heap→Prop}(hB:∀ {fr h Q Q'},B fr h Q→(∀ ex fr' h',Q ex fr' h'→Q' ex fr' h')→B fr h Q') (w:vd B nt M fr0 H Q) (k:∀ ex fr' h',Q ex fr' h'→Q' ex fr' h'):vd B nt M fr0 H Q' :=
 let ⟨f,h1,h2⟩:=w;⟨f,h1,hB h2 fun _ _ _ hh=>⟨hh.1,k _ _ _ hh.2⟩⟩
theorem jO.mono {B:Fr→Heap→(Ex→Fr→Heap→Prop)→Prop}{nt:Nat}{M:du}{fr0:Fr}{H:Heap}{e:Value×Value×Nat}{K K':Fr→Heap→Prop}(hB:∀ {fr h Q Q'},B fr h Q→(∀ ex fr' h',Q ex fr' h'→Q' ex fr' h')→B fr h Q') (w:jO B nt M fr0 H e K) (k:∀ fr' h',K fr' h'→K' fr' h'):jO B nt M fr0 H e K' :=
 let ⟨f,h1,h2⟩:=w;⟨f,h1,hB h2 fun _ _ _ hh=>⟨hh.1,k _ _ hh.2⟩⟩
theorem lR.mono {B:Fr→Heap→(Ex→Fr→Heap→Prop)→Prop}{nt:Nat}{M:du}{sp:Option Nat}{fr0:Fr}{H:Heap}{Q Q':Ex→Fr→Heap→Prop}(hB:∀ {fr h Q Q'},B fr h Q→(∀ ex fr' h',Q ex fr' h'→Q' ex fr' h')→B fr h Q') (w:lR B nt M sp fr0 H Q) (k:∀ ex fr' h',Q ex fr' h'→Q' ex fr' h'):lR B nt M sp fr0 H Q':=by
 obtain⟨h1,h2,w⟩:=w;refine⟨h1,h2,?_⟩;cases sp with
 | none=>exact vd.mono hB w k
 | some s =>
   obtain⟨e,h3,w⟩:=w
   exact⟨e,h3,jO.mono hB w fun _ _ hh=>⟨hh.1,hh.2.1,hh.2.2.1,hh.2.2.2.1,vd.mono hB hh.2.2.2.2 k⟩⟩
theorem GC.wp_mono {nt:Nat}{rd:Option Nat}:∀ (g:GC) {fr:Fr}{h:Heap}{Q Q':Ex→Fr→Heap→Prop},g.wp E nt rd fr h Q→(∀ ex fr' h',(∀ t,g.wr t=false→fr'.get t=fr.get t)→Q ex fr' h'→Q' ex fr' h')→g.wp E nt rd fr h Q'
 | .skip,fr,h,Q,Q',w,k=>k _ _ _ (fun _ _=>rfl) w
 | .exit _,fr,h,Q,Q',w,k=>k _ _ _ (fun _ _=>rfl) w
 | .ret,fr,h,Q,Q',w,k=>k _ _ _ (fun _ _=>rfl) w
 | .ops l,fr,h,Q,Q',w,k=>fm.mono l w fun fr' h'=>k _ fr' h'
 | .fZ l,fr,h,Q,Q',w,k=>eR.mono l w fun fr' h'=>k _ fr' h'
 | .wC q az ia,fr,h,Q,Q',w,k=>eR.mono q w fun fr1 h1 hk hh=>⟨hh.1,eR.mono az hh.2 fun fr' h' hk2 qq=>k _ fr' h' (fun t ht=>by simp only[GC.wr,Bool.or_eq_false_iff]at ht;rw[hk2 t ht.2,hk t ht.1]) qq⟩
 | .seq a b,fr,h,Q,Q',w,k=>by
   refine GC.wp_mono a w fun ex fr' h' hk q=>?_;cases ex with
   | normal=>exact GC.wp_mono b q fun ex2 fr2 h2 hk2 q2=>k _ _ _ (fun t ht=>by simp only[GC.wr,Bool.or_eq_false_iff]at ht;rw[hk2 t ht.2,hk t ht.1]) q2
   | exit id=>exact k _ _ _ (fun t ht=>hk t (by simp only[GC.wr,Bool.or_eq_false_iff]at ht;exact ht.1)) q
   | ret=>exact k _ _ _ (fun t ht=>hk t (by simp only[GC.wr,Bool.or_eq_false_iff]at ht;exact ht.1)) q
 | .cond c a b,fr,h,Q,Q',w,k=>by
   simp only[GC.wp,uX]at w ⊢;split at w;· exact⟨fun e=>GC.wp_mono a (w.1 e) fun ex fr' h' hk q=>k _ _ _ (fun t ht=>hk t (by simp only[GC.wr,Bool.or_eq_false_iff]at ht;exact ht.1)) q,
       fun e=>GC.wp_mono b (w.2 e) fun ex fr' h' hk q=>k _ _ _ (fun t ht=>hk t (by simp only[GC.wr,Bool.or_eq_false_iff]at ht;exact ht.2)) q⟩
   · exact w
 | .block id a,fr,h,Q,Q',w,k=>by
   refine GC.wp_mono a w fun ex fr' h' hk q=>?_;cases ex with
   | normal=>exact k _ _ _ hk q
   | exit j=>exact k _ _ _ hk q
   | ret=>exact k _ _ _ hk q
 | .wR t d l rest D,fr,h,Q,Q',w,k=>by obtain⟨M,sp,h1,h2,w⟩:=w;exact⟨M,sp,h1,h2,lR.mono (fun w k=>fm.mono l w fun _ _ _ w=>GC.wp_mono rest w fun ex fr' h' _ q=>k _ _ _ q) w fun ex fr' h' q=>k _ _ _ (fun t ht=>by cases ht) q⟩
 | .loop a,fr,h,Q,Q',w,k=>by
   obtain⟨n,hn,w⟩:=w;refine⟨n,hn,?_⟩;have key:∀ n fr1 h1,(∀ t,a.wr t=false→fr1.get t=fr.get t)→qP (a.wp E nt rd) Q n fr1 h1→qP (a.wp E nt rd) Q' n fr1 h1:=by
     intro n;induction n with
     | zero=>intro _ _ _ w;exact w
     | succ n ih =>
       intro fr1 h1 hk1 w
       refine GC.wp_mono a w fun ex fr' h' hk q=>?_
       have hk2:∀ t,a.wr t=false→fr'.get t=fr.get t:=fun t ht=>by rw[hk t ht,hk1 t ht]
       cases ex with
       | normal=>exact ih _ _ hk2 q
       | exit j=>exact k _ _ _ hk2 q
       | ret=>exact k _ _ _ hk2 q
   exact key n fr h (fun _ _=>rfl) w
 | .zS g ps a b,fr,h,Q,Q',w,k=>by obtain⟨d,ex,fr',h',e,q⟩:=w;refine⟨d,ex,fr',h',e,k _ _ _ (fun t _=>?_) q⟩;rw[zY e]
def eY (E:Env) (rs:List ResultVar) (K:Value→Heap→Prop) (ex:Ex) (fr:Fr) (h:Heap):Prop :=
 match ex with
 | .exit _=>False
 | _=>match aA (ll E fr h) rs with
   | some vs=>K (jc vs) h
   | none=>False
theorem bT.RG {f:FuncId}{fn:Func}{c:Code}{g:GC}{nt:Nat}{rs:List ResultVar}{args:List Value}{h:Heap}{K:Value→Heap→Prop}
  (hx:E.ext f args h=none) (hf:E.nK.get f=some fn) (hb:fn.body=some c) (hg:clean E (max fn.ntmps args.length) c=some g) (hnt:max fn.ntmps args.length=nt) (hrs:fn.results.toList=rs)
  (w:g.wp E nt none (iE args 0 .leaf) h (eY E rs K)):bT E (.func f) args h K:=by
 subst hnt hrs
 obtain⟨d,ex,fr',h',e,q⟩:=GC.iD c g hg w
 unfold eY at q
 split at q
 ·exact q.elim
 ·rename_i hnx;split at q
  ·rename_i vs hvs;refine⟨d+1,jc vs,h',?_,q⟩;rw[dj];simp only[hx,hf,hb,e];have last:(match aA (ll E fr' h') fn.results.toList with|some [v]=>some (v,h')|some vs=>some (.tuple vs.toArray,h')|none=>none)=some (jc vs,h'):=by rw[hvs];unfold jc;split<;>simp_all
   cases ex with
   | normal=>exact last
   | ret=>exact last
   | exit id=>exact absurd rfl (hnx id)
  ·exact q.elim
end
section
variable {E:Env}{nt:Nat}{rd:Option Nat}{fr:Fr}{h:Heap}{Q:Ex→Fr→Heap→Prop}{K:Value→Heap→Prop}
theorem Sm:GC.skip.wp E nt rd fr h Q=Q .normal fr h:=Eq.trans rfl rfl
theorem EI {l:List GO}:(GC.ops l).wp E nt rd fr h Q=fm E l fr h (Q .normal):=Eq.trans rfl rfl
theorem SU {l:List (GO×List GO)}:(GC.fZ l).wp E nt rd fr h Q=eR E l fr h (Q .normal):=Eq.trans rfl rfl
theorem Ki {q az:List (GO×List GO)}{ia:List Op}:(GC.wC q az ia).wp E nt rd fr h Q=eR E q fr h fun fr1 h1=>oO E fr1 h1 ia=true∧eR E az fr1 h1 (Q .normal):=Eq.trans rfl rfl
theorem Fa {a b:GC}:(GC.seq a b).wp E nt rd fr h Q=a.wp E nt rd fr h (ue (b.wp E nt rd) Q):=Eq.trans rfl rfl
theorem K8 {id:Nat}{a:GC}:(GC.block id a).wp E nt rd fr h Q=a.wp E nt rd fr h (iM id Q):=Eq.trans rfl rfl
theorem RP {id:Nat}:(GC.exit id).wp E nt rd fr h Q=Q (.exit id) fr h:=Eq.trans rfl rfl
theorem DX:GC.ret.wp E nt rd fr h Q=Q .ret fr h:=Eq.trans rfl rfl
theorem lg {B:Fr→Heap→(Ex→Fr→Heap→Prop)→Prop}:ue B Q .normal fr h=B fr h Q:=Eq.trans rfl rfl
theorem I7 {B:Fr→Heap→(Ex→Fr→Heap→Prop)→Prop}{i:Nat}:ue B Q (.exit i) fr h=Q (.exit i) fr h:=Eq.trans rfl rfl
theorem PQ {B:Fr→Heap→(Ex→Fr→Heap→Prop)→Prop}:ue B Q .ret fr h=Q .ret fr h:=Eq.trans rfl rfl
theorem xQ {id:Nat}:iM id Q .normal fr h=Q .normal fr h:=Eq.trans rfl rfl
theorem Er {id:Nat}:iM id Q .ret fr h=Q .ret fr h:=Eq.trans rfl rfl
theorem CE {id:Nat}:iM id Q (.exit id) fr h=Q .normal fr h:=by simp[iM]
theorem Jc {id j:Nat}(hj:j≠id):iM id Q (.exit j) fr h=Q (.exit j) fr h:=by simp[iM,aD,hj]
theorem zZ {R:Fr→Heap→Prop}:tz R Q .normal fr h=R fr h:=Eq.trans rfl rfl
theorem Eg {R:Fr→Heap→Prop}{i:Nat}:tz R Q (.exit i) fr h=Q (.exit i) fr h:=Eq.trans rfl rfl
theorem H5 {R:Fr→Heap→Prop}:tz R Q .ret fr h=Q .ret fr h:=Eq.trans rfl rfl
def hY (fr:Fr) (t:Nat) (K:Value→Prop) [Tok K]:Prop:=∃ v,fr.get t=some v∧K v
def bM (E:Env) (fr:Fr) (x:Operand) (K:Value→Prop) [Tok K]:Prop:=dq (ev E fr x) K
section
variable {K:Value→Prop}
theorem oW {t:Nat}{v:Value}:hY (fr.set t v) t K=K v:=by simp[hY,T.ah]
theorem Ax {s t:Nat}{v:Value}(hs:s≠t):hY (fr.set s v) t K=hY fr t K:=by simp[hY,T.ah,hs]
theorem aj {t:Nat}{v:Value}(e:fr.get t=some v):∀ K,hY fr t K=K v:=fun K=>by simp[hY,e]
theorem au {t:Nat}{fr0:Fr}(e:fr.get t=fr0.get t):∀ K,hY fr t K=hY fr0 t K:=fun K=>by simp[hY,e]
theorem qO {t:Nat}:bM E fr (.tmp t) K=hY fr t K:=by simp only[bM,hY,ev];cases fr.get t<;>simp[dq]
theorem km {v:Value}(hc:dW v=true):bM E fr (.const v) K=K v:=by simp[bM,ev,hc]
theorem Am {k:IntKind}{n:Int}:bM E fr (.const (.int k n)) K=K (.int k n):=km rfl
theorem MV {b:Bool}:bM E fr (.const (.bool b)) K=K (.bool b):=km rfl
theorem E1 {s:ByteArray}:bM E fr (.const (.string s)) K=K (.string s):=km rfl
theorem zU:bM E fr (.const (.slice none 0 0)) K=K (.slice none 0 0):=km rfl
theorem DT:bM E fr (.const (.map none)) K=K (.map none):=km rfl
theorem A6:bM E fr (.const .nilIface) K=K .nilIface:=km rfl
theorem Kb {f:FuncId}:bM E fr (.func f) K=K (.func (.func f) #[] #[]):=by simp[bM,ev]
end
def zA (v:Value) (A B:Prop) [Tok A] [Tok B]:Prop:=uX (some v) A B
def qj (p:Prop) (A B:Prop) [Tok A] [Tok B]:Prop:=(p→A)∧(¬p→B)
theorem gj {A B:Prop}:qj True A B=A:=by simp[qj]
theorem fg {A B:Prop}:qj False A B=B:=by simp[qj]
theorem Sh {p:Prop}{A B:Prop}:qj (¬p) A B=qj p B A:=by
 unfold qj;apply propext;constructor;·exact fun h=>⟨fun hp=>h.2 (fun hn=>hn hp),h.1⟩
 ·exact fun h=>⟨h.2,fun hn=>Classical.byContradiction fun hb=>hn fun hp=>hb (h.1 hp)⟩
theorem uA {p:Prop}{A B:Prop}(hp:p) (a:A):qj p A B:=⟨fun _=>a,fun hn=>absurd hp hn⟩
theorem Ai {p:Prop}{A B:Prop}(hp:¬p) (b:B):qj p A B:=⟨fun h=>absurd h hp,fun _=>b⟩
theorem nA {p:Prop}{A B:Prop}(a:p→A) (b:¬p→B):qj p A B:=⟨a,b⟩
theorem Ti {c:Operand}{a b:GC}:(GC.cond c a b).wp E nt rd fr h Q=bM E fr c fun v=>zA v (a.wp E nt rd fr h Q) (b.wp E nt rd fr h Q):=by
 simp only[GC.wp,bM,dq,zA,uX];cases ev E fr c with
 | none=>simp
 | some v=>simp
theorem HY {b:Bool}{A B:Prop}:zA (.bool b) A B=qj (b=true) A B:=by simp[zA,uX,qj]
def SF (v:Value) (w:Bool) (A B:Prop) [Tok A] [Tok B]:Prop:=match v with
 | .bool b=>(b=w→A)∧(b≠w→B)
 | _=>B
theorem wz {s:Nat}{w:Bool}{A B:Prop}:Ea (some (s,w)) fr A B=hY fr s fun v=>SF v w A B:=by
 simp only[Ea,hY,SF];cases fr.get s with
 | none=>simp[undef]
 | some v=>cases v<;>simp
theorem SO {b w:Bool}{A B:Prop}:SF (.bool b) w A B=qj (b=w) A B:=by simp[SF,qj]
theorem IZ {w:Bool}{A B:Prop}:SF undef w A B=B:=by simp[SF,undef]
section
variable {Q:Fr→Heap→Prop}{os:List GO}{op:Op}{d s:Nat}{w:Bool}{ag:List GO}{ps:List (GO×List GO)}
theorem q9:fm E [] fr h Q=Q fr h:=Eq.trans rfl rfl
theorem AF:fm E (⟨none,some d,op⟩::os) fr h Q=bY E op fr h fun v h'=>fm E os (fr.set d v) h' Q:=Eq.trans rfl rfl
theorem VI:fm E (⟨none,none,op⟩::os) fr h Q=bY E op fr h fun _ h'=>fm E os fr h' Q:=Eq.trans rfl rfl
theorem RT:fm E (⟨some (s,w),some d,op⟩::os) fr h Q=hY fr s fun v=>SF v w (bY E op fr h fun v h'=>fm E os (fr.set d v) h' Q) (fm E os (fr.set d undef) h Q):=wz
theorem Is:eR E [] fr h Q=Q fr h:=Eq.trans rfl rfl
theorem R_:eR E ((⟨none,some d,op⟩,ag)::ps) fr h Q=bY E op fr h fun v h'=>h.n≤h'.n∧Bo E ag (fr.set d v) h'∧eR E ps (fr.set d v) h' Q:=Eq.trans rfl rfl
theorem Tc:eR E ((⟨none,none,op⟩,ag)::ps) fr h Q=bY E op fr h fun _ h'=>h.n≤h'.n∧Bo E ag fr h'∧eR E ps fr h' Q:=Eq.trans rfl rfl
theorem K6:eR E ((⟨some (s,w),some d,op⟩,ag)::ps) fr h Q=hY fr s fun v=>SF v w (bY E op fr h fun v h'=>h.n≤h'.n∧Bo E ag (fr.set d v) h'∧eR E ps (fr.set d v) h' Q) (Bo E ag (fr.set d undef) h∧eR E ps (fr.set d undef) h Q):=wz
theorem Sc:Bo E [] fr h=True:=Eq.trans rfl rfl
end
theorem fE {v:Value}{h:Heap}{K:Value→Heap→Prop}:kg (some (v,h)) K=K v h :=
 propext ⟨fun ⟨_,_,e,k⟩=>by cases e;exact k,fun k=>⟨_,_,rfl,k⟩⟩
theorem u4 {K:Value→Heap→Prop}:kg none K=False:=by simp[kg]
theorem lq {r:Option Value}:kg (r.map (·,h)) K=dq r fun v=>K v h:=by
 cases r with
 | none=>simp[kg,dq]
 | some v=>rw[Option.map_some,fE];simp[dq]
theorem aU {α:Type}{v:α}{K:α→Prop}:dq (some v) K=K v:=by simp[dq]
theorem J9 {α:Type}{K:α→Prop}:dq none K=False:=by simp[dq]
theorem GZ {op:Op}(hk:kindOf E op=.pure) (hc:∀ c,op≠.call c):bY E op fr h K=dq (iq E fr (aQ op)) fun v=>K v h:=by
 unfold bY;split;·exact absurd rfl (hc _)
 ·simp only[fF,aQ,hk];exact lq
theorem dS {op:Op}(hk:kindOf E op=.pure) (hc:∀ c,op≠.call c) (hf:nv E fr (aQ op)=none:=by rfl):bY E op fr h K=dq (cX E fr (aQ op)) fun v=>K v h:=by rw[GZ hk hc];simp only[iq,hf]
theorem ow {op:Op}(hk:kindOf E op=.read) (hc:∀ c,op≠.call c):bY E op fr h K=dq (dP E fr (aQ op) h) fun v=>K v h:=by
 unfold bY;split;·exact absurd rfl (hc _)
 ·simp only[fF,aQ,hk];exact lq
theorem kL {op:Op}(hk:kindOf E op=.alloc) (hc:∀ c,op≠.call c):bY E op fr h K=dq (eN E fr (aQ op)) fun p=>K (p.2 h.n) (af h p.1):=by
 unfold bY;split;·exact absurd rfl (hc _)
 ·simp only[fF,aQ,hk];cases eN E fr _ with
  | none=>simp[kg,dq]
  | some p=>rw[Option.map_some,fE];simp[dq]
theorem mV {op:Op}(hk:kindOf E op=.act) (hc:∀ c,op≠.call c):bY E op fr h K=kg (iw E fr (aQ op) h) K:=by
 unfold bY;split;·exact absurd rfl (hc _)
 ·rename_i hno;simp only[fF,aQ,hk]
section
variable {x y z:Operand}{t t':TypeId}
theorem OX:bY E (.move x) fr h K=bM E fr x fun v=>K v h:=dS rfl (by simp)
theorem mX:bY E (.assign x) fr h K=bM E fr x fun v=>K v h:=dS rfl (by simp)
theorem Mv:bY E (.pick x y z) fr h K=bM E fr x fun v=>zA v (bM E fr y fun v=>K v h) (bM E fr z fun v=>K v h):=by
 rw[dS rfl (by simp)];simp only[cX,aQ,bM,dq,zA,uX];cases ev E fr x with
 | none=>simp
 | some v =>
   cases v with
   | bool b=>cases b<;>simp
   | _=>simp
def cd (E:Env) (op:BinOp) (t:TypeId) (c:Bool) (a b:Value) (K:Value→Prop) [Tok K]:Prop :=
 match a,b with
 | .nilIface,.nilIface=>c=true∧dq (dN E op t .nilIface .nilIface) K
 | .float .f64 a,.float .f64 b=>dq (TT op a b) K
 | .float .f64 _,.chan none=>dq (AN op) K
 | .chan none,.float .f64 _=>dq (AN op) K
 | .chan none,.chan none=>dq (AN op) K
 | _,_=>dq (dN E op t a b) K
theorem S' {op:BinOp}{a b:Nat}:dN E op t (.float .f64 a) (.float .f64 b)=none:=by cases op<;>rfl
theorem Qa {op:BinOp}{a:Nat}:dN E op t (.float .f64 a) (.chan none)=none:=by cases op<;>rfl
theorem Ow {op:BinOp}{b:Nat}:dN E op t (.chan none) (.float .f64 b)=none:=by cases op<;>rfl
theorem Sw {op:BinOp}:dN E op t (.chan none) (.chan none)=none:=by cases op<;>rfl
theorem F_ {op:BinOp}{c:Bool}{a b:Value}{K:Value→Prop}(hn:¬(a=.nilIface∧b=.nilIface)) (hf:Ek op a b=none):cd E op t c a b K=dq (dN E op t a b) K:=by
 unfold cd;split;·exact absurd ⟨rfl,rfl⟩ hn
 ·have hf:TT op _ _=none:=hf;rw[hf,S']
 ·have hf:AN op=none:=hf;rw[hf,Qa]
 ·have hf:AN op=none:=hf;rw[hf,Ow]
 ·have hf:AN op=none:=hf;rw[hf,Sw]
 ·rfl
theorem RB {op:BinOp}{c:Bool}{a b u:Value}{K:Value→Prop}(hf:Ek op a b=some u):cd E op t c a b K=K u:=by unfold Ek at hf;split at hf<;>first|(cases hf;done)|(simp only[cd,hf,aU])
theorem Hg {op:BinOp}:bY E (.binOp op t x y t') fr h K=bM E fr x fun a=>bM E fr y fun b=>cd E op t (isConst x || isConst y) a b fun v=>K v h:=by
 rw[GZ rfl (by simp)];rcases hx:ev E fr x with _|a;· simp[iq,nv,cX,aQ,bM,dq,hx]
 · rcases hy:ev E fr y with _|b;· simp[iq,nv,cX,aQ,bM,dq,hx,hy]
   · have e1:(bM E fr x fun a=>bM E fr y fun b=>cd E op t (isConst x || isConst y) a b fun v=>K v h)=cd E op t (isConst x || isConst y) a b fun v=>K v h:=by unfold bM dq;simp[hx,hy]
     rw[e1];simp only[iq,nv,cX,aQ,hx,hy];cases hf:Ek op a b with
     | some u=>rw[RB hf];simp only[aU]
     | none =>
       simp only
       by_cases hn:a=.nilIface∧b=.nilIface
       · obtain⟨rfl,rfl⟩:=hn;simp only[cd];cases (isConst x || isConst y)<;>simp[dq]
       · rw[F_ hn hf];unfold dq;split;· rename_i h1 h2;cases h1;cases h2;exact absurd ⟨rfl,rfl⟩ hn
         · rename_i h1 h2;cases h1;cases h2;rfl
         · rename_i hno;exact absurd rfl (hno a b rfl)
section
variable {c:Bool}{k k':IntKind}{a b:Int}{K:Value→Prop}
theorem Tn:cd E .add t c (.int k a) (.int k b) K=K (.int k (k.wrap (a+b))):=by simp[cd,dN]
theorem Sf:cd E .sub t c (.int k a) (.int k b) K=K (.int k (k.wrap (a-b))):=by simp[cd,dN]
theorem QY:cd E .mul t c (.int k a) (.int k b) K=K (.int k (k.wrap (a*b))):=by simp[cd,dN]
theorem SP:cd E .quo t c (.int k a) (.int k b) K=(b≠0∧K (.int k (k.wrap (a.tdiv b)))):=by by_cases hb:b=0<;>simp[cd,dN,dq,hb]
theorem Q5:cd E .rem t c (.int k a) (.int k b) K=(b≠0∧K (.int k (a.tmod b))):=by by_cases hb:b=0<;>simp[cd,dN,dq,hb]
theorem ui:cd E .and t c (.int k a) (.int k b) K=K (.int k (k.wrap (BitVec.ofInt k.bits a &&& BitVec.ofInt k.bits b).toNat)):=by simp[cd,dN]
theorem Fj:cd E .or t c (.int k a) (.int k b) K=K (.int k (k.wrap (BitVec.ofInt k.bits a ||| BitVec.ofInt k.bits b).toNat)):=by simp[cd,dN]
theorem Gi:cd E .shl t c (.int k a) (.int k' b) K=(0≤b∧K (.int k (k.wrap (a*2 ^ min b.toNat k.bits)))):=by
 by_cases hb:b<0
 ·have:¬0≤b:=by omega
  simp[cd,dN,dq,hb,this]
 ·have:0≤b:=by omega
  simp[cd,dN,dq,hb,this]
theorem Rm:cd E .shr t c (.int k a) (.int k' b) K=(0≤b∧K (.int k (a.fdiv (2 ^ min b.toNat k.bits)))):=by
 by_cases hb:b<0
 ·have:¬0≤b:=by omega
  simp[cd,dN,dq,hb,this]
 ·have:0≤b:=by omega
  simp[cd,dN,dq,hb,this]
theorem Rd:cd E .eql t c (.int k a) (.int k b) K=qj (a=b) (K (.bool true)) (K (.bool false)):=by
 by_cases hp:a=b;·rw[show (a=b)=True from eq_true hp,gj];simp[cd,dN,hp]
 ·rw[show (a=b)=False from eq_false hp,fg];simp[cd,dN,show (a==b)=false by simpa using hp]
theorem Rt:cd E .neq t c (.int k a) (.int k b) K=qj (a=b) (K (.bool false)) (K (.bool true)):=by
 by_cases hp:a=b;·rw[show (a=b)=True from eq_true hp,gj];simp[cd,dN,hp]
 ·rw[show (a=b)=False from eq_false hp,fg];simp[cd,dN,show (a != b)=true by simpa using hp]
theorem Sl:cd E .lss t c (.int k a) (.int k b) K=qj (a<b) (K (.bool true)) (K (.bool false)):=by
 by_cases hp:a<b;·rw[show (a<b)=True from eq_true hp,gj];simp[cd,dN,hp]
 ·rw[show (a<b)=False from eq_false hp,fg];simp[cd,dN,hp]
theorem QW:cd E .leq t c (.int k a) (.int k b) K=qj (a≤b) (K (.bool true)) (K (.bool false)):=by
 by_cases hp:a≤b;·rw[show (a≤b)=True from eq_true hp,gj];simp[cd,dN,hp]
 ·rw[show (a≤b)=False from eq_false hp,fg];simp[cd,dN,hp]
theorem Tl:cd E .gtr t c (.int k a) (.int k b) K=qj (b<a) (K (.bool true)) (K (.bool false)):=by
 by_cases hp:b<a;·rw[show (b<a)=True from eq_true hp,gj];simp[cd,dN,hp]
 ·rw[show (b<a)=False from eq_false hp,fg];simp[cd,dN,hp]
theorem Ri:cd E .geq t c (.int k a) (.int k b) K=qj (b≤a) (K (.bool true)) (K (.bool false)):=by
 by_cases hp:b≤a;·rw[show (b≤a)=True from eq_true hp,gj];simp[cd,dN,hp]
 ·rw[show (b≤a)=False from eq_false hp,fg];simp[cd,dN,hp]
end
def zC (E:Env) (t:TypeId):Bool:=match E.l9.get t with
 | some i=>match i.desc with|.struct _|.array _ _|.invalid=>false|_=>true
 | none=>false
def sk (E:Env) (t:TypeId):Option Nat:=match E.l9.get t with
 | some i=>match i.desc with|.struct _|.array _ _=>some i.size|_=>none
 | none=>none
def cellAt (h:Heap) (a:Addr):Option Value:=match ax h a 1 with|some [v]=>some v|_=>none
def Dk (h:Heap) (x:Value) (K:Value→Prop) [Tok K]:Prop:=match x with|.pointer (some a)=>dq (cellAt h a) K|_=>False
def C1 (h:Heap) (n:Nat) (x:Value) (K:Value→Prop) [Tok K]:Prop:=match x with|.pointer (some a)=>dq (ax h a n) fun l=>K (.agg ⟨l⟩)|_=>False
theorem OC {h:Heap}{a:Addr}{K:Value→Prop}:(∃ v,(match ax h a 1 with|some [v]=>some v|_=>none)=some v∧K v)=∃ v,cellAt h a=some v∧K v:=rfl
theorem xZ (ht:zC E t=true):bY E (.load t x) fr h K=bM E fr x fun v=>Dk h v fun u=>K u h:=by
 rw[ow rfl (by simp)];simp only[dP,aQ,bM,dq,Dk];cases ev E fr x with
 | none=>simp
 | some v =>
   simp only[loadAt]
   unfold zC at ht
   cases hi:E.l9.get t with
   | none=>rw[hi]at ht;cases ht
   | some i =>
     rw[hi]at ht
     cases v with
     | pointer a =>
       cases a with
       | none=>simp
       | some a =>
         have e:∀ A:Prop,(∃ v,some (Value.pointer (some a))=some v∧match v with|.pointer (some a)=>∃ v,cellAt h a=some v∧K v h|_=>False)=∃ v,cellAt h a=some v∧K v h:=fun _=>by simp
         rw[e True]
         cases hd:i.desc<;>simp only[hd]at ht ⊢<;>first|(cases ht;done)|exact OC (K:=fun v=>K v h)
     | _=>simp
theorem x9 {n:Nat}(ht:sk E t=some n):bY E (.load t x) fr h K=bM E fr x fun v=>C1 h n v fun u=>K u h:=by
 rw[ow rfl (by simp)];simp only[dP,aQ,bM,dq,C1];cases ev E fr x with
 | none=>simp
 | some v =>
   simp only[loadAt]
   unfold sk at ht
   cases hi:E.l9.get t with
   | none=>rw[hi]at ht;cases ht
   | some i =>
     rw[hi]at ht
     cases v with
     | pointer a =>
       cases a with
       | none=>simp[dq]
       | some a =>
         have:∀ m,some m=some n→(∃ v,(ax h a m).map (fun l=>Value.agg l.toArray)=some v∧K v h)=∃ v,ax h a n=some v∧K (.agg v.toArray) h:=by intro m hm;cases hm;cases ax h a n<;>simp
         cases hd:i.desc<;>simp only[hd]at ht ⊢<;>first|(cases ht;done)|(rw[this _ ht];simp)
     | _=>simp
theorem Cb {h:Heap}{a:Addr}{K:Value→Prop}:Dk h (.pointer (some a)) K=dq (cellAt h a) K:=Eq.trans rfl rfl
theorem CJ {h:Heap}{n:Nat}{a:Addr}{K:Value→Prop}:C1 h n (.pointer (some a)) K=dq (ax h a n) fun l=>K (.agg ⟨l⟩):=Eq.trans rfl rfl
def ES (E:Env) (t:TypeId) (f:Nat):Option Nat:=match a_ E t with
 | some (.struct fields)=>match nth fields.toList f with
   | some fd=>match size E fd.type with
     | some sz=>cond (Nat.beq sz 0) none (some fd.offset)
     | none=>none
   | none=>none
 | _=>none
def yy (off:Nat) (x:Value) (K:Value→Prop) [Tok K]:Prop:=match x with|.pointer (some a)=>K (.pointer (some (a.add off)))|_=>False
theorem lI {f n:Nat}(ht:ES E t f=some n):bY E (.fieldAddr t x f) fr h K=bM E fr x fun v=>yy n v fun u=>K u h:=by
 rw[dS rfl (by simp)];simp only[cX,aQ,bM,dq,yy];cases ev E fr x with
 | none=>simp
 | some v =>
   simp only[mw]
   unfold ES at ht
   cases hu:a_ E t with
   | none=>rw[hu]at ht;cases ht
   | some d =>
     rw[hu]at ht
     cases d with
     | struct fields =>
       simp only at ht ⊢
       cases hf:nth fields.toList f with
       | none=>rw[hf]at ht;cases ht
       | some fd =>
         rw[hf]at ht
         simp only at ht ⊢
         cases hs:size E fd.type with
         | none=>rw[hs]at ht;cases ht
         | some sz =>
           rw[hs]at ht
           simp only at ht ⊢
           cases hz:Nat.beq sz 0 with
           | true=>rw[hz]at ht;cases ht
           | false =>
             rw[hz]at ht
             cases ht
             cases v with
             | pointer a=>cases a<;>simp[hf,hs,hz]
             | _=>simp
     | _=>simp at ht
theorem zI {n:Nat}{a:Addr}{K:Value→Prop}:yy n (.pointer (some a)) K=K (.pointer (some (a.add n))):=Eq.trans rfl rfl
def Bc (E:Env) (t:TypeId):Option Nat:=match a_ E t with
 | some (.slice e)=>size E e
 | _=>none
def GD (sz:Nat) (x i:Value) (K:Value→Prop) [Tok K]:Prop:=match x,i with
 | .slice (some a) len _,.int _ i=>(0≤i∧i<(len:Int))∧K (.pointer (some (a.add (i.toNat*sz))))
 | _,_=>False
theorem vm {n:Nat}(ht:Bc E t=some n):bY E (.indexAddr t x y) fr h K=bM E fr x fun v=>bM E fr y fun i=>GD n v i fun u=>K u h:=by
 rw[dS rfl (by simp)];simp only[cX,aQ,bM,dq,GD];cases ev E fr x with
 | none=>simp
 | some v =>
   cases ev E fr y with
   | none=>simp
   | some i =>
     simp only[kE]
     unfold Bc at ht
     cases hu:a_ E t with
     | none=>rw[hu]at ht;cases ht
     | some d =>
       rw[hu]at ht
       cases d with
       | slice e =>
         simp only at ht ⊢
         cases v with
         | slice a len cap =>
           cases a with
           | none=>simp
           | some a =>
             cases i with
             | int k i =>
               simp only[ht]
               by_cases h0:0≤i
               · by_cases h1:i<(len:Int)<;>simp[h0,h1]
               · simp[h0]
             | _=>simp
         | _=>simp
       | _=>simp at ht
theorem Iv {sz len cap:Nat}{a:Addr}{k:IntKind}{i:Int}{K:Value→Prop}:GD sz (.slice (some a) len cap) (.int k i) K=((0≤i∧i<(len:Int))∧K (.pointer (some (a.add (i.toNat*sz))))):=Eq.trans rfl rfl
def lE (E:Env) (fr:Fr) (xs:List Operand) (K:List Value→Prop) [Tok K]:Prop:=dq (aA (ev E fr) xs) K
theorem Gn {K:List Value→Prop}:lE E fr [] K=K []:=by simp[lE,aA]
theorem Bu {x:Operand}{xs:List Operand}{K:List Value→Prop}:lE E fr (x::xs) K=bM E fr x fun v=>lE E fr xs fun vs=>K (v::vs):=by
 simp only[lE,bM,aA,dq];cases ev E fr x with
 | none=>simp
 | some v=>cases aA (ev E fr) xs<;>simp
theorem yf {f:FuncId}{xs:List Operand}{ts:Array TypeId}(hq:E.qf f=true):bY E (.call ⟨.value (.func f),⟨xs⟩,ts⟩) fr h K=lE E fr xs fun as=>dq (E.qc f as) fun v=>K v h:=by
 simp only[bY,VJ,hq,cond_true,fF,kindOf,aQ,iq,nv,lX,wk,cX,lE,dq];cases aA (ev E fr) xs with
 | none=>simp[kg]
 | some as =>
   simp only[Option.some.injEq,exists_eq_left']
   cases E.qc f as with
   | none=>simp[kg]
   | some v =>
     simp only[Option.map_some,kg,Option.some.injEq,Prod.mk.injEq,eq_iff_iff,exists_eq_left']
     exact⟨fun ⟨_,_,⟨rfl,rfl⟩,q⟩=>q,fun q=>⟨_,_,⟨rfl,rfl⟩,q⟩⟩
theorem v_ {f:FuncId}{xs:List Operand}{ts:Array TypeId}(hq:E.qf f=false:=by rfl):bY E (.call ⟨.value (.func f),⟨xs⟩,ts⟩) fr h K=lE E fr xs fun as=>bT E (.func f) as h K:=by simp only[bY,VJ,hq,cond_false,target,lE,ev,dq];cases aA (ev E fr) xs<;>simp
def sR (E:Env) (f:Value) (as:List Value) (h:Heap) (K:Value→Heap→Prop) [Tok K]:Prop:=match f with
 | .func (.func g) first captured=>@bT E (.func g) (first.toList++as++captured.toList) h K Tok.mk
 | .func (.yield l) _ _=>@bT E (.yield l) as h K Tok.mk
 | _=>False
theorem Je {n:Nat}{xs:List Operand}{ts:Array TypeId}:bY E (.call ⟨.value (.tmp n),⟨xs⟩,ts⟩) fr h K=lE E fr xs fun as=>hY fr n fun f=>sR E f as h K:=by
 have e:∀ as,(hY fr n fun f=>sR E f as h K)=∃ f,ev E fr (.tmp n)=some f∧sR E f as h K:=fun as=>qO.symm;simp only[lE,dq,e];simp only[bY,VJ,cond_false,target];cases aA (ev E fr) xs with
 | none=>simp
 | some as =>
   cases ev E fr (.tmp n) with
   | none=>simp
   | some f =>
     cases f with
     | func fn first cap=>cases fn<;>simp[sR]
     | _=>simp[sR]
theorem FF {g:FuncId}{first captured:List Value}{as:List Value}:sR E (.func (.func g) ⟨first⟩ ⟨captured⟩) as h K=bT E (.func g) (first++as++captured) h K:=Eq.trans rfl rfl
def Rq (x:Value) (K:Value→Prop) [Tok K]:Prop:=match x with
 | .slice _ n _=>K (.int .i64 n)
 | _=>False
def isSlice (E:Env) (t:TypeId):Bool:=match a_ E t with|some (.slice _)=>true|_=>false
theorem OS (ht:isSlice E t=true):bY E (.call ⟨.builtin .len,⟨[x]⟩,⟨[t]⟩⟩) fr h K=bM E fr x fun v=>Rq v fun u=>K u h:=by
 unfold isSlice at ht;split at ht
 · rename_i e hu;simp only[bY,fF,iq,nv,lX,aQ,kindOf,hu,cX,wk,aA,bM,lq,dq,Rq];cases ev E fr x with
   | none=>simp
   | some v =>simp only[KL,hu];cases v<;>simp
 · cases ht
theorem HJ {a:Option Addr}{n c:Nat}{K:Value→Prop}:Rq (.slice a n c) K=K (.int .i64 n):=Eq.trans rfl rfl
end
theorem vT {t:Nat}{K:Value→Heap→Prop}:eY E [.tmp t] K .ret fr h=hY fr t fun v=>K v h:=by simp only[eY,aA,ll,hY,ev];cases fr.get t<;>simp[jc]
theorem Qy {t s:Nat}{K:Value→Heap→Prop}:eY E [.tmp t,.tmp s] K .ret fr h=hY fr t fun v=>hY fr s fun u=>K (.tuple #[v,u]) h:=by simp only[eY,aA,ll,hY,ev];cases fr.get t<;>cases fr.get s<;>simp[jc]
theorem oF {v:Value}{l:List Value}{i:Nat}:iE (v::l) i fr=iE l (i+1) (fr.set i v):=Eq.trans rfl rfl
theorem pU {i:Nat}:iE [] i fr=fr:=Eq.trans rfl rfl
theorem aE {a:GC}(I:Nat→Fr→Heap→Prop) (n:Nat) (h1:I n fr h) (hm:n<1000000)
   (hs:∀ n fr' h',I n fr' h'→(∀ t,a.wr t=false→fr'.get t=fr.get t)→a.wp E nt rd fr' h' (tz (fun fr' h'=>∃ m,m<n∧I m fr' h') Q)) :
   (GC.loop a).wp E nt rd fr h Q:=by
 refine⟨n+1,by omega,?_⟩
 have key:∀ N n fr' h',n<N→I n fr' h'→(∀ t,a.wr t=false→fr'.get t=fr.get t)→qP (a.wp E nt rd) Q N fr' h':=by
   intro N;induction N with
   | zero=>intro n fr h aB;omega
   | succ N ih =>
     intro n fr' h' aB hi hk
     refine GC.wp_mono a (hs n fr' h' hi hk) fun ex fr2 h2 hk' q=>?_
     cases ex with
     | normal=>obtain⟨m,hm,hi⟩:=q;exact ih m fr2 h2 (by omega) hi fun t ht=>by rw[hk' t ht,hk t ht]
     | exit j=>exact q
     | ret=>exact q
 exact key _ n _ _ (by omega) h1 fun _ _=>rfl
end
theorem bT.u_ {E:Env}{f:FuncId}{fn:Func}{g:GC}{nt:Nat}{rs:List ResultVar}{args:List Value}{h:Heap}{K:Value→Heap→Prop}
  (hx:E.ext f args h=none) (hf:E.nK.get f=some fn) (hg:fn.body.bind (clean E nt)=some g) (hn:fn.ntmps=nt) (hrs:fn.results.toList=rs) (hnt:args.length≤nt)
  (w:g.wp E nt none (iE args 0 .leaf) h (eY E rs K)):bT E (.func f) args h K:=by
 obtain⟨c,hb,hc⟩:=Option.bind_eq_some_iff.1 hg
 exact bT.RG hx hf hb (by rw[hn,Nat.max_eq_left hnt];exact hc) (by rw[hn];exact Nat.max_eq_left hnt) hrs w
open Go.RowKit
def xV (B:Nat):Value→Bool
 | .bool _|.int _ _|.string _|.float _ _|.pointer none|.map none|.nilFunc|.nilIface=>true
 | .pointer (some a)=>a.spot.isNone&&Nat.blt a.block B
 | .slice none _ c=>Nat.blt c cY
 | .slice (some a) _ c=>a.spot.isNone&&Nat.blt a.block B&&Nat.blt c cY
 | .iface _ (.pointer (some a))=>a.spot.isNone&&Nat.blt a.block B
 | _=>false
def jJ (B:Nat):Ren:=fun i=>if i<B then some (i,0) else none
theorem VR.ok0 {B:Nat}:∀ {v:Value},xV B v=true→VR (jJ B) v v
 | .bool _,_=>.bool _
 | .int _ _,_=>.int _ _
 | .float _ _,_=>.float _ _
 | .string _,_=>.string _
 | .pointer none,_=>.pZ
 | .map none,_=>.sI
 | .nilFunc,_=>.nilFunc
 | .nilIface,_=>.nilIface
 | .pointer (some ⟨b,o,s⟩),h=>by simp only[xV,Bool.and_eq_true,blt_eq,decide_eq_true_eq,Option.isNone_iff_eq_none]at h;obtain⟨rfl,h2⟩:=h;exact .ptr (c:=0) _ (by simp[jJ,h2])
 | .slice none _ c,h=>by simp only[xV,blt_eq,decide_eq_true_eq]at h;exact .fl _ _ h
 | .slice (some ⟨b,o,s⟩) _ c,h=>by simp only[xV,Bool.and_eq_true,blt_eq,decide_eq_true_eq,Option.isNone_iff_eq_none]at h;obtain⟨⟨rfl,h2⟩,h3⟩:=h;exact .slice (c:=0) _ _ _ (by simp[jJ,h2]) h3
 | .iface _ (.pointer (some ⟨b,o,s⟩)),h=>by simp only[xV,Bool.and_eq_true,blt_eq,decide_eq_true_eq,Option.isNone_iff_eq_none]at h;obtain⟨rfl,h2⟩:=h;exact .iface _ _ _ (.ptr (c:=0) _ (by simp[jJ,h2]))
def E6 (B:Nat):Value→Option Value
 | .slice (some _) 0 0=>some (.slice (some ⟨0,0,none⟩) 0 fY)
 | v=>cond (xV B v) (some v) none
theorem RR {B:Nat}{v u:Value}(h:E6 B v=some u):VR (jJ B) u v:=by
 unfold E6 at h;split at h;·cases h;exact .ey _ _ _
 ·cases hk:xV B v with
  | false=>rw[hk]at h;cases h
  | true=>rw[hk]at h;cases h;exact VR.ok0 hk
def Ks (B:Nat):Obj→fa
 | .cells xs _ _=>.ro fun i=>(xs[i]?).bind (E6 B)
 | _=>.dead
def fT (W:World):Heap:={ n:=W.heap.size,b:=T.ofList (W.heap.toList.map (Ks W.heap.size)) }
theorem mn (W:World) (i:Nat):(fT W).b.get i=(W.heap[i]?).map (Ks W.heap.size):=by simp[fT,T.mR]
theorem Ip (P:Program) (W:World):HR P (jJ W.heap.size) (fT W) W where
 gT i b c e:=by
   unfold jJ at e;by_cases h:i<W.heap.size;· rw[if_pos h]at e;cases e;exact⟨h,h⟩
   · rw[if_neg h]at e;cases e
 ib i b c e:=by
   unfold jJ at e;by_cases h:i<W.heap.size
   · rw[if_pos h]at e;cases e;refine⟨Ks W.heap.size W.heap[i],W.heap[i],by rw[mn];simp[h],by simp[h],?_⟩;generalize W.heap[i]=o;cases o with
     | cells xs el f =>refine .ro _ _ fun j v hv=>?_;obtain⟨v0,h0,h1⟩:=Option.bind_eq_some_iff.1 hv;exact⟨xs,el,f,v0,rfl,h0,RR h1⟩
     | _=>exact .dead _
   · rw[if_neg h]at e;cases e
 inj i j b c d e e' hn:=by
   unfold jJ at e e';by_cases h:i<W.heap.size
   · rw[if_pos h]at e;cases e;by_cases h':j<W.heap.size;· rw[if_pos h']at e';cases e';exact absurd rfl hn
     · rw[if_neg h']at e';cases e'
   · rw[if_neg h]at e;cases e
theorem tp {W:World}{b off:Nat}{v u:Value}(hc:W.cell? ⟨b,off,none⟩=some v) (hv:E6 W.heap.size v=some u):cellAt (fT W) ⟨b,off,none⟩=some u:=by
 unfold World.cell? at hc;simp only at hc;split at hc
 ·rename_i c el f hb;simp only[Option.isSome_none,Bool.false_eq_true,if_false]at hc;have aB:b<W.heap.size:=(Array.getElem?_eq_some_iff.1 hb).1;have hlt':Nat.blt b (fT W).n=true:=by simp[blt_eq,fT,aB]
  simp only[cellAt,ax,hlt',mn,hb,Option.map_some,Ks,gR,hc,hv,cond_true,Option.bind_some];rfl
 ·cases hc
section
variable {P:Program}{E:Env}
theorem E8 (hE:aH P E) (hx:cf P E) (hn:eC P) {f:FuncId}{W:World}(hg:GR E (jJ W.heap.size)) {us:List Value}{args:Array Value}(hargs:dp (jJ W.heap.size) us args.toList) (hext:E.ext f us (fT W)=none)
  (r:bT E (.func f) us (fT W) fun v _=>v=.bool true):Calls P f args W fun e w'=>e=.returned (.bool true)∧Below W.heap.size W w':=by
 obtain⟨d,v,h',e,rfl⟩:=r
 refine(lx hE hx hn hext e (Ip P W) hg hargs).mono fun e w' hh=>?_
 obtain⟨v',ρ',rfl,r,hs⟩:=hh
 cases r
 refine⟨rfl,hs.below fun i x e=>?_⟩
 rw[mn]
 unfold jJ at e
 by_cases h:i<W.heap.size
 ·simp only[h,Array.getElem?_eq_getElem,Option.map_some];generalize W.heap[i]=o;cases o with
  | cells xs el f=>exact .inr (.inl ⟨_,rfl⟩)
  | _=>exact .inl rfl
 ·rw[if_neg h]at e;cases e
theorem bV.oe {ρ:Ren}{h:Heap}{w w':World}(hr:HR P ρ h w) (hb:Below w.heap.size w w'):bV P ρ h w ρ h w' where
 le:=Ren.le_refl _
 hr:={
  gT:=fun i b c e=>⟨(hr.gT i b c e).1,Nat.lt_of_lt_of_le (hr.gT i b c e).2 hb.size⟩
  ib:=fun i b c e=>by obtain⟨k,o,e1,e2,e3⟩:=hr.ib i b c e;exact⟨k,o,e1,by rw[hb.block b (hr.gT i b c e).2];exact e2,e3⟩
  inj:=hr.inj }
 n:=Nat.le_refl _
 new i x e e0:=by rw[e]at e0;cases e0
 h_ _ _ _:=rfl
 os:=hb.os
 tape:=hb.tape
 output:=hb.output
 size:=hb.size
 frame b aB _:=hb.block b aB
 uG i b c e _:=⟨i,c,e,.inl rfl⟩
 stays _ _ _ _:=rfl
theorem bT.FI {f:FuncId}{args:List Value}{h h':Heap}{K:Value→Heap→Prop}{v:Value}(hx:E.ext f args h=some (some (v,h'))) (k:K v h'):bT E (.func f) args h K :=
 ⟨1,v,h',by rw[dj,hx],k⟩
theorem bT.ext {f:FuncId}{args:List Value}{h:Heap}{K:Value→Heap→Prop}{v:Value}(hx:E.ext f args h=some (some (v,h))) (k:K v h):bT E (.func f) args h K:=bT.FI hx k
end
structure ai (B:Nat) (h h':Heap):Prop where
 n:h.n≤h'.n
 get:∀ i,i<B→h'.b.get i=h.b.get i
theorem ai.refl (B:Nat) (h:Heap):ai B h h:=⟨Nat.le_refl _,fun _ _=>rfl⟩
theorem ai.trans {B:Nat}{h h1 h2:Heap}(a:ai B h h1) (b:ai B h1 h2):ai B h h2:=⟨Nat.le_trans a.n b.n,fun i hi=>by rw[b.get i hi,a.get i hi]⟩
theorem ai.mono {B B':Nat}{h h':Heap}(a:ai B' h h') (hb:B≤B'):ai B h h':=⟨a.n,fun i hi=>a.get i (Nat.lt_of_lt_of_le hi hb)⟩
theorem ai.new {B:Nat}{h:Heap}(k:fa) (hb:B≤h.n):ai B h (af h k):=⟨by simp[af],fun i hi=>by simp only[af];exact T.ar _ _ (by omega)⟩
theorem ai.set {B:Nat}{h:Heap}{i:Nat}(k:fa) (hb:B≤i):ai B h { h with b:=h.b.set i k }:=⟨Nat.le_refl _,fun j hj=>T.ar _ _ (by omega)⟩
theorem ae (h:Heap) (k:fa):(af h k).n=h.n+1:=rfl
theorem aC (h:Heap) (k:fa):(af h k).b.get h.n=some k:=by simp[af,T.ah]
theorem fB {h:Heap}{i:Nat}(k:fa) (hi:i<h.n):(af h k).b.get i=h.b.get i:=by simp only[af];exact T.ar _ _ (by omega)
theorem cJ {B b off n:Nat}{h h':Heap}{l:List Value}(e:ai B h h') (hb:b<B) (hc:ax h ⟨b,off,none⟩ n=some l):ax h' ⟨b,off,none⟩ n=some l:=by
 unfold ax at hc ⊢;cases hn:Nat.beq n 0 with
 | true=>rw[hn]at hc;exact hc
 | false =>
   rw[hn]at hc
   simp only[cond_false]at hc ⊢
   rw[e.get b hb]
   by_cases aB:b<h.n
   · have:b<h'.n:=Nat.lt_of_lt_of_le aB e.n;simp only[blt_eq,aB,this,decide_true,cond_true]at hc ⊢;exact hc
   · simp[blt_eq,aB]at hc
theorem aI {B b off:Nat}{h h':Heap}{v:Value}(e:ai B h h') (hb:b<B) (hc:cellAt h ⟨b,off,none⟩=some v):cellAt h' ⟨b,off,none⟩=some v:=by
 unfold cellAt at hc ⊢;cases hl:ax h ⟨b,off,none⟩ 1 with
 | none=>rw[hl]at hc;cases hc
 | some l=>rw[hl]at hc;rw[cJ e hb hl];exact hc
theorem aJ {h:Heap}{i:Nat}{cs:List Value}{e:TypeId}{x:Bool}(hi:i<h.n) (hb:h.b.get i=some (.cells cs e x)) {off n:Nat}{l:List Value}(hl:(cs.drop off).take n=l) (hn:l.length=n) :
   ax h ⟨i,off,none⟩ n=some l:=by
 have tk:∀ (n:Nat) (c:List Value),n≤c.length→takeN n c=some (c.take n):=by
   intro n;induction n with
   | zero=>intro c _;rfl
   | succ n ih =>
     intro c hc
     cases c with
     | nil=>simp at hc
     | cons a c=>simp only[takeN,ih c (by simpa using hc),Option.map_some,List.take_succ_cons]
 unfold ax
 rw[aD]
 by_cases h0:n=0
 · subst h0;rw[if_pos rfl];simp at hl;rw[← hl]
 · rw[if_neg h0];simp only[blt_eq,hi,decide_true,cond_true,hb,g_];rw[tk _ _ (by rw[← hl]at hn;simp at hn;simp;omega),hl]
theorem bQ {h:Heap}{i:Nat}{cs:List Value}{e:TypeId}{x:Bool}(hi:i<h.n) (hb:h.b.get i=some (.cells cs e x)) {off:Nat}{v:Value}(hv:cs[off]?=some v):cellAt h ⟨i,off,none⟩=some v:=by unfold cellAt;have aB:=(List.getElem?_eq_some_iff.1 hv).1;rw[aJ (n:=1) hi hb (l:=[v]) (by rw[List.drop_eq_getElem_cons aB];simp only[List.take_succ_cons,List.take_zero];rw[(List.getElem?_eq_some_iff.1 hv).2]) rfl]
theorem EK {h:Heap}{cs:List Value}{e:TypeId}{x:Bool}{off:Nat}{v:Value}(hv:cs[off]?=some v):cellAt (af h (.cells cs e x)) ⟨h.n,off,none⟩=some v :=
 bQ (by simp[af]) (aC _ _) hv
theorem fO {h:Heap}{b off n:Nat}{l:List Value}(hc:ax h ⟨b,off,none⟩ n=some l) {j:Nat}{v:Value}(hj:l[j]?=some v):cellAt h ⟨b,off+j,none⟩=some v:=by
 have hjl:=(List.getElem?_eq_some_iff.1 hj).1;unfold ax at hc;rw[aD]at hc;by_cases h0:n=0;· rw[if_pos h0]at hc;cases hc;simp at hj
 · rw[if_neg h0]at hc;simp only at hc;unfold cellAt ax;simp only[show Nat.beq 1 0=false from rfl,cond_false];cases aB:Nat.blt b h.n with
   | false=>rw[aB]at hc;cases hc
   | true =>
     rw[aB]at hc;simp only[cond_true]at hc ⊢;cases hk:h.b.get b with
     | none=>rw[hk]at hc;cases hc
     | some k =>
       rw[hk]at hc
       cases k with
       | cells cs e x =>
         simp only[g_]at hc ⊢
         obtain⟨h1,rfl⟩:=mj _ _ _ hc
         rw[List.getElem?_take_of_lt (by simp at hjl;omega),List.getElem?_drop]at hj
         have aB:=(List.getElem?_eq_some_iff.1 hj).1
         rw[List.drop_eq_getElem_cons aB]
         simp only[takeN,Option.map_some]
         rw[(List.getElem?_eq_some_iff.1 hj).2]
       | ro g =>
         obtain⟨i1,i2⟩:=nM _ _ _ hc
         have:=i2 j v hj
         simp only[gR,this]
       | _=>cases hc
def oc (B:Nat) (h:Heap) (a:Option Addr) (sz:Nat) (rows:List (List Value)):Prop :=
 ∀ i (hi:i<rows.length),∃ b off,a=some ⟨b,off,none⟩∧b<B∧ax h ⟨b,off+i*sz,none⟩ sz=some rows[i]
theorem oc.ext {B:Nat}{h h':Heap}{a:Option Addr}{sz:Nat}{rows:List (List Value)}(r:oc B h a sz rows) (e:ai B h h'):oc B h' a sz rows:=fun i hi=>by obtain⟨b,off,e1,e2,e3⟩:=r i hi;exact⟨b,off,e1,e2,cJ e e2 e3⟩
theorem oc.mono {B B':Nat}{h:Heap}{a:Option Addr}{sz:Nat}{rows:List (List Value)}(r:oc B h a sz rows) (hb:B≤B'):oc B' h a sz rows:=fun i hi=>by obtain⟨b,off,e1,e2,e3⟩:=r i hi;exact⟨b,off,e1,Nat.lt_of_lt_of_le e2 hb,e3⟩
inductive bn (B:Nat) (h:Heap) (e:TypeId):Value→Nat→List Value→Prop
 | nil:bn B h e (.slice none 0 0) 0 []
 | emp (i:Nat) (hi:i<h.n):bn B h e (.slice (some ⟨i,0,none⟩) 0 0) 0 []
 | row (i n:Nat) (cs:List Value) (hB:B≤i) (hi:i<h.n) (hb:h.b.get i=some (.cells cs e false)):bn B h e (.slice (some ⟨i,0,none⟩) n cY) n cs
theorem bn.ext {B B':Nat}{h h':Heap}{e:TypeId}{v:Value}{n:Nat}{cs:List Value}(o:bn B h e v n cs) (x:ai B' h h') (hB:h.n≤B'):bn B h' e v n cs:=by
 cases o with
 | nil=>exact .nil
 | emp i hi=>exact .emp i (Nat.lt_of_lt_of_le hi x.n)
 | row i n cs h1 h2 h3=>exact .row i n cs h1 (Nat.lt_of_lt_of_le h2 x.n) (by rw[x.get i (by omega)];exact h3)
theorem bn.new {B:Nat}{h:Heap}{e:TypeId}{v:Value}{n:Nat}{cs:List Value}(o:bn B h e v n cs) (k:fa):bn B (af h k) e v n cs:=o.ext (ai.new (B:=h.n) k (Nat.le_refl _)) (Nat.le_refl _)
section
variable {E:Env}{nt:Nat}{rd:Option Nat}{fr:Fr}{h:Heap}{K:Value→Heap→Prop}{x y z:Operand}{t t':TypeId}
theorem gK {v:Value}{l:List Value}(hz:zero E t=some v) (hl:v.cells.toList=l) (ho:l.all aF=true):bY E (.alloc t) fr h K=K (.pointer (some ⟨h.n,0,none⟩)) (af h (.cells l t true)):=by subst hl;rw[kL rfl (by simp)];simp[eN,aQ,hz,sQ,ho,dq]
def Ik (t:TypeId) (v:Value) (h:Heap) (K:Value→Heap→Prop) [Tok K]:Prop:=v.cells.toList.all aF=true∧K (.pointer (some ⟨h.n,0,none⟩)) (af h (.cells v.cells.toList t true))
theorem zV:bY E (.box t x) fr h K=bM E fr x fun v=>Ik t v h K:=by
 rw[kL rfl (by simp)];simp only[eN,aQ,bM,dq,Ik];cases ev E fr x with
 | none=>simp
 | some v =>
   simp only[sQ,Option.some.injEq,exists_eq_left']
   generalize v.cells.toList=l
   generalize hc:l.all aF=b
   cases b<;>simp
theorem Sz {v:Value}(hv:v.cells=#[v]) (ho:aF v=true):Ik t v h K=K (.pointer (some ⟨h.n,0,none⟩)) (af h (.cells [v] t true)):=by unfold Ik;rw[hv];simp[ho]
theorem Im {a:Option Addr}{n c:Nat}:Ik t (.slice a n c) h K=K (.pointer (some ⟨h.n,0,none⟩)) (af h (.cells [.slice a n c] t true)):=Sz rfl rfl
theorem AV {l:List Value}:Ik t (.agg ⟨l⟩) h K=(l.all aF=true∧K (.pointer (some ⟨h.n,0,none⟩)) (af h (.cells l t true))):=rfl
def Q4 (n:Nat) (p v:Value) (h:Heap) (K:Value→Heap→Prop) [Tok K]:Prop :=
 match p with
 | .pointer (some a)=>(v.cells.toList.length=n∧v.cells.toList.all aF=true)∧dq (cH h a v.cells.toList) fun h'=>K undef h'
 | _=>False
theorem HC {n:Nat}(hn:size E t=some n):bY E (.store t x y) fr h K=bM E fr x fun p=>bM E fr y fun v=>Q4 n p v h K:=by
 rw[mV rfl (by simp)];simp only[iw,aQ,bM,dq,Q4];cases ev E fr x with
 | none=>simp[kg]
 | some p =>
   cases ev E fr y with
   | none=>simp[kg]
   | some v =>
     simp only[storeAt,hn]
     cases p with
     | pointer a =>
       cases a with
       | none=>simp[kg]
       | some a =>
         simp only[Option.some.injEq,exists_eq_left']
         generalize v.cells.toList=l
         generalize h2:l.all aF=b
         cases hb:Nat.beq l.length n with
         | true =>
           have h1:l.length=n:=Nat.eq_of_beq_eq_true hb
           cases b with
           | true =>
             simp only[Bool.and_self,cond_true,h1,true_and,and_true]
             cases cH h a l with
             | none=>simp[kg]
             | some h'=>simp only[Option.map_some,fE];simp
           | false=>simp[kg]
         | false =>
           have h1:¬l.length=n:=Nat.ne_of_beq_eq_false hb
           simp[kg,h1]
     | _=>simp[kg]
theorem Wi {n:Nat}{cs l:List Value}{e:TypeId}{b:Bool}(h1:l.length=n) (h2:cs.length=n) (h3:l.all aF=true) (hn:n≠0) :
   Q4 n (.pointer (some ⟨h.n,0,none⟩)) (.agg ⟨l⟩) (af h (.cells cs e b)) K=K undef (af h (.cells l e b)):=by
 have ov:∀ (l cs:List Value),l.length=cs.length→over cs 0 l=some l:=by
   intro l;induction l with
   | nil=>intro cs hc;cases cs<;>simp at hc;rfl
   | cons a l ih =>
     intro cs hc
     cases cs with
     | nil=>simp at hc
     | cons c cs=>simp only[over,Nat.beq_refl,cond_true,ih cs (by simpa using hc),Option.map_some]
 have hw:cH (af h (.cells cs e b)) ⟨h.n,0,none⟩ l=some (af h (.cells l e b)):=by
   unfold cH;cases l with
   | nil=>simp at h1;omega
   | cons a l =>
     simp only[aC,ov (a::l) cs (by omega),Option.map_some]
     simp[af,T.set_set]
 simp only[Q4,Value.cells]
 rw[hw]
 simp[h1,h3]
theorem vt {i off:Nat}{cs cs' l:List Value}{e:TypeId}{b:Bool}(hb:h.b.get i=some (.cells cs e b)) (ho:over cs off l=some cs') (hl:l≠[]):cH h ⟨i,off,none⟩ l=some { h with b:=h.b.set i (.cells cs' e b) }:=by
 unfold cH;cases l with
 | nil=>exact absurd rfl hl
 | cons a l=>simp only[hb,ho,Option.map_some]
theorem lK {a b:Nat}(hn:a≠b):Nat.beq a b=false:=by
 cases h:Nat.beq a b with
 | true=>exact absurd (Nat.eq_of_beq_eq_true h) hn
 | false=>rfl
def nw (E:Env) (fr:Fr) (ps:List (Nat×Operand)) (K:List (Nat×Value)→Prop) [Tok K]:Prop:=dq (aA (fun (p:Nat×Operand)=>(ev E fr p.2).map (p.1,·)) ps) K
theorem S6 {K:List (Nat×Value)→Prop}:nw E fr [] K=K []:=by simp[nw,aA]
theorem Pd {i:Nat}{x:Operand}{ps:List (Nat×Operand)}{K:List (Nat×Value)→Prop}:nw E fr ((i,x)::ps) K=bM E fr x fun v=>nw E fr ps fun vs=>K ((i,v)::vs):=by
 simp only[nw,bM,aA,dq];cases ev E fr x with
 | none=>simp
 | some v=>cases aA (fun (p:Nat×Operand)=>(ev E fr p.2).map (p.1,·)) ps<;>simp
def elemOf (E:Env) (t:TypeId):Option (TypeId×Nat×List Value):=match a_ E t with
 | some (.slice elem)=>match E.l9.get elem with
   | some i=>match i.zero with
     | some z=>cond (Nat.beq z.cells.toList.length i.size&&!Nat.beq i.size 0&&Nat.ble i.bytes 10000) (some (elem,i.size,z.cells.toList)) none
     | none=>none
   | none=>none
 | _=>none
theorem tF {e:TypeId}{sz:Nat}{zs:List Value}(hx:elemOf E t=some (e,sz,zs)):∃ i z,a_ E t=some (.slice e)∧E.l9.get e=some i∧i.zero=some z∧i.size=sz∧z.cells.toList=zs∧zs.length=sz∧sz≠0∧i.bytes≤10000:=by
 unfold elemOf at hx;split at hx
 · rename_i elem hu;split at hx
   · rename_i i hi;split at hx
     · rename_i z hz;cases hc:(Nat.beq z.cells.toList.length i.size&&!Nat.beq i.size 0&&Nat.ble i.bytes 10000) with
       | false=>rw[hc]at hx;cases hx
       | true =>rw[hc]at hx;cases hx;simp only[Bool.and_eq_true,Bool.not_eq_true']at hc;exact⟨i,z,hu,hi,hz,rfl,rfl,Nat.eq_of_beq_eq_true hc.1.1,Nat.ne_of_beq_eq_false hc.1.2,Nat.le_of_ble_eq_true hc.2⟩
     · cases hx
   · cases hx
 · cases hx
def RZ (e:TypeId) (sz:Nat) (zs:List Value) (len:Nat) (ps:List (Nat×Value)) (h:Heap) (K:Value→Heap→Prop) [Tok K]:Prop :=
 dq (gg (fun k=>some (k*sz,sz)) (rep len zs) ps) fun l=>K (.slice (some ⟨h.n,0,none⟩) len len) (af h (.cells l e true))
theorem wX {e:TypeId}{sz len:Nat}{zs:List Value}{ps:List (Nat×Operand)}(hx:elemOf E t=some (e,sz,zs)) (hl:len*sz≤1000000) :
   bY E (.buildSlice t len ⟨ps⟩) fr h K=nw E fr ps fun l=>RZ e sz zs len l h K:=by
 obtain⟨i,z,h1,h2,h3,h4,h5,h6,h7,h8⟩:=tF hx
 subst h4 h5
 rw[kL rfl (by simp)]
 simp only[eN,aQ,VU,nw,dq,RZ]
 cases aA (fun (p:Nat×Operand)=>(ev E fr p.2).map (p.1,·)) ps with
 | none=>simp
 | some l =>
   have hc:(Nat.ble (len*i.size) 1000000&&Nat.beq z.cells.toList.length i.size&&!Nat.beq i.size 0)=true:=by simp only[Bool.and_eq_true,Bool.not_eq_true'];exact⟨⟨Nat.ble_eq_true_of_le hl,by rw[h6];exact Nat.beq_refl _⟩,lK h7⟩
   simp only[oI,h1,h2,h3,hc,cond_true,Option.some.injEq,exists_eq_left']
   cases gg (fun k=>some (k*i.size,i.size)) (rep len z.cells.toList) l<;>simp
theorem oR {f:Nat→Option (Nat×Nat)}{cs:List Value}:gg f cs []=some cs:=rfl
theorem VL {e:TypeId}{sz:Nat}{zs l:List Value}{v:Value}(hv:v.cells.toList=l) (hl:l.length=sz) (hz:zs.length=sz) (h0:sz≠0):RZ e sz zs 1 [(0,v)] h K=K (.slice (some ⟨h.n,0,none⟩) 1 1) (af h (.cells l e true)):=by
 have ov:∀ (l cs:List Value),l.length=cs.length→over cs 0 l=some l:=by
   intro l;induction l with
   | nil=>intro cs hc;cases cs<;>simp at hc;rfl
   | cons a l ih =>
     intro cs hc
     cases cs with
     | nil=>simp at hc
     | cons c cs=>simp only[over,Nat.beq_refl,cond_true,ih cs (by simpa using hc),Option.map_some]
 subst hv;have hb:Nat.blt 0 sz=true:=by rw[blt_eq];simp;omega
 have hb2:Nat.beq v.cells.toList.length sz=true:=by rw[hl];exact Nat.beq_refl _
 have:gg (fun k=>some (k*sz,sz)) (rep 1 zs) [(0,v)]=some v.cells.toList:=by simp only[gg,rep,List.append_nil,Nat.zero_mul,hb,hb2,cond_true,ov v.cells.toList zs (by omega)]
 unfold RZ;rw[this,aU]
def jN (e:TypeId) (sz:Nat) (s y:Value) (h:Heap) (K:Value→Heap→Prop) [Tok K]:Prop :=
 match s,lenOf y with
 | .slice base sl sc,some n=>((sl+n≤1000000∧(sl≤sc∨n≠0)) ∧
   ((n=0→K (.slice base sl sc) h)∧(n≠0→dq (firstCells h sz n y) fun new=>new.all aF=true∧kg (cy h e sz base sl sc n new) K)))
 | _,_=>False
def YS (E:Env) (t:TypeId):Bool:=((a_ E t).map wE)==some true
theorem jl {e:TypeId}{sz:Nat}{zs:List Value}(hx:elemOf E t=some (e,sz,zs)) (hs:YS E t'=true) :
   bY E (.call ⟨.builtin .append,⟨[x,y]⟩,⟨[t,t']⟩⟩) fr h K=bM E fr x fun s=>bM E fr y fun v=>jN e sz s v h K:=by
 obtain⟨i,z,h1,h2,h3,h4,h5,h6,h7,h8⟩:=tF hx
 subst h4 h5
 have hs':(a_ E t').map wE=some true:=by simpa[YS]using hs
 simp only[bY,fF,iq,nv,lX,aQ,kindOf,iw,wk,aA,bM,dq,jN]
 cases ev E fr x with
 | none=>simp[kg]
 | some s =>
   cases ev E fr y with
   | none=>simp[kg]
   | some v =>
     simp only[Option.some.injEq,exists_eq_left',uD]
     cases s with
     | slice base sl sc =>
       simp only[h1,h2,hs']
       cases hlen:lenOf v with
       | none=>simp[kg]
       | some n =>
         simp only
         rw[h3]
         simp only
         have e1:Nat.beq z.cells.toList.length i.size=true:=by rw[h6];exact Nat.beq_refl _
         have e2:Nat.beq i.size 0=false:=lK h7
         have e3:Nat.ble i.bytes 10000=true:=Nat.ble_eq_true_of_le h8
         rw[e1,e2,e3]
         simp only[Bool.not_false,Bool.true_and]
         by_cases c1:sl+n≤1000000
         · by_cases c2:sl≤sc∨n≠0
           · have f1:Nat.ble (sl+n) 1000000=true:=Nat.ble_eq_true_of_le c1;have f2:(Nat.ble sl sc || !Nat.beq n 0)=true:=by
               rcases c2 with c2|c2;· rw[Nat.ble_eq_true_of_le c2];rfl
               · rw[lK c2];simp
             rw[f1,f2];simp only[Bool.and_self,cond_true,c1,c2,true_and];by_cases hn:n=0;· subst hn;simp[fE]
             · have f3:Nat.beq n 0=false:=lK hn;rw[f3];simp only[cond_false];cases firstCells h i.size n v with
               | none=>simp[kg,hn]
               | some new =>simp only[Option.some.injEq,exists_eq_left'];generalize new.all aF=b;cases b<;>simp[u4,hn]
           · have f2:(Nat.ble sl sc || !Nat.beq n 0)=false:=by
               have a1:¬sl≤sc:=fun a=>c2 (.inl a);have a2:n=0:=by
                 by_cases hn:n=0;· exact hn
                 · exact absurd (.inr hn) c2
               subst a2;cases hb:Nat.ble sl sc with
               | true=>exact absurd (Nat.le_of_ble_eq_true hb) a1
               | false=>rfl
             rw[f2];simp[u4,c2]
         · have f1:Nat.ble (sl+n) 1000000=false:=by
             cases hb:Nat.ble (sl+n) 1000000 with
             | true=>exact absurd (Nat.le_of_ble_eq_true hb) c1
             | false=>rfl
           rw[f1];simp[u4,c1]
     | _=>simp[kg]
theorem Av {B:Nat}{e:TypeId}{sz n m:Nat}{s y:Value}{cs new:List Value}(o:bn B h e s n cs) (hB:B≤h.n) (hlen:cs.length=n*sz) (hy:lenOf y=some m) (hm:m≠0) (hsz:n+m≤1000000)
   (hnew:firstCells h sz m y=some new) (hnl:new.length=m*sz) (hone:new.all aF=true) (hpos:sz≠0)
   (k:∀ v' h',bn B h' e v' (n+m) (cs++new)→ai B h h'→h'.n=h.n+1→K v' h'):jN e sz s y h K:=by
 have pos:0<m*sz:=Nat.mul_pos (by omega) (by omega)
 cases o with
 | nil =>
   simp only[jN,hy]
   refine⟨⟨by omega,.inr hm⟩,fun h0=>absurd h0 hm,fun _=>?_⟩
   rw[hnew,aU]
   refine⟨hone,?_⟩
   have:cy h e sz none 0 0 m new=some (.slice (some ⟨h.n,0,none⟩) m cY,af h (.cells ([]++new) e false)):=by
     unfold cy;have f1:Nat.beq 0 fY=false:=rfl;have f2:Nat.beq 0 cY=false:=rfl;have f3:Nat.ble m 0=false:=by
       cases hb:Nat.ble m 0 with
       | true=>have:=Nat.le_of_ble_eq_true hb;omega
       | false=>rfl
     simp only[f1,f2,cond_false,firstCells,Nat.beq_refl,cond_true,Nat.zero_add,f3]
   rw[this,fE]
   refine k _ _ ?_ (ai.new _ hB) rfl
   rw[Nat.zero_add]
   exact .row h.n m _ hB (by simp[af]) (aC _ _)
 | emp i0 hi0 =>
   simp only[jN,hy]
   refine⟨⟨by omega,.inr hm⟩,fun h0=>absurd h0 hm,fun _=>?_⟩
   rw[hnew,aU]
   refine⟨hone,?_⟩
   have:cy h e sz (some ⟨i0,0,none⟩) 0 0 m new=some (.slice (some ⟨h.n,0,none⟩) m cY,af h (.cells ([]++new) e false)):=by
     unfold cy;have f1:Nat.beq 0 fY=false:=rfl;have f2:Nat.beq 0 cY=false:=rfl;have f3:Nat.ble m 0=false:=by
       cases hb:Nat.ble m 0 with
       | true=>have:=Nat.le_of_ble_eq_true hb;omega
       | false=>rfl
     simp only[f1,f2,cond_false,firstCells,ax,Nat.zero_mul,Nat.beq_refl,cond_true,Nat.zero_add,f3]
   rw[this,fE]
   refine k _ _ ?_ (ai.new _ hB) rfl
   rw[Nat.zero_add]
   exact .row h.n m _ hB (by simp[af]) (aC _ _)
 | row i n cs h1 h2 h3 =>
   simp only[jN,hy]
   refine⟨⟨by omega,.inr hm⟩,fun h0=>absurd h0 hm,fun _=>?_⟩
   rw[hnew,aU]
   refine⟨hone,?_⟩
   have:cy h e sz (some ⟨i,0,none⟩) n cY m new=some (.slice (some ⟨h.n,0,none⟩) (n+m) cY,af { h with b:=h.b.set i .dead } (.cells (cs++new) e false)):=by
     unfold cy;have f1:Nat.beq cY fY=false:=rfl;have f2:Nat.beq cY cY=true:=Nat.beq_refl _;have f3:Nat.ble ((n+m)*sz) cs.length=false:=by
       cases hb:Nat.ble ((n+m)*sz) cs.length with
       | true =>
         have:=Nat.le_of_ble_eq_true hb
         rw[hlen,Nat.add_mul]at this
         omega
       | false=>rfl
     have f4:Nat.beq (n*sz) cs.length=true:=by rw[hlen];exact Nat.beq_refl _
     simp only[f1,f2,h3,cond_false,cond_true,Nat.beq_refl,f3,f4]
   rw[this,fE]
   refine k _ _ ?_ ?_ rfl
   · exact .row h.n (n+m) _ hB (by simp[af]) (by simp[af,T.ah])
   · refine⟨by simp[af],fun j hj=>?_⟩;simp only[af];rw[T.ar _ _ (by omega),T.ar _ _ (by omega)]
end
section
variable {E:Env}{fr:Fr}{h:Heap}{K:Value→Heap→Prop}{x y:Operand}{t:TypeId}
theorem FE {g:Nat}{K:Value→Prop}(hg:Nat.blt g E.ng=true):bM E fr (.global g) K=K (.pointer (some ⟨g,0,none⟩)):=by simp[bM,ev,hg]
def wM (E:Env) (t:TypeId):Option (Nat×Nat):=match a_ E t with
 | some (.array n e)=>(size E e).map fun s=>(n,s)
 | _=>none
def yx (n sz:Nat) (x i:Value) (K:Value→Prop) [Tok K]:Prop:=match x,i with
 | .pointer (some a),.int _ i=>(0≤i∧i<(n:Int))∧K (.pointer (some (a.add (i.toNat*sz))))
 | _,_=>False
theorem kr {n sz:Nat}(ht:wM E t=some (n,sz)):bY E (.indexAddr t x y) fr h K=bM E fr x fun v=>bM E fr y fun i=>yx n sz v i fun u=>K u h:=by
 rw[dS rfl (by simp)];simp only[cX,aQ,bM,dq,yx];cases ev E fr x with
 | none=>simp
 | some v =>
   cases ev E fr y with
   | none=>simp
   | some i =>
     simp only[kE]
     unfold wM at ht
     cases hu:a_ E t with
     | none=>rw[hu]at ht;cases ht
     | some d =>
       rw[hu]at ht
       cases d with
       | array m e =>
         simp only[Option.map_eq_some_iff,Prod.mk.injEq]at ht
         obtain⟨s,hs,rfl,rfl⟩:=ht
         cases v with
         | pointer a =>
           cases a with
           | none=>simp
           | some a =>
             cases i with
             | int k i =>
               simp only[hs]
               by_cases h0:0≤i
               · by_cases h1:i<(m:Int)<;>simp[h0,h1]
               · simp[h0]
             | _=>simp
         | _=>simp
       | _=>simp at ht
theorem HO {n sz:Nat}{a:Addr}{k:IntKind}{i:Int}{K:Value→Prop}:yx n sz (.pointer (some a)) (.int k i) K=((0≤i∧i<(n:Int))∧K (.pointer (some (a.add (i.toNat*sz))))):=Eq.trans rfl rfl
theorem iU (a b:ByteArray):eqStr a b=decide (a=b):=by
 rw[Bool.eq_iff_iff,decide_eq_true_eq];simp only[eqStr,beq_iff_eq];constructor
 · intro h;have:∀ (x y:List UInt8),x.map (·.toNat)=y.map (·.toNat)→x=y:=by
     intro x;induction x with
     | nil=>intro y h;cases y<;>simp at h;rfl
     | cons c x ih =>
       intro y h
       cases y with
       | nil=>simp at h
       | cons d y=>simp only[List.map_cons,List.cons.injEq]at h;rw[ih y h.2,UInt8.toNat_inj.1 h.1]
   have:=this _ _ h;cases a;cases b;simp only at this;congr 1;exact Array.toList_inj.1 this
 · intro h;rw[h]
section
variable {c:Bool}{a b:ByteArray}{K:Value→Prop}
theorem Nl:cd E .eql t c (.string a) (.string b) K=qj (a=b) (K (.bool true)) (K (.bool false)):=by
 by_cases hp:a=b;·rw[show (a=b)=True from eq_true hp,gj];simp[cd,dN,iU,hp]
 ·rw[show (a=b)=False from eq_false hp,fg];simp[cd,dN,iU,hp]
theorem Py:cd E .neq t c (.string a) (.string b) K=qj (a=b) (K (.bool false)) (K (.bool true)):=by
 by_cases hp:a=b;·rw[show (a=b)=True from eq_true hp,gj];simp[cd,dN,iU,hp]
 ·rw[show (a=b)=False from eq_false hp,fg];simp[cd,dN,iU,hp]
end
theorem N0 {c:Bool}{xs ys:List Value}{K:Value→Prop}{b:Bool}(hp:plainKey E 20 t=true) (he:sL E 100 t (.agg ⟨xs⟩) (.agg ⟨ys⟩)=some b):cd E .neq t c (.agg ⟨xs⟩) (.agg ⟨ys⟩) K=K (.bool (!b)):=by simp[cd,dN,hp,he]
theorem LF {c:Bool}{xs ys:List Value}{K:Value→Prop}{b:Bool}(hp:plainKey E 20 t=true) (he:sL E 100 t (.agg ⟨xs⟩) (.agg ⟨ys⟩)=some b):cd E .eql t c (.agg ⟨xs⟩) (.agg ⟨ys⟩) K=K (.bool b):=by simp[cd,dN,hp,he]
def qI (r k:Option Bool):Option Bool:=match r with
 | some true=>k
 | r=>r
theorem vS {a b:Bool}:qI (some a) (some b)=some (a&&b):=by cases a<;>rfl
theorem YX (a b:Int):(a==b)=decide (a=b):=rfl
section
variable {c:Bool}{xs ys:List Value}{K:Value→Prop}{p:Prop}[Decidable p]
theorem Br (hp:plainKey E 20 t=true) (he:sL E 100 t (.agg ⟨xs⟩) (.agg ⟨ys⟩)=some (decide p)):cd E .neq t c (.agg ⟨xs⟩) (.agg ⟨ys⟩) K=qj p (K (.bool false)) (K (.bool true)):=by
 rw[N0 hp he];by_cases h:p;·rw[decide_eq_true h,eq_true h,gj];simp
 ·rw[decide_eq_false h,eq_false h,fg];simp
theorem J5 (hp:plainKey E 20 t=true) (he:sL E 100 t (.agg ⟨xs⟩) (.agg ⟨ys⟩)=some (decide p)):cd E .eql t c (.agg ⟨xs⟩) (.agg ⟨ys⟩) K=qj p (K (.bool true)) (K (.bool false)):=by
 rw[LF hp he];by_cases h:p;·rw[decide_eq_true h,eq_true h,gj]
 ·rw[decide_eq_false h,eq_false h,fg]
end
theorem bB {cs:List Value}{e:TypeId}{b:Bool}{off:Nat}:cellAt (af h (.cells cs e b)) ⟨h.n,off,none⟩=cs[off]?:=by
 by_cases aB:off<cs.length;·rw[List.getElem?_eq_getElem aB];exact EK (List.getElem?_eq_getElem aB)
 ·rw[List.getElem?_eq_none (by omega)];unfold cellAt ax;have h1:Nat.blt h.n (af h (.cells cs e b)).n=true:=by simp[blt_eq,af]
  simp only[show Nat.beq 1 0=false from rfl,cond_false,h1,cond_true,aC,g_];rw[List.drop_eq_nil_of_le (by omega)];rfl
theorem bA {cs:List Value}{e:TypeId}{b:Bool}{n:Nat}(hn:cs.length=n):ax (af h (.cells cs e b)) ⟨h.n,0,none⟩ n=some cs :=
 aJ (by simp[af]) (aC _ _) (by simp[← hn]) hn
theorem eP {k:fa}{i off:Nat}(hi:i<h.n):cellAt (af h k) ⟨i,off,none⟩=cellAt h ⟨i,off,none⟩:=by
 have hi':i<(af h k).n:=by simp[af];omega
 unfold cellAt ax;simp only[fB k hi,blt_eq,hi,hi',decide_true,cond_true]
theorem AY {k:fa}{i off n:Nat}(hi:i<h.n):ax (af h k) ⟨i,off,none⟩ n=ax h ⟨i,off,none⟩ n:=by
 have hi':i<(af h k).n:=by simp[af];omega
 unfold ax;simp only[fB k hi,blt_eq,hi,hi',decide_true,cond_true]
theorem zE {sz:Nat}:∀ (rows:List (List Value)) (i:Nat),(∀ r∈rows,r.length=sz)→∀ (hi:i<rows.length),(rows.flatten.drop (i*sz)).take sz=rows[i]
 | r::rows,0,hl,_=>by have:=hl r (List.mem_cons_self ..);simp[← this]
 | r::rows,i+1,hl,hi=>by have h1:=hl r (List.mem_cons_self ..);have:=zE rows i (fun r hr=>hl r (List.mem_cons_of_mem _ hr)) (by simpa using hi);rw[List.flatten_cons,List.drop_append,show (i+1)*sz-r.length=i*sz by rw[h1,Nat.add_mul];omega,List.drop_eq_nil_of_le (by rw[h1,Nat.add_mul];omega)];simpa using this
theorem BU {sz:Nat}:∀ (rows:List (List Value)),(∀ r∈rows,r.length=sz)→rows.flatten.length=rows.length*sz
 | [],_=>by simp
 | r::rows,hl=>by have h1:=hl r (List.mem_cons_self ..);have:=BU rows (fun r hr=>hl r (List.mem_cons_of_mem _ hr));rw[List.flatten_cons,List.length_append,this,h1,List.length_cons,Nat.add_mul];omega
theorem bn.rowAt {B:Nat}{e:TypeId}{v:Value}{n sz:Nat}{rows:List (List Value)}(o:bn B h e v n rows.flatten) (hl:∀ r∈rows,r.length=sz) (hn:n=rows.length) :
   ∃ a c,v=.slice a rows.length c∧oc h.n h a sz rows:=by
 subst hn
 generalize hcs:rows.flatten=cs at o
 generalize hm:rows.length=m at o ⊢
 cases o with
 | nil =>
   refine⟨none,0,by rw[show (0:Nat)=0 from rfl],fun i hi=>?_⟩
   omega
 | emp i0 hi0 =>
   refine⟨some ⟨i0,0,none⟩,0,by rw[show (0:Nat)=0 from rfl],fun i hi=>?_⟩
   omega
 | row i m cs h1 h2 h3 =>
   subst hcs
   refine⟨_,_,rfl,fun j hj=>⟨i,0,rfl,h2,?_⟩⟩
   exact aJ h2 h3 (by rw[Nat.zero_add];exact zE rows j hl hj) (hl _ (List.getElem_mem _))
theorem q_ {n:Nat}{cs l:List Value}{e:TypeId}{b:Bool}(hc:(Nat.beq l.length n&&Nat.beq cs.length n&&l.all aF&&!Nat.beq n 0)=true) (k:K undef (af h (.cells l e b))) :
  Q4 n (.pointer (some ⟨h.n,0,none⟩)) (.agg ⟨l⟩) (af h (.cells cs e b)) K:=by
 simp only[Bool.and_eq_true,Bool.not_eq_true']at hc
 rw[Wi (Nat.eq_of_beq_eq_true hc.1.1.1) (Nat.eq_of_beq_eq_true hc.1.1.2) hc.1.2 (Nat.ne_of_beq_eq_false hc.2)]
 exact k
theorem uo {e:TypeId}{sz:Nat}{zs:List Value}{v:Value}(hc:(Nat.beq v.cells.toList.length sz&&Nat.beq zs.length sz&&!Nat.beq sz 0)=true) (k:K (.slice (some ⟨h.n,0,none⟩) 1 1) (af h (.cells v.cells.toList e true))):RZ e sz zs 1 [(0,v)] h K:=by simp only[Bool.and_eq_true,Bool.not_eq_true']at hc;rw[VL rfl (Nat.eq_of_beq_eq_true hc.1.1) (Nat.eq_of_beq_eq_true hc.1.2) (Nat.ne_of_beq_eq_false hc.2)];exact k
theorem lf {e:TypeId}{sz len:Nat}{zs l:List Value}{ps:List (Nat×Value)}(hf:gg (fun k=>some (k*sz,sz)) (rep len zs) ps=some l) (k:K (.slice (some ⟨h.n,0,none⟩) len len) (af h (.cells l e true))):RZ e sz zs len ps h K:=by unfold RZ;rw[hf,aU];exact k
end
theorem wrap_i64 {n:Int}(h0 : -9223372036854775808≤n) (h1:n≤9223372036854775807):IntKind.wrap .i64 n=n:=by rw[IntKind.wrap_i64];omega
theorem wrap_u64 {n:Int}(h0:0≤n) (h1:n≤18446744073709551615):IntKind.wrap .u64 n=n:=by simp[IntKind.wrap,IntKind.bits,IntKind.signed];omega
theorem wrap_u8 {n:Int}(h0:0≤n) (h1:n≤255):IntKind.wrap .u8 n=n:=by rw[IntKind.wrap_u8];omega
theorem bf {k:Nat}(h:k≤4611686018427387904):IntKind.wrap .i64 ((k:Int)+1)=((k+1:Nat):Int):=by rw[wrap_i64 (by omega) (by omega)];omega
section
variable {E:Env}{fr:Fr}{h:Heap}{K:Value→Heap→Prop}{x y z:Operand}{t t':TypeId}
def Xc (op:UnOp) (v:Value) (K:Value→Prop) [Tok K]:Prop:=dq (W_ op v) K
theorem VS {op:UnOp}:bY E (.unOp op t x) fr h K=bM E fr x fun v=>Xc op v fun u=>K u h:=by rw[dS rfl (by simp)];simp only[cX,aQ,bM,dq,Xc];cases ev E fr x<;>simp
theorem Wo {b:Bool}{K:Value→Prop}:Xc .not (.bool b) K=K (.bool !b):=by simp[Xc,W_]
theorem VK {k:IntKind}{n:Int}{K:Value→Prop}:Xc .neg (.int k n) K=K (.int k (k.wrap (0-n))):=by simp[Xc,W_]
def Wp (E:Env) (t:TypeId):Option IntKind:=match a_ E t with|some (.int k)=>some k|_=>none
def jV (k:IntKind) (v:Value) (K:Value→Prop) [Tok K]:Prop:=match v with|.int _ n=>K (.int k (k.wrap n))|_=>False
theorem fo {k k':IntKind}(h1:Wp E t=some k') (h2:Wp E t'=some k):bY E (.convert t t' x) fr h K=bM E fr x fun v=>jV k v fun u=>K u h:=by
 unfold Wp at h1 h2;split at h1
 ·rename_i k1 hu1;split at h2
  ·rename_i k2 hu2;cases h2;rw[dS (by simp[kindOf,hu1]) (by simp)];simp only[cX,aQ,bM,dq,jV];cases ev E fr x with
   | none=>simp
   | some v=>cases v<;>simp[rj,hu1,hu2]
  ·cases h2
 ·cases h1
theorem wy {k k':IntKind}{n:Int}{K:Value→Prop}:jV k (.int k' n) K=K (.int k (k.wrap n)):=Eq.trans rfl rfl
def rM (E:Env) (t t':TypeId):Bool:=match a_ E t,a_ E t' with
 | some (.slice e),some .string=>(match a_ E e with|some (.int .u8)=>true|_=>false)
 | _,_=>false
def qW (h:Heap) (v:Value) (K:Value→Prop) [Tok K]:Prop:=match v with
 | .slice none _ _=>K (.string .empty)
 | .slice (some a) n _=>dq (match ax h a n with|some l=>(aA byteOf l).map fun l=>(⟨l.toArray⟩:ByteArray)|none=>none) fun s=>K (.string s)
 | _=>False
theorem Dg (hb:rM E t t'=true):bY E (.convert t t' x) fr h K=bM E fr x fun v=>qW h v fun u=>K u h:=by
 unfold rM at hb;split at hb
 · rename_i e hu1 hu2;split at hb
   · rename_i hu3;rw[ow (by simp[kindOf,hu1,hu2]) (by simp)];simp only[dP,aQ,bM,dq,qW];cases ev E fr x with
     | none=>simp
     | some v =>
       simp only[ji,hu1,hu2,hu3];cases v with
       | slice a n c =>
         cases a with
         | none=>simp
         | some a =>
           simp only[Option.some.injEq,exists_eq_left']
           generalize ax h a n=r
           cases r with
           | none=>simp
           | some l =>
             simp only
             generalize aA byteOf l=q
             cases q<;>simp
       | _=>simp
   · cases hb
 · cases hb
def fldPl (E:Env) (t:TypeId) (f:Nat):Option (Nat×Option Nat):=match a_ E t with
 | some (.struct fields)=>match nth fields.toList f with
   | some fd=>match E.l9.get fd.type with
     | some i=>match i.desc with
       | .struct _|.array _ _=>some (fd.offset,some i.size)
       | .invalid=>none
       | _=>some (fd.offset,none)
     | none=>none
   | none=>none
 | _=>none
def Vo (i:Nat) (v:Value) (K:Value→Prop) [Tok K]:Prop:=match v with|.tuple cs=>dq cs.toList[i]? K|_=>False
theorem CR {i:Nat}:bY E (.extract x i) fr h K=bM E fr x fun v=>Vo i v fun u=>K u h:=by
 rw[dS rfl (by simp)];simp only[cX,aQ,bM,dq,Vo];cases ev E fr x with
 | none=>simp
 | some v=>cases v<;>simp[bK]
theorem HD {i:Nat}{l:List Value}{K:Value→Prop}:Vo i (.tuple ⟨l⟩) K=dq l[i]? K:=Eq.trans rfl rfl
theorem At {fn:Fn}{f c:List Operand}(hy:Ag fn=false):bY E (.makeFunc fn ⟨f⟩ ⟨c⟩) fr h K=lE E fr f fun fs=>lE E fr c fun cs=>K (.func fn ⟨fs⟩ ⟨cs⟩) h:=by
 rw[dS rfl (by simp)];simp only[cX,aQ,lE,wk,dq];cases aA (ev E fr) f with
 | none=>simp
 | some fs=>cases aA (ev E fr) c<;>simp[hy]
theorem xC {g:FuncId}{f c:List Operand}:bY E (.makeFunc (.func g) ⟨f⟩ ⟨c⟩) fr h K=lE E fr f fun fs=>lE E fr c fun cs=>K (.func (.func g) ⟨fs⟩ ⟨cs⟩) h:=At rfl
def placesOf (E:Env) (t:TypeId):Option (List Value×List (Nat×Nat)):=match zero E t,a_ E t with
 | some z,some (.struct fields)=>(aA (fun f=>(size E f.type).map (f.offset,·)) fields.toList).map fun p=>(z.cells.toList,p)
 | _,_=>none
def QU (zs:List Value) (pl:List (Nat×Nat)) (ps:List (Nat×Value)) (K:Value→Prop) [Tok K]:Prop:=dq (gg (nth pl) zs ps) fun l=>K (.agg ⟨l⟩)
theorem ml {zs:List Value}{pl:List (Nat×Nat)}{ps:List (Nat×Operand)}(hp:placesOf E t=some (zs,pl)):bY E (.build t ⟨ps⟩) fr h K=nw E fr ps fun l=>QU zs pl l fun u=>K u h:=by
 unfold placesOf at hp;split at hp
 · rename_i z fields hz hu;simp only[Option.map_eq_some_iff,Prod.mk.injEq]at hp;obtain⟨p,hp,rfl,rfl⟩:=hp;rw[dS rfl (by simp)];simp only[cX,aQ,VU,nw,dq,QU];cases aA (fun (p:Nat×Operand)=>(ev E fr p.2).map (p.1,·)) ps with
   | none=>simp
   | some l =>simp only[vu,hz,hu,hp,Option.some.injEq,exists_eq_left'];generalize gg (nth p) z.cells.toList l=r;cases r<;>simp
 · cases hp
theorem Hs {zs l:List Value}{pl:List (Nat×Nat)}{ps:List (Nat×Value)}{K:Value→Prop}(hf:gg (nth pl) zs ps=some l) (k:K (.agg ⟨l⟩)):QU zs pl ps K:=by unfold QU;rw[hf,aU];exact k
theorem mB {f:Nat→Option (Nat×Nat)}{cs:List Value}{i:Nat}{v:Value}{ps:List (Nat×Value)}:gg f cs ((i,v)::ps)=match f i with
  | none=>none
  | some (off,n)=>cond (Nat.blt 0 n) (cond (Nat.beq v.cells.toList.length n) (match over cs off v.cells.toList with|some cs=>gg f cs ps|none=>none) none) none:=rfl
theorem z6:bY E (.nilCheck x) fr h K=bM E fr x fun v=>match v with
   | .pointer (some a)=>K (.pointer (some a)) h
   | .iface t v=>K (.iface t v) h
   | .func (.func f) a b=>K (.func (.func f) a b) h
   | .func (.yield l) a b=>K (.func (.yield l) a b) h
   | _=>False:=by
 rw[dS rfl (by simp)]
 simp only[cX,aQ,bM,dq]
 cases ev E fr x with
 | none=>simp
 | some v =>
   cases v with
   | pointer a=>cases a<;>simp
   | func fn a b=>cases fn<;>simp
   | _=>simp
end
section
variable {α:Type}[DecidableEq α]
def ent (kv:α→Value) (p:α×Value×Nat):Value×Value×Nat:=(kv p.1,p.2.1,p.2.2)
structure KeyOK (E:Env) (kt:TypeId) (kv:α→Value):Prop where
 a_:∃ d,a_ E kt=some d∧∀ a b,(cond (iT d) (eH d (kv a) (kv b)) (sL E 100 kt (kv a) (kv b)))=some (decide (a=b))
 chk:∀ a,cI E 20 kt (kv a)=true
 same:∀ a,aW 50 (kv a) (kv a)=true
variable {kv:α→Value}
end
section
variable {α:Type}[DecidableEq α] {kv:α→Value}{E:Env}{fr:Fr}{h:Heap}{K:Value→Heap→Prop}{x y z:Operand}{t t' kt et:TypeId}{r:Nat}{f:α→Option Value}{k:α}
def qo (E:Env) (t:TypeId) (m k:Value) (ok:Bool) (h:Heap) (K:Value→Prop) [Tok K]:Prop:=dq (iy E t m k ok h) K
theorem FG {ok:Bool}:bY E (.lookup t x y ok) fr h K=bM E fr x fun m=>bM E fr y fun k=>qo E t m k ok h fun u=>K u h:=by
 rw[ow rfl (by simp)];simp only[dP,aQ,bM,dq,qo];cases ev E fr x with
 | none=>simp
 | some v=>cases ev E fr y<;>simp
def Iq (E:Env) (t:TypeId) (m k v:Value) (h:Heap) (K:Value→Heap→Prop) [Tok K]:Prop:=dq (cG E t m k v h) fun h'=>K undef h'
theorem rE (hu:(a_ E t).isSome=true) (hns:E.smap t=true):bY E (.makeMap t none) fr h K=K (.map (some h.n)) (af h (.smap [])):=by obtain⟨d,hd⟩:=Option.isSome_iff_exists.1 hu;rw[kL rfl (by simp)];simp[eN,aQ,hd,dq,hns]
theorem tD (hu:(a_ E t).isSome=true) (hns:E.smap t=false):bY E (.makeMap t none) fr h K=K (.map (some h.n)) (af h (.map [] 0)):=by obtain⟨d,hd⟩:=Option.isSome_iff_exists.1 hu;rw[kL rfl (by simp)];simp[eN,aQ,hd,dq,hns]
end
section
variable {E:Env}{nt:Nat}{rd:Option Nat}{fr:Fr}{h:Heap}{K:Value→Heap→Prop}{x y z:Operand}{t t':TypeId}
def capK (v:Value) (K:Value→Prop) [Tok K]:Prop:=match v with
 | .slice _ _ c=>c<cY∧K (.int .i64 c)
 | _=>False
def DD (E:Env) (fr:Fr) (o:Option Operand) (K:Option Value→Prop) [Tok K]:Prop:=dq (Fh E fr o) K
theorem L4 {K:Option Value→Prop}:DD E fr none K=K none:=by simp[DD,Fh]
theorem PN {K:Option Value→Prop}:DD E fr (some x) K=bM E fr x fun v=>K (some v):=by simp only[DD,Fh,bM,dq];cases ev E fr x<;>simp
def Zc (sz:Nat) (v:Value) (lo hi mx:Option Value) (K:Value→Prop) [Tok K]:Prop:=match v,lo,hi,mx with
 | .slice a n c,none,some (.int _ j),none=>((c=cY∧sz≠0∧0≤j∧j≤n)∧K (.slice a j.toNat cY))∨((c<cY∧0≤j∧j≤c)∧K (.slice a j.toNat c))
 | .slice a n c,some (.int _ i),some (.int _ j),none=>(c<cY∧0≤i∧i≤j∧j≤c)∧K (.slice (cond (Nat.beq c i.toNat) a (a.map (·.add (i.toNat*sz)))) (j-i).toNat (c-i.toNat))
 | _,_,_,_=>False
theorem Wu {sz:Nat}{e:TypeId}{v:Value}{lo hi mx:Option Value}{K:Value→Prop}(hu:a_ E t=some (.slice e)) (hs:size E e=some sz) (w:Zc sz v lo hi mx K):dq (eB E t v lo hi mx) K:=by
 unfold Zc at w;split at w
 ·rename_i a n c k j;rcases w with ⟨⟨rfl,h1,h2,h3⟩,w⟩|⟨⟨h1,h2,h3⟩,w⟩
  ·have e2:Nat.beq cY fY=false:=rfl;have hb:cg n n none (some (.int k j)) none=some (0,j.toNat,n):=by simp[cg,fp,dL,bound,h2,h3]
   have e3:eB E t (.slice a n cY) none (some (.int k j)) none=some (.slice a j.toNat cY):=by obtain⟨m,rfl⟩:∃ m,sz=m+1:=⟨sz-1,by omega⟩;simp[eB,hu,e2,hb,hs]
   rw[e3,aU];exact w
  ·have e2:Nat.beq c fY=false:=by
    cases hc:Nat.beq c fY with
    | true=>have:=Nat.eq_of_beq_eq_true hc;subst this;exact absurd h1 (by decide)
    | false=>rfl
   have e3:Nat.beq c cY=false:=by
    cases hc:Nat.beq c cY with
    | true=>have:=Nat.eq_of_beq_eq_true hc;omega
    | false=>rfl
   have hb:cg n c none (some (.int k j)) none=some (0,j.toNat,c):=by simp[cg,fp,dL,bound,h2,h3]
   have e4:eB E t (.slice a n c) none (some (.int k j)) none=some (.slice a j.toNat c):=by simp only[eB,hu,e2,e3,cond_false,hb,hs];cases hc:Nat.beq c 0<;>cases a<;>simp[Addr.add]
   rw[e4,aU];exact w
 ·rename_i a n c k i k' j;obtain⟨⟨h1,h2,h3,h4⟩,w⟩:=w;have e2:Nat.beq c fY=false:=by
   cases hc:Nat.beq c fY with
   | true=>have:=Nat.eq_of_beq_eq_true hc;subst this;exact absurd h1 (by decide)
   | false=>rfl
  have e3:Nat.beq c cY=false:=by
   cases hc:Nat.beq c cY with
   | true=>have:=Nat.eq_of_beq_eq_true hc;omega
   | false=>rfl
  have hb:cg n c (some (.int k i)) (some (.int k' j)) none=some (i.toNat,j.toNat,c):=by
   have h5:0≤j:=by omega
   have h6:i≤(j.toNat:Int):=by omega
   have b1:bound (.int k' j) c=some j.toNat:=by simp only[bound,decide_eq_true h5,decide_eq_true h4];rfl
   have b2:bound (.int k i) j.toNat=some i.toNat:=by simp only[bound,decide_eq_true h2,decide_eq_true h6];rfl
   simp only[cg,fp,dL,b1,b2]
  have e4:eB E t (.slice a n c) (some (.int k i)) (some (.int k' j)) none=some (.slice (cond (Nat.beq c i.toNat) a (a.map (·.add (i.toNat*sz)))) (j-i).toNat (c-i.toNat)):=by simp only[eB,hu,e2,e3,cond_false,hb,hs];rw[show j.toNat-i.toNat=(j-i).toNat by omega]
  rw[e4,aU];exact w
 ·exact w.elim
def pj (E:Env) (t:TypeId):Option Nat:=match a_ E t with|some (.slice e)=>size E e|_=>none
def fe (E:Env) (t:TypeId) (v:Value) (lo hi mx:Option Value) (K:Value→Prop) [Tok K]:Prop:=dq (eB E t v lo hi mx) K
theorem H8 {lo hi mx:Option Operand}:bY E (.slice t x lo hi mx) fr h K=bM E fr x fun v=>DD E fr lo fun lo=>DD E fr hi fun hi=>DD E fr mx fun mx=>fe E t v lo hi mx fun u=>K u h:=by
 rw[dS rfl (by simp)];simp only[cX,aQ,bM,DD,dq,fe];cases ev E fr x with
 | none=>simp
 | some v =>
   cases Fh E fr lo with
   | none=>simp
   | some a =>
     cases Fh E fr hi with
     | none=>simp
     | some b =>
       cases Fh E fr mx with
       | none=>simp
       | some c=>simp
theorem Iw {sz:Nat}{a:Option Addr}{n c:Nat}{k:IntKind}{j:Int}{K:Value→Prop}(hs:pj E t=some sz) (hc:c<cY) (h0:0≤j) (h1:j≤c) (q:K (.slice a j.toNat c)):fe E t (.slice a n c) none (some (.int k j)) none K:=by
 unfold pj at hs;split at hs;·rename_i e hu;exact Wu hu hs (.inr ⟨⟨hc,h0,h1⟩,q⟩)
 ·cases hs
def Ft (fr:Fr) (d:Nat) (v:Value):Prop:=∃ v',fr.get d=some v'∧aW 50 v v'=true
theorem P7 {d:Nat}{v u:Value}:Ft (fr.set d u) d v=(aW 50 v u=true):=by simp[Ft,T.ah]
theorem Wt {d s:Nat}{v u:Value}(hs:s≠d):Ft (fr.set s u) d v=Ft fr d v:=by simp[Ft,T.ah,hs]
def DE (E:Env) (t:TypeId) (p:Value) (h:Heap) (K:Value→Prop) [Tok K]:Prop:=dq (loadAt E t p h) K
theorem Pp {d:Nat}{l:List GO}:Bo E (⟨none,some d,.load t x⟩::l) fr h=((bM E fr x fun p=>DE E t p h fun v=>Ft fr d v)∧Bo E l fr h):=by
 simp only[Bo,Ea,dP,aQ,bM,dq,DE,Ft];cases ev E fr x with
 | none=>simp
 | some p=>simp
theorem H0 {d s:Nat}{w:Bool}{l:List GO}:Bo E (⟨some (s,w),some d,.load t x⟩::l) fr h=((hY fr s fun b=>SF b w (bM E fr x fun p=>DE E t p h fun v=>Ft fr d v) True)∧Bo E l fr h):=by
 have e:(∃ v v' d',dP E fr (aQ (.load t x)) h=some v∧some d=some d'∧fr.get d'=some v'∧aW 50 v v'=true)=(bM E fr x fun p=>DE E t p h fun v=>Ft fr d v):=by
  simp only[dP,aQ,bM,dq,DE,Ft];cases ev E fr x with
  | none=>simp
  | some p=>simp
 simp only[Bo,wz,e]
theorem Tf {v:Value}{K:Value→Prop}(ht:zC E t=true):DE E t v h K=Dk h v K:=by
 unfold zC at ht;split at ht
 · rename_i i hi;unfold DE loadAt Dk;cases v with
   | pointer a =>
     cases a with
     | none=>simp[dq]
     | some a =>
       simp only[hi]
       split
       · rename_i hd;simp[hd]at ht
       · rename_i hd;simp[hd]at ht
       · rename_i hd;simp[hd]at ht
       · rfl
   | _=>simp[dq]
 · cases ht
theorem Nd {n:Nat}{v:Value}{K:Value→Prop}(ht:sk E t=some n):DE E t v h K=C1 h n v K:=by
 unfold sk at ht;split at ht
 · rename_i i hi;unfold DE loadAt C1;cases v with
   | pointer a =>
     cases a with
     | none=>simp[dq]
     | some a =>
       simp only[hi]
       split at ht
       · rename_i fs hd;cases ht;simp only[hd];cases ax h a i.size<;>simp[dq]
       · rename_i m e hd;cases ht;simp only[hd];cases ax h a i.size<;>simp[dq]
       · cases ht
   | _=>simp[dq]
 · cases ht
theorem M1 {K:Value→Heap→Prop}:eY E [] K .normal fr h=K (jc []) h:=Eq.trans rfl rfl
theorem Ig {s:Nat}{ex:Ex}{K:Value→Heap→Prop}(hx:∀ i,ex≠.exit i):eY E [.cell s t] K ex fr h=hY fr s fun p=>DE E t p h fun v=>K v h:=by
 have:∀ (o:Option Value),(match aA (ll E fr h) [.cell s t]with|some vs=>K (jc vs) h|none=>False)=(hY fr s fun p=>DE E t p h fun v=>K v h):=by
   intro _;simp only[aA,ll,hY,DE,dq];cases fr.get s with
   | none=>simp
   | some p =>
     simp only[Option.some.injEq,exists_eq_left']
     generalize hr:loadAt E t p h=r
     cases r<;>simp[jc]
 cases ex with
 | exit i=>exact absurd rfl (hx i)
 | _=>exact this none
theorem DP {s:Nat}{K:Value→Heap→Prop}:eY E [.cell s t] K .ret fr h=hY fr s fun p=>DE E t p h fun v=>K v h:=Ig (by simp)
theorem SG {s d:Nat}{K:Value→Heap→Prop}:eY E [.cell s t,.tmp d] K .ret fr h=hY fr s fun p=>DE E t p h fun v=>hY fr d fun u=>K (.tuple #[v,u]) h:=by
 simp only[eY,aA,ll,hY,DE,dq,ev];cases fr.get s with
 | none=>simp
 | some p =>
   simp only[Option.some.injEq,exists_eq_left']
   generalize loadAt E t p h=r
   cases r with
   | none=>simp
   | some v=>cases fr.get d<;>simp[jc]
end
section
variable {E:Env}{fr:Fr}{h:Heap}{K:Value→Heap→Prop}{x y z:Operand}{t t':TypeId}
def yg (v:Value) (j:Nat):Prop:=∀ a n c,v=.slice (some a) n c→a.block≠j
theorem ve {B:Nat}{e:TypeId}{sz n m:Nat}{s y:Value}{cs new:List Value}(o:bn B h e s n cs) (hB:B≤h.n) (hlen:cs.length=n*sz) (hy:lenOf y=some m) (hm:m≠0) (hsz:n+m≤1000000)
   (hnew:firstCells h sz m y=some new) (hnl:new.length=m*sz) (hone:new.all aF=true) (hpos:sz≠0)
   (k:∀ v' h',bn B h' e v' (n+m) (cs++new)→ai B h h'→(∀ j,j<h.n→yg s j→h'.b.get j=h.b.get j)→K v' h'):jN e sz s y h K:=by
 have pos:0<m*sz:=Nat.mul_pos (by omega) (by omega)
 cases o with
 | nil =>
   simp only[jN,hy]
   refine⟨⟨by omega,.inr hm⟩,fun h0=>absurd h0 hm,fun _=>?_⟩
   rw[hnew,aU]
   refine⟨hone,?_⟩
   have:cy h e sz none 0 0 m new=some (.slice (some ⟨h.n,0,none⟩) m cY,af h (.cells ([]++new) e false)):=by
     unfold cy;have f1:Nat.beq 0 fY=false:=rfl;have f2:Nat.beq 0 cY=false:=rfl;have f3:Nat.ble m 0=false:=by
       cases hb:Nat.ble m 0 with
       | true=>have:=Nat.le_of_ble_eq_true hb;omega
       | false=>rfl
     simp only[f1,f2,cond_false,firstCells,Nat.beq_refl,cond_true,Nat.zero_add,f3]
   rw[this,fE]
   refine k _ _ ?_ (ai.new _ hB) (fun j hj _=>fB _ hj)
   rw[Nat.zero_add]
   exact .row h.n m _ hB (by simp[af]) (aC _ _)
 | emp i0 hi0 =>
   simp only[jN,hy]
   refine⟨⟨by omega,.inr hm⟩,fun h0=>absurd h0 hm,fun _=>?_⟩
   rw[hnew,aU]
   refine⟨hone,?_⟩
   have:cy h e sz (some ⟨i0,0,none⟩) 0 0 m new=some (.slice (some ⟨h.n,0,none⟩) m cY,af h (.cells ([]++new) e false)):=by
     unfold cy;have f1:Nat.beq 0 fY=false:=rfl;have f2:Nat.beq 0 cY=false:=rfl;have f3:Nat.ble m 0=false:=by
       cases hb:Nat.ble m 0 with
       | true=>have:=Nat.le_of_ble_eq_true hb;omega
       | false=>rfl
     simp only[f1,f2,cond_false,firstCells,ax,Nat.zero_mul,Nat.beq_refl,cond_true,Nat.zero_add,f3]
   rw[this,fE]
   refine k _ _ ?_ (ai.new _ hB) (fun j hj _=>fB _ hj)
   rw[Nat.zero_add]
   exact .row h.n m _ hB (by simp[af]) (aC _ _)
 | row i n cs h1 h2 h3 =>
   simp only[jN,hy]
   refine⟨⟨by omega,.inr hm⟩,fun h0=>absurd h0 hm,fun _=>?_⟩
   rw[hnew,aU]
   refine⟨hone,?_⟩
   have:cy h e sz (some ⟨i,0,none⟩) n cY m new=some (.slice (some ⟨h.n,0,none⟩) (n+m) cY,af { h with b:=h.b.set i .dead } (.cells (cs++new) e false)):=by
     unfold cy;have f1:Nat.beq cY fY=false:=rfl;have f2:Nat.beq cY cY=true:=Nat.beq_refl _;have f3:Nat.ble ((n+m)*sz) cs.length=false:=by
       cases hb:Nat.ble ((n+m)*sz) cs.length with
       | true =>
         have:=Nat.le_of_ble_eq_true hb
         rw[hlen,Nat.add_mul]at this
         omega
       | false=>rfl
     have f4:Nat.beq (n*sz) cs.length=true:=by rw[hlen];exact Nat.beq_refl _
     simp only[f1,f2,h3,cond_false,cond_true,Nat.beq_refl,f3,f4]
   rw[this,fE]
   refine k _ _ ?_ ?_ (fun j hj hno=>by have hne:i≠j:=hno ⟨i,0,none⟩ n cY rfl;simp only[af];rw[T.ar _ _ (by omega),T.ar _ _ hne])
   · exact .row h.n (n+m) _ hB (by simp[af]) (by simp[af,T.ah])
   · refine⟨by simp[af],fun j hj=>?_⟩;simp only[af];rw[T.ar _ _ (by omega),T.ar _ _ (by omega)]
theorem Cs {B:Nat}{e:TypeId}{sz n m:Nat}{s y:Value}{cs new:List Value}(o:bn B h e s n cs) (hB:B≤h.n) (hlen:cs.length=n*sz) (hy:lenOf y=some m) (hsz:n+m≤1000000)
   (hnew:m≠0→firstCells h sz m y=some new) (hnl:new.length=m*sz) (hone:new.all aF=true) (hpos:sz≠0)
   (k:∀ v' h',bn B h' e v' (n+m) (cs++new)→ai B h h'→K v' h'):jN e sz s y h K:=by
 by_cases hm:m=0
 · subst hm;have:new=[]:=List.length_eq_zero_iff.1 (by omega);subst this;rw[List.append_nil]at k;cases o with
   | nil=>simp only[jN,hy];exact⟨⟨by omega,.inl (Nat.le_refl _)⟩,fun _=>k _ _ .nil (ai.refl _ _),fun h=>absurd rfl h⟩
   | emp i hi=>simp only[jN,hy];exact⟨⟨by omega,.inl (Nat.le_refl _)⟩,fun _=>k _ _ (.emp i hi) (ai.refl _ _),fun h=>absurd rfl h⟩
   | row i n cs h1 h2 h3 =>simp only[jN,hy];exact⟨⟨by omega,.inl (Nat.le_trans (show n≤1000000 by omega) (by decide))⟩,fun _=>k _ _ (.row i n cs h1 h2 h3) (ai.refl _ _),fun h=>absurd rfl h⟩
 · exact Av o hB hlen hy hm hsz (hnew hm) hnl hone hpos fun v' h' o x _=>k v' h' o x
theorem vA:∀ (new a b c:List Value),b.length=new.length→over (a++(b++c)) a.length new=some (a++(new++c))
 | [],a,[],c,_=>by
   have:∀ (a:List Value),over (a++c) a.length []=some (a++c):=by
     intro a;cases a with
     | nil=>cases c<;>rfl
     | cons x a=>rfl
   simpa using this a
 | x::new,[],y::b,c,h=>by have:=vA new [] b c (by simpa using h);simp only[List.nil_append,List.length_nil]at this;simp only[List.nil_append,List.length_nil,List.cons_append,over,Nat.beq_refl,cond_true,this,Option.map_some]
 | x::new,z::a,b,c,h=>by have:=vA (x::new) a b c h;simp only[List.cons_append,List.length_cons,over,show Nat.beq (a.length+1) 0=false from rfl,cond_false,Nat.add_sub_cancel,this,Option.map_some]
theorem bN {n i off:Nat}{cs cs' l:List Value}{e:TypeId}{b:Bool}{v:Value}(hb:h.b.get i=some (.cells cs e b)) (hv:v.cells.toList=l) (hl:l.length=n) (ho:over cs off l=some cs') (h1:l.all aF=true) (hn:n≠0)
  (q:K undef { h with b:=h.b.set i (.cells cs' e b) }):Q4 n (.pointer (some ⟨i,off,none⟩)) v h K:=by
 subst hv
 have hne:v.cells.toList≠[]:=by intro he;rw[he]at hl;simp at hl;omega
 simp only[Q4]
 refine⟨⟨hl,h1⟩,?_⟩
 rw[vt hb ho hne,aU]
 exact q
theorem CP {b off:Nat}:∀ (l:List Value),l≠[]→(∀ j v,l[j]?=some v→cellAt h ⟨b,off+j,none⟩=some v)→ax h ⟨b,off,none⟩ l.length=some l:=by
 intro l hne hp;have h0:Nat.beq l.length 0=false:=by
   cases l with
   | nil=>exact absurd rfl hne
   | cons a l=>rfl
 have first:∀ j v,l[j]?=some v→cellAt h ⟨b,off+j,none⟩=some v:=hp
 unfold ax;rw[h0];simp only[cond_false];have one:=fun j v (hj:l[j]?=some v)=>(show cellAt h ⟨b,off+j,none⟩=some v from hp j v hj);unfold cellAt ax at one;simp only[show Nat.beq 1 0=false from rfl,cond_false]at one;obtain⟨a0,l0,rfl⟩:=List.exists_cons_of_ne_nil hne;have one0:=one 0 a0 rfl;cases aB:Nat.blt b h.n with
 | false=>rw[aB]at one0;simp at one0
 | true =>
   rw[aB]at one
   simp only[cond_true]at one ⊢
   cases hk:h.b.get b with
   | none=>have:=one 0 a0 rfl;rw[hk]at this;simp at this
   | some k =>
     rw[hk]at one
     cases k with
     | cells cs e x =>
       simp only[g_]at one ⊢
       have pt:∀ j v,(a0::l0)[j]?=some v→cs[off+j]?=some v:=by
         intro j v hj;have:=one j v hj;cases hd:cs.drop (off+j) with
         | nil=>rw[hd]at this;simp[takeN]at this
         | cons c r =>
           rw[hd]at this
           simp only[takeN,Option.map_some]at this
           have e2:cs[off+j]?=(cs.drop (off+j))[0]?:=by simp
           rw[e2,hd]
           simpa using this
       have gen:∀ (l:List Value) (off:Nat),(∀ j v,l[j]?=some v→cs[off+j]?=some v)→takeN l.length (cs.drop off)=some l:=by
         intro l;induction l with
         | nil=>intro off _;cases cs.drop off<;>rfl
         | cons a l ih =>
           intro off hp
           have h1:=hp 0 a rfl
           have aB:=(List.getElem?_eq_some_iff.1 h1).1
           rw[Nat.add_zero]at h1 aB
           have h2:=ih (off+1) (fun j v hj=>by rw[show off+1+j=off+(j+1) by omega];exact hp (j+1) v (by simpa using hj))
           rw[List.drop_eq_getElem_cons aB]
           simp only[List.length_cons,takeN,h2,Option.map_some]
           rw[(List.getElem?_eq_some_iff.1 h1).2]
       exact gen _ off pt
     | ro g =>
       have pt:∀ j v,(a0::l0)[j]?=some v→g (off+j)=some v:=by
         intro j v hj;have:=one j v hj;simp only[gR]at this;cases hg:g (off+j) with
         | none=>rw[hg]at this;simp at this
         | some w=>rw[hg]at this;simpa using this
       have gen:∀ (l:List Value) (off:Nat),(∀ j v,l[j]?=some v→g (off+j)=some v)→gR g off l.length=some l:=by
         intro l;induction l with
         | nil=>intro off _;rfl
         | cons a l ih =>
           intro off hp
           have h1:=hp 0 a rfl
           rw[Nat.add_zero]at h1
           have h2:=ih (off+1) (fun j v hj=>by rw[show off+1+j=off+(j+1) by omega];exact hp (j+1) v (by simpa using hj))
           simp only[List.length_cons,gR,h1,h2]
       exact gen _ off pt
     | _=>have:=one 0 a0 rfl;simp at this
end
section
variable {E:Env}{fr:Fr}{h:Heap}{K:Value→Heap→Prop}{t:TypeId}
end
section
variable {E:Env}{fr:Fr}{h:Heap}{K:Value→Heap→Prop}{t:TypeId}
def Ue (E:Env) (t:TypeId):Option (List Value×Nat):=match zero E t,a_ E t with
 | some z,some (.array _ e)=>(size E e).map (z.cells.toList,·)
 | _,_=>none
def Iu (zs:List Value) (sz:Nat) (ps:List (Nat×Value)) (K:Value→Prop) [Tok K]:Prop:=dq (gg (fun i=>some (i*sz,sz)) zs ps) fun l=>K (.agg ⟨l⟩)
theorem EX {zs:List Value}{sz:Nat}{ps:List (Nat×Operand)}(hp:Ue E t=some (zs,sz)):bY E (.build t ⟨ps⟩) fr h K=nw E fr ps fun l=>Iu zs sz l fun u=>K u h:=by
 unfold Ue at hp;split at hp
 · rename_i z n e hz hu;simp only[Option.map_eq_some_iff,Prod.mk.injEq]at hp;obtain⟨p,hp,rfl,rfl⟩:=hp;rw[dS rfl (by simp)];simp only[cX,aQ,VU,nw,dq,Iu];cases aA (fun (p:Nat×Operand)=>(ev E fr p.2).map (p.1,·)) ps with
   | none=>simp
   | some l =>simp only[vu,hz,hu,hp,Option.some.injEq,exists_eq_left'];generalize gg (fun i=>some (i*p,p)) z.cells.toList l=r;cases r<;>simp
 · cases hp
theorem AH {zs l:List Value}{sz:Nat}{ps:List (Nat×Value)}{K:Value→Prop}(hf:gg (fun i=>some (i*sz,sz)) zs ps=some l) (k:K (.agg ⟨l⟩)):Iu zs sz ps K:=by unfold Iu;rw[hf,aU];exact k
end
section
variable {E:Env}{nt:Nat}{rd:Option Nat}{fr:Fr}{h:Heap}{K:Value→Heap→Prop}{x y z:Operand}{t t':TypeId}
def So (a b:Value) (K:Value→Prop) [Tok K]:Prop:=dq (nk true a b) K
theorem Rx:bY E (.call ⟨.builtin .max,⟨[x,y]⟩,⟨[t,t']⟩⟩) fr h K=bM E fr x fun a=>bM E fr y fun b=>So a b fun u=>K u h:=by
 simp only[bY,fF,iq,nv,lX,aQ,kindOf,cX,wk,aA,bM,lq,dq,So];cases ev E fr x with
 | none=>simp
 | some a =>
   cases ev E fr y with
   | none=>simp
   | some b =>
     simp only[Option.some.injEq,exists_eq_left',tO]
     cases nk true a b<;>simp
theorem RU {k k':IntKind}{a b:Int}{K:Value→Prop}:So (.int k a) (.int k' b) K=K (.int k (max a b)):=by
 simp only[So,nk,cond_true,aU];rw[Int.max_def];by_cases hl:a<b;·rw[if_pos hl,if_pos (by omega)]
 ·by_cases he:a=b;·subst he;simp
  ·rw[if_neg (by omega),if_neg (by omega)]
theorem xG {sz:Nat}{a:Option Addr}{n:Nat}{k k':IntKind}{i j:Int}{K:Value→Prop}(hs:pj E t=some sz) (hz:sz≠0) (h0:0≤i) (h1:i<j) (h2:j≤n)
   (q:∀ c,K (.slice (a.map (·.add (i.toNat*sz))) (j-i).toNat c)):fe E t (.slice a n cY) (some (.int k i)) (some (.int k' j)) none K:=by
 unfold pj at hs
 split at hs
 · rename_i e hu;obtain⟨i,rfl⟩:=Int.eq_ofNat_of_zero_le h0;obtain⟨j,rfl⟩:=Int.eq_ofNat_of_zero_le (show 0≤j by omega);have f1:Nat.beq cY fY=false:=rfl;have f2:Nat.beq cY cY=true:=Nat.beq_refl _;have bd:∀ (k:IntKind) (p q:Nat),p≤q→bound (.int k (p:Int)) q=some p:=fun k p q hpq=>by
     have:(decide ((0:Int)≤(p:Int))&&decide ((p:Int)≤(q:Int)))=true:=by simp only[Bool.and_eq_true,decide_eq_true_eq];omega
     simp only[bound,this,cond_true,Int.toNat_natCast]
   have hab:cg n n (some (.int k (i:Int))) (some (.int k' (j:Int))) none=some (i,j,n):=by simp only[cg,fp,bd k' j n (by omega),dL,bd k i j (by omega)]
   have hil:Nat.beq i n=false:=by
     cases hh:Nat.beq i n with
     | false=>rfl
     | true=>have:=Nat.eq_of_beq_eq_true hh;omega
   obtain⟨s,rfl⟩:=Nat.exists_eq_succ_of_ne_zero hz;simp only[fe,eB,hu,f1,f2,cond_false,cond_true,hab,hs];cases hi0:Nat.beq i 0 with
   | false =>
     simp only[hil,cond_false,aU]
     have:=q cY
     simpa[show ((j:Int)-(i:Int)).toNat=j-i by omega]using this
   | true =>
     have:i=0:=Nat.eq_of_beq_eq_true hi0
     subst this
     simp only[cond_true,aU]
     have:=q cY
     cases a with
     | none=>simpa using this
     | some a=>simpa[Addr.add]using this
 · cases hs
end
open Go.RowKit
inductive xM where
 | int (k:IntKind)
 | flt (k:FloatKind)
 | bool
 | str
 | slc (e:TypeId)
def PR (g:TypeId→Option (List xM)) (sz:TypeId→Nat):List Field→Nat→Option (List xM)
 | [],_=>some []
 | f::fs,off=>match g f.type with
   | some l=>cond (Nat.beq f.offset off&&Nat.beq (sz f.type) l.length) ((PR g sz fs (off+l.length)).map (l++·)) none
   | none=>none
def flat (P:Program):Nat→TypeId→Option (List xM)
 | 0,_=>none
 | n+1,t=>match P.underlying t with
   | some (.int k)=>some [.int k]
   | some (.float k)=>some [.flt k]
   | some .bool=>some [.bool]
   | some .string=>some [.str]
   | some (.slice e)=>cond (Nat.blt 0 (P.cellsOf e)) (some [.slc e]) none
   | some (.array m e)=>match flat P n e with
     | some l=>cond (Nat.beq (P.cellsOf e) l.length&&Nat.beq (P.cellsOf t) (m*l.length)&&Nat.blt 0 l.length) (some (rep m l)) none
     | none=>none
   | some (.struct fs)=>match PR (flat P n) P.cellsOf fs.toList 0 with
     | some l=>cond (Nat.beq (P.cellsOf t) l.length) (some l) none
     | none=>none
   | _=>none
section
variable {H:Type}{enc:TypeId×Value→H}{P:Program}{W:World}
def Gt (R:xM→Value→Prop) (ls:List xM) (vs:List Value):Prop:=vs.length=ls.length∧∀ (i:Nat) (l:xM) (v:Value),ls[i]?=some l→vs[i]?=some v→R l v
def SlF (a:Option Addr) (len cap:Nat):Prop:=(a=none∧len=0∧cap=0)∨(∃ b off,a=some ⟨b,off,none⟩)∧((len=0∧cap=fY)∨(len≤cap∧cap<cY))
def Gf (P:Program) (W:World):Nat→xM→Value→Prop
 | _,.int k,u=>∃ n,u=.int k n∧(Lit.int k n).wf=true
 | _,.flt k,u=>∃ n,u=.float k n∧(Lit.float k n).wf=true
 | _,.bool,u=>∃ b,u=.bool b
 | _,.str,u=>∃ s,u=.string s∧s.size≤maxLen
 | 0,.slc e,u=>∃ a len cap,u=.slice a len cap∧len*P.bytesOf e≤reachBytes∧SlF a len cap
 | d+1,.slc e,u=>∃ a len cap,u=.slice a len cap∧len*P.bytesOf e≤reachBytes∧SlF a len cap∧∀ n ls,flat P n e=some ls→P.cellsOf e=ls.length→∃ rows:List (List Value),rows.length=len∧oc W.heap.size (fT W) a ls.length rows∧∀ r∈rows,Gt (Gf P W d) ls r
theorem Hb {a:Addr}{v:Value}(h:W.cell? a=some v):a.block<W.heap.size∧a.spot=none:=by
 unfold World.cell? at h;split at h
 ·rename_i c e f hb;refine⟨(Array.getElem?_eq_some_iff.1 hb).1,?_⟩;cases hs:a.spot with
  | none=>rfl
  | some s=>rw[hs]at h;simp at h
 ·cases h
theorem pr (hl:laidOutB P=true) {W':World}(hb:Below W.heap.size W W'):∀ {ts:List TypeId}{vs:List Value}{ds:List (DataW H)}{ps:List MemPlace},(ts.all fun t=>P.readableRec t&&decide (t<P.types.size))=true →
   DataW.TrodAll enc P W 0 (fun _=>true) true ts vs ds ps→(∀ x∈ps,x.block<W.heap.size)→DataW.TrodAll enc P W' 0 (fun b=>decide (b<W.heap.size)) true ts vs ds ps
 | [],[],[],ps,_,h,_=>h
 | t::ts,v::vs,d::ds,ps,ht,h,aB=>by simp only[List.all_cons,Bool.and_eq_true,decide_eq_true_eq]at ht;obtain⟨p,q,h1,h2,rfl⟩:=h;exact⟨p,q,Below.trod hl ht.1.1 ht.1.2 h1 hb (fun x hx=>aB x (List.mem_append_left _ hx)),pr hl hb ht.2 h2 (fun x hx=>aB x (List.mem_append_right _ hx)),rfl⟩
 | [],_::_,_,_,_,h,_=>h.elim
 | [],[],_::_,_,_,h,_=>h.elim
 | _::_,[],_,_,_,h,_=>h.elim
 | _::_,_::_,[],_,_,h,_=>h.elim
theorem KW (hl:laidOutB P=true) {f:Func}{s:ChangeSpec}{apart fresh handsOn:Bool}{W':World}{args:Array Value}{v:Value}{ds gs:List (DataW H)}{before pargs pvars:List MemPlace}
  (hW:DataW.Whole enc P f.params.toList s.vars apart W args.toList ds gs before)
  (hA:DataW.TrodAll enc P W 0 (fun _=>true) true f.params.toList args.toList ds pargs) (hV:DataW.TrodVars enc P W (fun _=>true) s.vars gs pvars) (hp:before=pargs++pvars)
  (hts:(f.params.toList.all fun t=>P.readableRec t&&decide (t<P.types.size))=true) (hvr:varsRowed P s.vars=true)
  (hres:∀ (b:Nat) (sp:Nat→Bool) (hd:Bool),DataW.TrodAll enc P W' b sp hd f.resultTypes.toList (v.resultList f.resultTypes.size) (s.fn H (ds++gs)).results [])
  (hfa:(s.fn H (ds++gs)).args=ds) (hfv:(s.fn H (ds++gs)).vars=gs)
  (hb:Below W.heap.size W W'):s.post enc P f apart fresh handsOn false W args v W':=by
 have aB:∀ x∈before,x.block<W.heap.size:=fun p hp=>hW.lt p hp
 subst hp
 refine⟨ds,gs,pargs++pvars,[],pargs,pvars,hW,hres _ _ _,?_,?_,hb.frame _,fun h=>by cases h⟩
 ·rw[hfa];exact pr hl hb hts hA fun x hx=>aB x (List.mem_append_left _ hx)
 ·rw[hfv];exact Below.trodVars hl hb hvr hV
end
open Go.RowKit
section
variable {E:Env}{fr:Fr}{h:Heap}{K:Value→Heap→Prop}{x y:Operand}{t t':TypeId}{c:Bool}{v w:Value}{J:Value→Prop}
def fltT (E:Env) (t:TypeId):Bool:=match a_ E t with|some (.float .f64)=>true|_=>false
end
abbrev fU:=FuncId→List Value→Heap→Option (Option (Value×Heap))
def extFl (fb ff:FuncId) (base:fU) (f:FuncId) (args:List Value) (h:Heap):Option (Option (Value×Heap)) :=
 cond (Nat.beq f fb) (match args with|[.float .f64 n]=>some (some (.int .u64 n,h))|_=>some none)
  (cond (Nat.beq f ff) (match args with|[.int .u64 n]=>some (some (.float .f64 n.toNat,h))|_=>some none) (base f args h))
section
variable {P:Program}
def yP (g:Nat→Option Value):Nat→List Value→Bool
 | _,[]=>true
 | i,v::l=>(match g i with|some u=>aW 5 u v|none=>false)&&yP g (i+1) l
def eK (bz:List (Nat×List Value)) (h:Heap):Bool:=bz.all fun p=>match h.b.get p.1 with|some (.ro g)=>yP g 0 p.2|_=>false
def qb (bz:List (Nat×List Value)) (base:fU) (k:FuncId) (f:FuncId) (args:List Value) (h:Heap):Option (Option (Value×Heap)) :=
 cond (Nat.beq f k) (match args with|[]=>cond (eK bz h) (some (some (.bool true,h))) (some none)|_=>some none) (base f args h)
theorem VR.gO {ρ:Ren}:∀ {v u:Value},bL v=true→VR ρ v u→u=v:=by intro v u h r;cases r<;>first|rfl|(simp[bL]at h)
theorem oY {g:Nat→Option Value}:∀ {l:List Value}{i:Nat},yP g i l=true→∀ j v,l[j]?=some v→g (i+j)=some v
 | [],i,_,j,v,e=>by simp at e
 | u::l,i,h,j,v,e=>by
   simp only[yP,Bool.and_eq_true]at h;cases j with
   | zero =>
     simp only[List.getElem?_cons_zero,Option.some.injEq]at e
     subst e
     have h:=h.1
     split at h
     · rename_i u' hu;rw[Nat.add_zero,hu,gz _ _ _ h]
     · cases h
   | succ j =>
     simp only[List.getElem?_cons_succ]at e
     have:=oY h.2 j v e
     rw[show i+(j+1)=i+1+j by omega];exact this
theorem CU {g:Nat→Option Value}(hs:∀ v:Value,bL v=true→aW 5 v v=true):∀ {l:List Value}{i:Nat},(∀ j v,l[j]?=some v→g (i+j)=some v)→l.all bL=true→yP g i l=true
 | [],i,_,_=>rfl
 | u::l,i,h,hc=>by simp only[List.all_cons,Bool.and_eq_true]at hc;simp only[yP,Bool.and_eq_true];refine⟨?_,CU hs (fun j v e=>by have:=h (j+1) v (by simpa using e);rw[show i+1+j=i+(j+1) by omega];exact this) hc.2⟩;have:=h 0 u rfl;rw[Nat.add_zero]at this;rw[this];exact hs u hc.1
def uY (bz:List (Nat×List Value)) (ng:Nat) (w:World):Prop :=
 ng≤w.heap.size∧∀ p∈bz,p.1<ng∧∀ (j:Nat) (v:Value),p.2[j]?=some v→∃ (xs:Array Value) (el:TypeId) (f:Nat×Nat),w.heap[p.1]?=some (.cells xs el f)∧xs[j]?=some v
def po (bz:List (Nat×List Value)) (ng:Nat):Heap:={ n:=ng,b:=bz.foldl (fun t p=>t.set p.1 (.ro fun i=>nth p.2 i)) (T.ofList (List.replicate ng .dead)) }
theorem sq {bz:List (Nat×List Value)}{ng i:Nat}(hi:i<ng):(po bz ng).b.get i=some .dead∨∃ p∈bz,p.1=i∧(po bz ng).b.get i=some (.ro fun j=>nth p.2 j):=by
 have key:∀ (l:List (Nat×List Value)) (t:T fa),(t.get i=some .dead∨∃ p∈bz,p.1=i∧t.get i=some (.ro fun j=>nth p.2 j))→(∀ p∈l,p∈bz) →
     ((l.foldl (fun t p=>t.set p.1 (.ro fun i=>nth p.2 i)) t).get i=some .dead∨∃ p∈bz,p.1=i∧(l.foldl (fun t p=>t.set p.1 (.ro fun i=>nth p.2 i)) t).get i=some (.ro fun j=>nth p.2 j)):=by
   intro l
   induction l with
   | nil=>intro t h _;exact h
   | cons q l ih =>
     intro t h hm
     refine ih _ ?_ (fun p hp=>hm p (List.mem_cons_of_mem _ hp))
     rw[T.ah]
     by_cases hq:q.1=i
     · rw[if_pos hq];exact .inr ⟨q,hm q List.mem_cons_self,hq,rfl⟩
     · rw[if_neg hq];exact h
 refine key bz _ (.inl ?_) (fun p hp=>hp);rw[T.mR,List.getElem?_replicate,if_pos hi]
theorem Cv {bz:List (Nat×List Value)}{ng:Nat}{w:World}(ht:uY bz ng w) (hc:∀ p∈bz,p.2.all bL=true):HR P (jJ ng) (po bz ng) w where
 gT i b c e:=by
  unfold jJ at e;by_cases h:i<ng;·rw[if_pos h]at e;cases e;exact⟨h,Nat.lt_of_lt_of_le h ht.1⟩
  ·rw[if_neg h]at e;cases e
 ib i b c e:=by
  unfold jJ at e;by_cases h:i<ng
  ·rw[if_pos h]at e;cases e;have aB:i<w.heap.size:=Nat.lt_of_lt_of_le h ht.1;rcases sq (bz:=bz) h with hd|⟨p,hp,hpi,hd⟩;·exact⟨_,_,hd,Array.getElem?_eq_getElem aB,.dead _⟩
   ·refine⟨_,_,hd,Array.getElem?_eq_getElem aB,.ro _ _ fun j v e=>?_⟩;rw[bK]at e;obtain⟨xs,el,f,e1,e2⟩:=(ht.2 p hp).2 j v e;rw[hpi,Array.getElem?_eq_getElem aB]at e1;have hv:bL v=true:=List.all_eq_true.1 (hc p hp) v (List.mem_of_getElem? e);exact⟨xs,el,f,v,Option.some.inj e1,e2,VR.nV _ hv⟩
  ·rw[if_neg h]at e;cases e
 inj i j b c d e1 e2 hne:=by
  unfold jJ at e1 e2;split at e1
  ·split at e2;·cases e1;cases e2;exact absurd rfl hne
   ·cases e2
  ·cases e1
theorem IX {E:Env}(hE:aH P E) (hx:cf P E) (hn:eC P) {bz:List (Nat×List Value)}(hc:∀ p∈bz,p.2.all bL=true) {d:Nat}{f:FuncId}{b:Bool}{h':Heap}(hext:E.ext f [] (po bz E.ng)=none)
  (e:dj E d (.func f) [] (po bz E.ng)=some (.bool b,h')) (w:World) (ht:uY bz E.ng w):Calls P f #[] w fun e w'=>e=.returned (.bool b)∧Below w.heap.size w w':=by
 refine(lx hE hx hn hext e (Cv ht hc) (fun g aB=>⟨0,by simp only[jJ];rw[if_pos aB]⟩) .nil).mono fun e w' hh=>?_
 obtain⟨v',ρ',rfl,r,hs⟩:=hh
 cases r
 refine⟨rfl,hs.below fun i x e=>?_⟩
 unfold jJ at e
 by_cases h:i<E.ng
 ·rcases sq (bz:=bz) h with hd|⟨p,_,_,hd⟩;·exact .inl hd
  ·exact .inr (.inl ⟨_,hd⟩)
 ·rw[if_neg h]at e;cases e
theorem Jf {ng k:Nat}{base:fU}(h0:cf P (bP P ng base)) {bz:List (Nat×List Value)}(aB:bz.all (fun p=>Nat.blt p.1 ng)=true) (hc:∀ p∈bz,p.2.all bL=true) {fn:Func}{c:Code}(hf:P.funcs[k]?=some fn) (hb:fn.body=some c) (hn:eC P)
   (hk:∀ w:World,uY bz ng w→Calls P k #[] w fun e w'=>e=.returned (.bool true)∧Below w.heap.size w w'):cf P (bP P ng (qb bz base k)):=by
 intro f args h v h' e ρ w args' hr hg ra
 simp only[bP,qb,aD]at e
 by_cases hfk:f=k
 · subst hfk;rw[if_pos rfl]at e;split at e
   · cases htb:eK bz h with
     | false=>rw[htb]at e;simp at e
     | true =>
       rw[htb]at e
       simp only[cond_true,Option.some.injEq,Prod.mk.injEq]at e
       obtain⟨rfl,rfl⟩:=e
       have hargs:args'=#[]:=by obtain ⟨l⟩:=args';simp only at ra;cases ra;rfl
       subst hargs
       have hw:uY bz ng w:=by
         refine⟨?_,fun p hp=>?_⟩
         · cases ng with
           | zero=>exact Nat.zero_le _
           | succ m =>
             obtain⟨c,e⟩:=hg m (by show m<m+1;omega)
             exact(hr.gT _ _ _ e).2
         · have hpn:p.1<ng:=by have:=List.all_eq_true.1 aB p hp;simpa[blt_eq]using this
           refine⟨hpn,fun j v e=>?_⟩;obtain⟨c,eg⟩:=hg p.1 hpn;obtain⟨k,o,k1,k2,k3⟩:=hr.ib _ _ _ eg;have ht:=List.all_eq_true.1 htb p hp;simp only[k1]at ht;cases k3 with
           | ro g _ hh =>
             have hrow:=oY (i:=0) ht j v e
             rw[Nat.zero_add]at hrow
             obtain⟨xs,el,f',v',e1,e2,r⟩:=hh j v hrow
             subst e1
             have hv:bL v=true:=List.all_eq_true.1 (hc p hp) v (List.mem_of_getElem? e)
             have:v'=v:=VR.gO hv r
             rw[this]at e2
             exact⟨xs,el,f',k2,e2⟩
           | _=>cases ht
       refine .inr (.inl ⟨f,#[],dz hf hn hb #[] w,(hk w hw).mono fun e w' hh=>?_⟩)
       obtain⟨rfl,hbl⟩:=hh
       exact⟨_,ρ,rfl,.bool _,bV.oe hr hbl⟩
   · simp at e
 · rw[if_neg hfk]at e;exact h0 f args h v h' e ρ w args' hr hg ra
end
end Go.Ev
