/- THE EVALUATOR: a deterministic reading of the program's code over an abstract heap, and that the model does what it says (5). Conditions: none beyond each theorem's own. -/
import Derived.Test.YtohjaacnlmkhbaaGreatDoorZD
import Derived.IntWalk
import Derived.ProofKit
import Derived.OpenVars
import Derived.OpenShut
import Derived.SizedLaws
set_option linter.unusedSimpArgs false
set_option linter.unusedVariables false
namespace Go.Ev
structure GO where
 g:Option (Nat×Bool)
 d:Option Nat
 op:Op
inductive GC where
 | skip
 | ops (l:List GO)
 | plan (l:List (GO×List GO))
 | iplan (q az:List (GO×List GO)) (ia:List Op)
 | seq (a b:GC)
 | cond (c:Operand) (a b:GC)
 | block (id:Nat) (a:GC)
 | loop (a:GC)
 | mloop (t:Nat) (d:Option Nat) (l:List GO) (rest:GC) (D:List Nat)
 | exit (id:Nat)
 | ret
 | rangeF (g:Operand) (ps:Array Nat) (a b:Code)
def cleanG (all:List Oper):Option (Nat×Bool)→Option (Option (Nat×Bool))
 | none=>some none
 | some (j,w)=>match (nth all j).bind (·.dst) with
   | some d=>some (some (d,w))
   | none=>none
def cleanD (nt:Nat):Option Nat→Bool
 | none=>true
 | some d=>Nat.blt d nt
def cleanO (nt:Nat) (all:List Oper) (o:Oper):Option GO :=
 match cleanG all o.guard with
 | some g=>cond (cleanD nt o.dst) (some ⟨g,o.dst,o.op⟩) none
 | none=>none
def cleanI (nt:Nat) (all:List Oper) (x:Item):Option (GO×List GO) :=
 match (nth all x.i).bind (cleanO nt all),mapOpt (fun i=>(nth all i).bind (cleanO nt all)) x.again with
 | some g,some l=>some (g,l)
 | _,_=>none
def headNextO:List Oper→Bool
 | o0::_=>match o0.op with
   | .next _ false=>true
   | _=>false
 | []=>false
def headNext:Code→Bool
 | .seq (.region _ ops false) _=>headNextO ops.toList
 | _=>false
def cleanH (nt:Nat):List Oper→Option (Nat×Option Nat×List GO)
 | []=>none
 | o0::tl=>match o0.op,o0.guard with
   | .next (.tmp t) false,none=>cond ((o0::tl).any isDefer) none ((mapOpt (cleanO nt (o0::tl)) tl).map fun l=>(t,o0.dst,l))
   | _,_=>none
def hdO (t:Nat) (d:Option Nat):Oper:={ dst:=d,op:=.next (.tmp t) false,type:=0,pos:= "",after:=#[],guard:=none }
def clean (E:Env) (nt:Nat):Code→Option GC
 | .skip=>some .skip
 | .label _=>some .skip
 | .region _ ops false=>cond (ops.toList.any isDefer) none ((mapOpt (cleanO nt ops.toList) ops.toList).map .ops)
 | .region _ ops true=>match planned E ops.toList with
   | some pl=>(mapOpt (cleanI nt ops.toList) pl).map .plan
   | none=>match plannedI E ops.toList with
     | some (q,a,z)=>match mapOpt (cleanI nt ops.toList) q,mapOpt (cleanI nt ops.toList) (a++z),mapOpt (fun x=>(nth ops.toList x.i).map (·.op)) a with
       | some q',some az,some ia=>some (.iplan q' az ia)
       | _,_,_=>none
     | none=>none
 | .seq a b=>match clean E nt a,clean E nt b with|some a,some b=>some (.seq a b)|_,_=>none
 | .cond c a b=>match clean E nt a,clean E nt b with|some a,some b=>some (.cond c a b)|_,_=>none
 | .block id a=>(clean E nt a).map (.block id)
 | .loop (.seq (.region id ops false) rest)=>cond (headNextO ops.toList) (match cleanH nt ops.toList,clean E nt rest with|some (t,d,l),some g=>some (.mloop t d l g (dropD ops.toList rest))|_,_=>none) ((clean E nt (.seq (.region id ops false) rest)).map .loop)
 | .loop a=>(clean E nt a).map .loop
 | .scope a=>clean E nt a
 | .exit id=>some (.exit id)
 | .ret=>some .ret
 | .rangeFunc g ps a b=>some (.rangeF g ps a b)
 | _=>none
def onR (r:Option (Value×Heap)) (K:Value→Heap→Prop):Prop:=∃ v h,r=some (v,h)∧K v h
def onV {α:Type}(r:Option α) (K:α→Prop) [Tok K]:Prop:=∃ v,r=some v∧K v
@[simp] theorem onV_some {α:Type}(v:α) (K:α→Prop):onV (some v) K↔K v:=by simp[onV]
section
variable (E:Env)
def noCall:CallT:=fun _ _ _=>none
def operOf (op:Op):Oper:={ dst:=none,op,type:=0,pos:= "",after:=#[],guard:=none }
def isQ (c:Call):Bool:=match c.callee with|.value (.func f)=>E.qf f|_=>false
def opW (op:Op) (fr:Fr) (h:Heap) (K:Value→Heap→Prop) [Tok K]:Prop :=
 match op with
 | .call c=>match c.callee with
   | .builtin _=>onR (opBy E noCall fr (operOf op) h) K
   | _=>cond (isQ E c) (onR (opBy E noCall fr (operOf op) h) K) (match target E fr c with
     | some (f,args)=>@Ret E f args h K Tok.mk
     | none=>False)
 | _=>onR (opBy E noCall fr (operOf op) h) K
def setD (fr:Fr) (d:Option Nat) (v:Value):Fr:=match d with|some d=>fr.set d v|none=>fr
def gdK (g:Option (Nat×Bool)) (fr:Fr) (A B:Prop):Prop :=
 match g with
 | none=>A
 | some (s,w)=>match fr.get s with
   | some (.bool b)=>(b=w→A)∧(b≠w→B)
   | some _=>B
   | none=>False
def opsW:List GO→Fr→Heap→(Fr→Heap→Prop)→Prop
 | [],fr,h,Q=>Q fr h
 | x::os,fr,h,Q=>gdK x.g fr (opW E x.op fr h fun v h'=>opsW os (setD fr x.d v) h' Q) (opsW os (setD fr x.d undef) h Q)
def agK:List GO→Fr→Heap→Prop
 | [],_,_=>True
 | x::l,fr,h=>gdK x.g fr (∃ v v' d,readOp E fr (operOf x.op) h=some v∧x.d=some d∧fr.get d=some v'∧sameV 50 v v'=true) True∧agK l fr h
def planW:List (GO×List GO)→Fr→Heap→(Fr→Heap→Prop)→Prop
 | [],fr,h,Q=>Q fr h
 | (x,ag)::os,fr,h,Q=>gdK x.g fr (opW E x.op fr h fun v h'=>h.n≤h'.n∧agK E ag (setD fr x.d v) h'∧planW os (setD fr x.d v) h' Q)
   (agK E ag (setD fr x.d undef) h∧planW os (setD fr x.d undef) h Q)
def seqK (B:Fr→Heap→(Ex→Fr→Heap→Prop)→Prop) (Q:Ex→Fr→Heap→Prop) (ex:Ex) (fr:Fr) (h:Heap):Prop :=
 match ex with
 | .normal=>B fr h Q
 | e=>Q e fr h
def blockK (id:Nat) (Q:Ex→Fr→Heap→Prop) (ex:Ex) (fr:Fr) (h:Heap):Prop :=
 match ex with
 | .exit j=>Q (cond (Nat.beq j id) .normal (.exit j)) fr h
 | e=>Q e fr h
def loopK (R:Fr→Heap→Prop) (Q:Ex→Fr→Heap→Prop) (ex:Ex) (fr:Fr) (h:Heap):Prop :=
 match ex with
 | .normal=>R fr h
 | e=>Q e fr h
def loopN (A:Fr→Heap→(Ex→Fr→Heap→Prop)→Prop) (Q:Ex→Fr→Heap→Prop):Nat→Fr→Heap→Prop
 | 0,_,_=>False
 | n+1,fr,h=>A fr h (loopK (loopN A Q n) Q)
def condK (r:Option Value) (A B:Prop):Prop :=
 match r with
 | some (.bool b)=>(b=true→A)∧(b=false→B)
 | _=>False
def WP (nt:Nat) (rd:Option Nat) (c:Code) (fr:Fr) (h:Heap) (Q:Ex→Fr→Heap→Prop):Prop :=
 ∃ d ex fr' h',code E (callF E d) nt rd c fr h=some (ex,fr',h')∧Q ex fr' h'
def roundW (B:Fr→Heap→(Ex→Fr→Heap→Prop)→Prop) (nt:Nat) (M:MHead) (fr0:Fr) (H:Heap) (e:Value×Value×Nat) (K:Fr→Heap→Prop):Prop :=
 ∃ f,put nt fr0 M.o0 (.tuple #[.bool true,e.1,e.2.1])=some f∧B f (setBlk H M.r (.mcur M.m e.2.2 M.c)) fun ex f3 h3=>ex=.normal∧K f3 h3
def endW (B:Fr→Heap→(Ex→Fr→Heap→Prop)→Prop) (nt:Nat) (M:MHead) (fr0:Fr) (H:Heap) (Q:Ex→Fr→Heap→Prop):Prop :=
 ∃ f,put nt fr0 M.o0 (.tuple #[.bool false])=some f∧B f (setBlk H M.r .dead) fun ex f3 h3=>ex≠.normal∧Q ex f3 h3
def quietW (B:Fr→Heap→(Ex→Fr→Heap→Prop)→Prop) (nt:Nat) (M:MHead) (sp:Option Nat) (fr0:Fr) (H:Heap):Prop :=
 ∀ e∈M.es,sp≠some e.2.2→roundW B nt M fr0 H e fun f3 h3=>QuietP M fr0 H (f3,h3)
def mloopW (B:Fr→Heap→(Ex→Fr→Heap→Prop)→Prop) (nt:Nat) (M:MHead) (sp:Option Nat) (fr0:Fr) (H:Heap) (Q:Ex→Fr→Heap→Prop):Prop :=
 atR M fr0=true∧quietW B nt M sp fr0 H∧match sp with
  | none=>endW B nt M fr0 H Q
  | some s=>∃ e,findE s M.es=some e∧roundW B nt M fr0 H e fun f1 h1=>H.n≤h1.n∧h1.b.get M.m=H.b.get M.m∧atR M (keepF fr0 f1 (List.range nt))=true ∧
    quietW B nt M sp (keepF fr0 f1 (List.range nt)) h1∧endW B nt M (keepF fr0 f1 (List.range nt)) h1 Q
def insOneG (fr:Fr) (t r:Nat) (o:Op):Bool :=
 match o with
 | .insert t' m _ _=>Nat.beq t t'&&match ev E fr m with
   | some (.map (some r'))=>Nat.beq r r'
   | _=>false
 | _=>false
def insMapG (fr:Fr) (o:Op):Option (Nat×Nat) :=
 match o with
 | .insert t m _ _=>match ev E fr m with
   | some (.map (some r))=>some (t,r)
   | _=>none
 | _=>none
def insAllG (fr:Fr) (h:Heap):List Op→Bool
 | []=>false
 | x::l=>match insMapG E fr x with
   | some (t,r)=>isSmap h r&&(x::l).all (insOneG E fr t r)
   | none=>false
def GC.wp (nt:Nat) (rd:Option Nat):GC→Fr→Heap→(Ex→Fr→Heap→Prop)→Prop
 | .skip,fr,h,Q=>Q .normal fr h
 | .ops l,fr,h,Q=>opsW E l fr h (Q .normal)
 | .plan l,fr,h,Q=>planW E l fr h (Q .normal)
 | .iplan q az ia,fr,h,Q=>planW E q fr h fun fr1 h1=>insAllG E fr1 h1 ia=true∧planW E az fr1 h1 (Q .normal)
 | .seq a b,fr,h,Q=>a.wp nt rd fr h (seqK (b.wp nt rd) Q)
 | .cond c a b,fr,h,Q=>condK (ev E fr c) (a.wp nt rd fr h Q) (b.wp nt rd fr h Q)
 | .block id a,fr,h,Q=>a.wp nt rd fr h (blockK id Q)
 | .loop a,fr,h,Q=>∃ n,n≤1000000∧loopN (a.wp nt rd) Q n fr h
 | .mloop t d l rest D,fr,h,Q=>∃ M sp,mapHead E [hdO t d] fr h=some M∧E.orc M.es fr h=some sp∧mloopW (fun fr h Q=>opsW E l fr h fun fr h=>rest.wp nt rd fr h Q) nt M sp (eraseF D fr (List.range nt)) h Q
 | .exit id,fr,h,Q=>Q (.exit id) fr h
 | .ret,fr,h,Q=>Q .ret fr h
 | .rangeF g ps a b,fr,h,Q=>WP E nt rd (.rangeFunc g ps a b) fr h Q
end
section
variable {E:Env}
theorem noCall_le (c:CallT):CallLe noCall c:=fun _ _ _ _ e=>by cases e
theorem opW_sound {o:Oper}{fr:Fr}{h:Heap}{K:Value→Heap→Prop}(w:opW E o.op fr h K):∃ d v h',opBy E (callF E d) fr o h=some (v,h')∧K v h':=by
 have other:onR (opBy E noCall fr (operOf o.op) h) K→∃ d v h',opBy E (callF E d) fr o h=some (v,h')∧K v h':=fun ⟨v,h',e,k⟩ =>
   ⟨0,v,h',opBy_le (noCall_le _) e,k⟩
 unfold opW at w
 split at w
 · rename_i c hc
   split at w
   · exact other w
   · rename_i hb
     cases hq:isQ E c with
     | true=>rw[hq]at w;exact other w
     | false =>
     rw[hq,cond_false]at w
     split at w
     · rename_i f args ht
       obtain⟨d,v,h',e,k⟩:=w
       refine⟨d,v,h',?_,k⟩
       unfold opBy
       have hk:kindOf E o.op=.act:=by
         rw[hc];unfold kindOf;simp only
         cases hcal:c.callee with
         | builtin b=>exact absurd hcal (hb b)
         | value f =>
           cases f with
           | func g=>unfold isQ at hq;rw[hcal]at hq;simp only at hq;simp only[hq,cond_false]
           | _=>rfl
         | invoke r m=>rfl
       rw[hk]
       simp only[hc]
       cases hcal:c.callee with
       | builtin b=>exact absurd hcal (hb b)
       | value f=>simp only[ht];exact e
       | invoke r m=>simp only[ht];exact e
     · exact w.elim
 · exact other w
theorem setD_put {nt:Nat}{fr:Fr}{o:Oper}{v:Value}(hd:cleanD nt o.dst=true):put nt fr o v=some (setD fr o.dst v):=by
 unfold Ev.put setD
 cases h:o.dst with
 | none=>rfl
 | some d=>rw[h]at hd;simp only[cleanD]at hd;simp[hd]
theorem cleanO_some {nt:Nat}{all:List Oper}{o:Oper}{x:GO}(e:cleanO nt all o=some x):cleanG all o.guard=some x.g∧x.d=o.dst∧x.op=o.op∧cleanD nt o.dst=true:=by
 unfold cleanO at e
 split at e
 ·rename_i g hg
  cases hd:cleanD nt o.dst with
  | false=>rw[hd]at e;cases e
  | true=>rw[hd]at e;cases e;exact⟨hg,rfl,rfl,rfl⟩
 ·cases e
theorem gdK_cases {all:List Oper}{fr:Fr}{o:Oper}{g:Option (Nat×Bool)}{A B:Prop}(hg:cleanG all o.guard=some g) (w:gdK g fr A B) :
   (wantedA all fr o=some true∧A)∨(wantedA all fr o=some false∧B):=by
 unfold wantedA
 cases ho:o.guard with
 | none =>
   rw[ho]at hg;simp only[cleanG,Option.some.injEq]at hg;subst hg
   exact .inl ⟨rfl,w⟩
 | some p =>
   obtain⟨j,b⟩:=p
   rw[ho]at hg
   simp only[cleanG]at hg
   split at hg
   · rename_i d hd
     cases hg
     simp only[gdK]at w
     simp only[hd]
     split at w
     · rename_i b' hb
       by_cases hx:b'=b
       · subst hx;exact .inl ⟨by rw[hb];simp,w.1 rfl⟩
       · exact .inr ⟨by rw[hb];simp[hx],w.2 hx⟩
     · rename_i v hv hno
       refine .inr ⟨?_,w⟩
       rw[hno]
       cases v with
       | bool b'=>exact absurd rfl (hv b')
       | _=>rfl
     · exact w.elim
   · cases hg
theorem opsW_sound {nt:Nat}{all:List Oper}:∀ (os:List Oper) (l:List GO) {fr:Fr}{h:Heap}{Q:Fr→Heap→Prop},mapOpt (cleanO nt all) os=some l→opsW E l fr h Q →
   ∃ d fr' h',stepsText E (callF E d) nt all os fr h=some (fr',h')∧Q fr' h'
 | [],l,fr,h,Q,hl,w=>by
   simp only[mapOpt,Option.some.injEq]at hl;subst hl
   exact⟨0,fr,h,rfl,w⟩
 | o::os,l,fr,h,Q,hl,w=>by
   obtain⟨x,xs,h1,h2,rfl⟩:=mapOpt_cons hl
   obtain⟨e1,e2,e3,e4⟩:=cleanO_some h1
   simp only[opsW,e3]at w
   rcases gdK_cases e1 w with ⟨hw,w⟩|⟨hw,w⟩
   · obtain⟨d1,v,h',e,k⟩:=opW_sound w
     obtain⟨d2,fr',h'',e',q⟩:=opsW_sound os xs h2 k
     refine⟨max d1 d2,fr',h'',?_,q⟩
     have e:=opBy_le (callF_mono (E:=E) (Nat.le_max_left d1 d2)) e
     have e':=stepsText_le (callF_mono (E:=E) (Nat.le_max_right d1 d2)) _ e'
     rw[e2]at e'
     simp only[stepsText,step,hw,e,setD_put e4,Option.map_some]
     exact e'
   · obtain⟨d2,fr',h'',e',q⟩:=opsW_sound os xs h2 w
     refine⟨d2,fr',h'',?_,q⟩
     rw[e2]at e'
     simp only[stepsText,step,hw,setD_put e4,Option.map_some]
     exact e'
theorem agK_sound {nt:Nat}{all:List Oper}{fr:Fr}{h:Heap}:∀ (is:List Nat) (l:List GO),mapOpt (fun i=>(nth all i).bind (cleanO nt all)) is=some l→agK E l fr h→againOk E all fr h is=true
 | [],l,hl,w=>rfl
 | i::is,l,hl,w=>by
   obtain⟨x,xs,h1,h2,rfl⟩:=mapOpt_cons hl
   simp only[Option.bind_eq_some_iff]at h1
   obtain⟨o,ho,h1⟩:=h1
   obtain⟨e1,e2,e3,e4⟩:=cleanO_some h1
   obtain⟨w1,w2⟩:=w
   simp only[againOk,ho,agK_sound is xs h2 w2,Bool.and_true]
   rcases gdK_cases e1 w1 with ⟨hw,w⟩|⟨hw,w⟩
   · obtain⟨v,v',d,k1,k2,k3,k4⟩:=w
     rw[e3]at k1
     have k1:readOp E fr o h=some v:=k1
     rw[← e2,k2]
     simp only[hw,k1,Option.bind_some,k3,k4]
   · simp only[hw]
theorem planW_sound {nt:Nat}{all:List Oper}:∀ (os:List Item) (l:List (GO×List GO)) {fr:Fr}{h:Heap}{Q:Fr→Heap→Prop},mapOpt (cleanI nt all) os=some l→planW E l fr h Q →
   ∃ d fr' h',stepsPlan E (callF E d) nt all os fr h=some (fr',h')∧Q fr' h'
 | [],l,fr,h,Q,hl,w=>by
   simp only[mapOpt,Option.some.injEq]at hl;subst hl
   exact⟨0,fr,h,rfl,w⟩
 | y::os,l,fr,h,Q,hl,w=>by
   obtain⟨x,xs,h1,h2,rfl⟩:=mapOpt_cons hl
   unfold cleanI at h1
   split at h1
   · rename_i g ag hg hag
     cases h1
     simp only[Option.bind_eq_some_iff]at hg
     obtain⟨o,ho,hg⟩:=hg
     obtain⟨e1,e2,e3,e4⟩:=cleanO_some hg
     simp only[planW,e3]at w
     rcases gdK_cases e1 w with ⟨hw,w⟩|⟨hw,w⟩
     · obtain⟨d1,v,h',e,k1,k2,k⟩:=opW_sound w
       obtain⟨d2,fr',h'',e',q⟩:=planW_sound os xs h2 k
       refine⟨max d1 d2,fr',h'',?_,q⟩
       have e:=opBy_le (callF_mono (E:=E) (Nat.le_max_left d1 d2)) e
       have e':=stepsPlan_le (callF_mono (E:=E) (Nat.le_max_right d1 d2)) _ e'
       have hn:Nat.ble h.n h'.n=true:=Nat.ble_eq_true_of_le k1
       rw[e2]at e' k2
       simp only[stepsPlan,ho,step,hw,e,setD_put e4,Option.map_some,hn,agK_sound _ _ hag k2,Bool.and_self,cond_true]
       exact e'
     · obtain⟨k2,k⟩:=w
       obtain⟨d2,fr',h'',e',q⟩:=planW_sound os xs h2 k
       refine⟨d2,fr',h'',?_,q⟩
       have hn:Nat.ble h.n h.n=true:=Nat.ble_eq_true_of_le (Nat.le_refl _)
       rw[e2]at e' k2
       simp only[stepsPlan,ho,step,hw,setD_put e4,Option.map_some,hn,agK_sound _ _ hag k2,Bool.and_self,cond_true]
       exact e'
   · cases h1
theorem insOneG_eq {ops:List Oper}{fr:Fr}{t r:Nat}:∀ {a:List Item}{ia:List Op},mapOpt (fun x=>(nth ops x.i).map (·.op)) a=some ia →
   (a.all fun y=>match nth ops y.i with|some o=>insOne E fr t r o|none=>false)=ia.all (insOneG E fr t r)
 | [],ia,h=>by simp only[mapOpt,Option.some.injEq]at h;subst h;rfl
 | x::a,ia,h=>by
   obtain⟨o,l,h1,h2,rfl⟩:=mapOpt_cons h
   simp only[Option.map_eq_some_iff]at h1
   obtain⟨o',h1,rfl⟩:=h1
   simp only[List.all_cons,insOneG_eq h2,h1]
   rfl
theorem insAllG_eq {ops:List Oper}{fr:Fr}{h:Heap}{a:List Item}{ia:List Op}(hm:mapOpt (fun x=>(nth ops x.i).map (·.op)) a=some ia):insAll E ops fr h a=insAllG E fr h ia:=by
 cases a with
 | nil=>simp only[mapOpt,Option.some.injEq]at hm;subst hm;rfl
 | cons x a =>
   have hm0:=hm
   obtain⟨o,l,h1,h2,rfl⟩:=mapOpt_cons hm
   simp only[Option.map_eq_some_iff]at h1
   obtain⟨o',h1,rfl⟩:=h1
   have e:insMap E fr (nth ops x.i)=insMapG E fr o'.op:=by rw[h1];rfl
   simp only[insAll,insAllG,e]
   cases insMapG E fr o'.op with
   | none=>rfl
   | some p=>exact congrArg (isSmap h p.2&&·) (insOneG_eq hm0)
theorem iter_more {f:Fr→Heap→Option (Ex×Fr×Heap)}:∀ (n m:Nat) (fr:Fr) (h:Heap) (r:Ex×Fr×Heap),n≤m→iter f n fr h=some r→iter f m fr h=some r
 | 0,_,_,_,_,_,e=>by simp[iter]at e
 | n+1,0,_,_,_,hm,_=>by omega
 | n+1,m+1,fr,h,r,hm,e=>by
   simp only[iter]at e ⊢
   cases hf:f fr h with
   | none=>rw[hf]at e;cases e
   | some p =>
     rw[hf]at e
     obtain⟨ex,fr',h'⟩:=p
     cases ex with
     | normal=>exact iter_more n m _ _ _ (by omega) e
     | exit id=>exact e
     | ret=>exact e
theorem roundW_sound {b:Nat→Fr→Heap→Option (Ex×Fr×Heap)}{B:Fr→Heap→(Ex→Fr→Heap→Prop)→Prop}{nt:Nat}{M:MHead}(hB:∀ fr h Q,B fr h Q→∃ d ex fr' h',b d fr h=some (ex,fr',h')∧Q ex fr' h') {fr0:Fr}{H:Heap}{e:Value×Value×Nat}{K:Fr→Heap→Prop}
  (w:roundW B nt M fr0 H e K):∃ d f1 h1,mround (b d) nt M fr0 H e=some (f1,h1)∧K f1 h1:=by
 obtain⟨f,hp,w⟩:=w
 obtain⟨d,ex,f3,h3,e1,rfl,q⟩:=hB _ _ _ w
 exact⟨d,f3,h3,by simp only[mround,hp,e1],q⟩
theorem endW_sound {b:Nat→Fr→Heap→Option (Ex×Fr×Heap)}{B:Fr→Heap→(Ex→Fr→Heap→Prop)→Prop}{nt:Nat}{M:MHead}(hB:∀ fr h Q,B fr h Q→∃ d ex fr' h',b d fr h=some (ex,fr',h')∧Q ex fr' h') {fr0:Fr}{H:Heap}{Q:Ex→Fr→Heap→Prop}
  (w:endW B nt M fr0 H Q):∃ d ex f1 h1,mend (b d) nt M fr0 H=some (ex,f1,h1)∧Q ex f1 h1:=by
 obtain⟨f,hp,w⟩:=w
 obtain⟨d,ex,f3,h3,e1,hne,q⟩:=hB _ _ _ w
 refine⟨d,ex,f3,h3,?_,q⟩
 simp only[mend,hp,e1]
 cases ex with
 | normal=>exact absurd rfl hne
 | exit i=>rfl
 | ret=>rfl
theorem quietW_sound {b:Nat→Fr→Heap→Option (Ex×Fr×Heap)}{B:Fr→Heap→(Ex→Fr→Heap→Prop)→Prop}{nt:Nat}{M:MHead}(hm:∀ d d',d≤d'→∀ fr h r,b d fr h=some r→b d' fr h=some r) (hB:∀ fr h Q,B fr h Q→∃ d ex fr' h',b d fr h=some (ex,fr',h')∧Q ex fr' h')
   {sp:Option Nat}{fr0:Fr}{H:Heap}(w:quietW B nt M sp fr0 H):∃ d,QAll (b d) nt M sp fr0 H:=by
 have key:∀ l:List (Value×Value×Nat),(∀ e∈l,sp≠some e.2.2→roundW B nt M fr0 H e fun f3 h3=>QuietP M fr0 H (f3,h3))→∃ d,∀ e∈l,sp≠some e.2.2→∃ p,mround (b d) nt M fr0 H e=some p∧QuietP M fr0 H p:=by
   intro l
   induction l with
   | nil=>intro _;exact⟨0,fun e he=>by cases he⟩
   | cons x l ih =>
     intro hw
     obtain⟨d,hd⟩:=ih fun e he=>hw e (List.mem_cons_of_mem _ he)
     by_cases hx:sp=some x.2.2
     · exact⟨d,fun e he hne=>by
         rcases List.mem_cons.1 he with rfl|he
         · exact absurd hx hne
         · exact hd e he hne⟩
     · obtain⟨d2,f1,h1,e1,q⟩:=roundW_sound hB (hw x List.mem_cons_self hx)
       refine⟨max d d2,fun e he hne=>?_⟩
       rcases List.mem_cons.1 he with rfl|he
       · exact⟨_,mround_le (hm _ _ (Nat.le_max_right d d2)) e1,q⟩
       · obtain⟨p,h1,h2⟩:=hd e he hne
         exact⟨p,mround_le (hm _ _ (Nat.le_max_left d d2)) h1,h2⟩
 exact key M.es w
theorem mloop_sound {b:Nat→Fr→Heap→Option (Ex×Fr×Heap)}{B:Fr→Heap→(Ex→Fr→Heap→Prop)→Prop}{nt:Nat}{M:MHead}(hm:∀ d d',d≤d'→∀ fr h r,b d fr h=some r→b d' fr h=some r) (hB:∀ fr h Q,B fr h Q→∃ d ex fr' h',b d fr h=some (ex,fr',h')∧Q ex fr' h')
   {sp:Option Nat}{fr0:Fr}{H:Heap}{Q:Ex→Fr→Heap→Prop}(w:mloopW B nt M sp fr0 H Q):∃ d ex fr' h',mapOrc (b d) nt M sp fr0 H=some (ex,fr',h')∧Q ex fr' h':=by
 obtain⟨hat,hq,w⟩:=w
 obtain⟨d1,hq⟩:=quietW_sound hm hB hq
 cases sp with
 | none =>
   obtain⟨d2,ex,f1,h1,e,q⟩:=endW_sound hB w
   refine⟨max d1 d2,ex,f1,h1,?_,q⟩
   unfold mapOrc
   rw[if_pos ⟨hat,QAll_le (hm _ _ (Nat.le_max_left d1 d2)) hq⟩]
   exact mend_le (hm _ _ (Nat.le_max_right d1 d2)) e
 | some s =>
   obtain⟨e0,hf,w⟩:=w
   obtain⟨d2,f1,h1,e1,c1,c2,c3,w,we⟩:=roundW_sound hB w
   obtain⟨d3,hq2⟩:=quietW_sound hm hB w
   obtain⟨d4,ex,f4,h4,e4,q⟩:=endW_sound hB we
   refine⟨max (max d1 d2) (max d3 d4),ex,f4,h4,?_,q⟩
   have l1:d1≤max (max d1 d2) (max d3 d4):=by omega
   have l2:d2≤max (max d1 d2) (max d3 d4):=by omega
   have l3:d3≤max (max d1 d2) (max d3 d4):=by omega
   have l4:d4≤max (max d1 d2) (max d3 d4):=by omega
   unfold mapOrc
   rw[if_pos ⟨hat,QAll_le (hm _ _ l1) hq⟩]
   simp only[hf,mround_le (hm _ _ l2) e1]
   rw[if_pos ⟨c1,c2,c3,QAll_le (hm _ _ l3) hq2⟩]
   exact mend_le (hm _ _ l4) e4
theorem head_of {B:Fr→Heap→(Ex→Fr→Heap→Prop)→Prop}{nt t:Nat}{d:Option Nat}{l:List GO}{ops:List Oper}{fr:Fr}{h:Heap}{M':MHead}(hc:cleanH nt ops=some (t,d,l)) (hM:mapHead E [hdO t d] fr h=some M') {sp:Option Nat}{fr0:Fr}{Q:Ex→Fr→Heap→Prop}(w:mloopW B nt M' sp fr0 h Q) :
   ∃ M,mapHead E ops fr h=some M∧mapOpt (cleanO nt ops) M.tail=some l∧M.es=M'.es∧mloopW B nt M sp fr0 h Q:=by
 unfold cleanH at hc
 split at hc
 · cases hc
 rename_i o0 tl
 split at hc
 · rename_i t' hop hgd
   cases hdf:(o0::tl).any isDefer with
   | true=>rw[hdf]at hc;cases hc
   | false =>
     rw[hdf,cond_false,Option.map_eq_some_iff]at hc
     obtain⟨l',hl,hq⟩:=hc
     simp only[Prod.mk.injEq]at hq
     obtain⟨rfl,rfl,rfl⟩:=hq
     have hd1:([{ dst:=o0.dst,op:=.next (.tmp t') false,type:=0,pos:= "",after:=#[],guard:=none }]:List Oper).any isDefer=false:=rfl
     have hM2:mapHead E (o0::tl) fr h=some { M' with o0:=o0,tail:=tl }∧M'.o0.dst=o0.dst:=by
       simp only[mapHead,hop,hgd,hdf,hd1,hdO]at hM ⊢
       split at hM
       · split at hM
         · split at hM
           · obtain⟨hcc,hM⟩:=cond_some hM
             rw[hcc,cond_true]
             simp only[Option.some.injEq]at hM
             subst hM
             exact⟨rfl,rfl⟩
           · cases hM
         · cases hM
       · cases hM
     have hp:∀ f v,put nt f M'.o0 v=put nt f o0 v:=fun f v=>by unfold put;rw[hM2.2]
     refine⟨_,hM2.1,hl,rfl,?_⟩
     simp only[mloopW,quietW,roundW,endW,QuietP,atR,hp]at w ⊢
     exact w
 · cases hc
theorem mapHead_none {ops:List Oper}{fr:Fr}{h:Heap}(hn:∀ o0 tail x,ops=o0::tail→o0.op≠.next x false):mapHead E ops fr h=none:=by
 unfold mapHead
 split
 ·rfl
 ·rename_i o0 tail
  split
  ·rename_i t ho _
   exact absurd ho (hn o0 tail _ rfl)
  ·rfl
theorem code_loop {call:CallT}{nt:Nat}{rd:Option Nat}{b:Code}{fr:Fr}{h:Heap}(hn:headNext b=false):code E call nt rd (.loop b) fr h=iter (code E call nt rd b) 1000000 fr h:=by
 cases b with
 | seq x y=>cases x with
   | region id ops dr=>cases dr with
     | true=>simp only[code]
     | false =>
       simp only[code]
       rw[mapHead_none]
       intro o0 tail x e1 e2
       simp only[headNext,headNextO,e1,e2]at hn
       cases hn
   | _=>simp only[code]
 | _=>simp only[code]
theorem GC.wp_sound {nt:Nat}{rd:Option Nat}:∀ (c:Code) (g:GC) {fr:Fr}{h:Heap}{Q:Ex→Fr→Heap→Prop},clean E nt c=some g→g.wp E nt rd fr h Q→WP E nt rd c fr h Q
 | .skip,g,fr,h,Q,hg,w=>by simp only[clean,Option.some.injEq]at hg;subst hg;exact⟨0,_,_,_,rfl,w⟩
 | .label _,g,fr,h,Q,hg,w=>by simp only[clean,Option.some.injEq]at hg;subst hg;exact⟨0,_,_,_,rfl,w⟩
 | .exit _,g,fr,h,Q,hg,w=>by simp only[clean,Option.some.injEq]at hg;subst hg;exact⟨0,_,_,_,rfl,w⟩
 | .ret,g,fr,h,Q,hg,w=>by simp only[clean,Option.some.injEq]at hg;subst hg;exact⟨0,_,_,_,rfl,w⟩
 | .region _ os false,g,fr,h,Q,hg,w=>by
   simp only[clean]at hg
   cases hdf:os.toList.any isDefer with
   | true=>rw[hdf]at hg;cases hg
   | false =>
   rw[hdf]at hg
   simp only[cond_false,Option.map_eq_some_iff]at hg
   obtain⟨l,hl,rfl⟩:=hg
   obtain⟨d,fr',h',e,q⟩:=opsW_sound (nt:=nt) _ _ hl w
   exact⟨d,_,fr',h',by simp only[code,hdf,cond_false,e,Option.map_some],q⟩
 | .region _ os true,g,fr,h,Q,hg,w=>by
   simp only[clean]at hg
   split at hg
   · rename_i pl hpl
     simp only[Option.map_eq_some_iff]at hg
     obtain⟨l,hl,rfl⟩:=hg
     obtain⟨d,fr',h',e,q⟩:=planW_sound (nt:=nt) _ _ hl w
     exact⟨d,_,fr',h',by simp only[code,hpl,e,Option.map_some],q⟩
   · rename_i hpl
     split at hg
     · rename_i q a z hpi
       split at hg
       · rename_i q' az ia hq haz hia
         simp only[Option.some.injEq]at hg
         subst hg
         obtain⟨d1,fr1,h1,e1,hall,w⟩:=planW_sound (nt:=nt) _ _ hq w
         obtain⟨d2,fr',h',e2,k⟩:=planW_sound (nt:=nt) _ _ haz w
         refine⟨max d1 d2,_,fr',h',?_,k⟩
         have e1:=stepsPlan_le (callF_mono (E:=E) (Nat.le_max_left d1 d2)) _ e1
         have e2:=stepsPlan_le (callF_mono (E:=E) (Nat.le_max_right d1 d2)) _ e2
         rw[← insAllG_eq hia]at hall
         simp only[code,hpl,hpi,e1,hall,cond_true,e2,Option.map_some]
       · cases hg
     · cases hg
 | .seq a b,g,fr,h,Q,hg,w=>by
   simp only[clean]at hg
   split at hg
   · rename_i ga gb ha hb
     cases hg
     obtain⟨d,ex,fr',h',e,q⟩:=GC.wp_sound a ga ha w
     cases ex with
     | normal =>
       obtain⟨d2,ex2,fr2,h2,e2,q2⟩:=GC.wp_sound b gb hb q
       refine⟨max d d2,ex2,fr2,h2,?_,q2⟩
       simp only[code,code_le (callF_mono (E:=E) (Nat.le_max_left d d2)) _ _ _ _ e]
       exact code_le (callF_mono (E:=E) (Nat.le_max_right d d2)) _ _ _ _ e2
     | exit id=>exact⟨d,_,fr',h',by simp only[code,e],q⟩
     | ret=>exact⟨d,_,fr',h',by simp only[code,e],q⟩
   · cases hg
 | .cond c a b,g,fr,h,Q,hg,w=>by
   simp only[clean]at hg
   split at hg
   · rename_i ga gb ha hb
     cases hg
     simp only[GC.wp,condK]at w
     split at w
     · rename_i bb hc
       cases bb with
       | true =>
         obtain⟨d,ex,fr',h',e,q⟩:=GC.wp_sound a ga ha (w.1 rfl)
         exact⟨d,ex,fr',h',by simp only[code,hc,e],q⟩
       | false =>
         obtain⟨d,ex,fr',h',e,q⟩:=GC.wp_sound b gb hb (w.2 rfl)
         exact⟨d,ex,fr',h',by simp only[code,hc,e],q⟩
     · exact w.elim
   · cases hg
 | .block id a,g,fr,h,Q,hg,w=>by
   simp only[clean,Option.map_eq_some_iff]at hg
   obtain⟨ga,ha,rfl⟩:=hg
   obtain⟨d,ex,fr',h',e,q⟩:=GC.wp_sound a ga ha w
   cases ex with
   | normal=>exact⟨d,_,fr',h',by simp only[code,e],q⟩
   | exit j=>exact⟨d,_,fr',h',by simp only[code,e],q⟩
   | ret=>exact⟨d,_,fr',h',by simp only[code,e],q⟩
 | .loop a,g,fr,h,Q,hg,w=>by
   by_cases hb:∃ id ops rest,a=.seq (.region id ops false) rest∧headNextO ops.toList=true
   · obtain⟨id,ops,rest,rfl,hh⟩:=hb
     simp only[clean,hh,cond_true]at hg
     split at hg
     · rename_i t d0 l ga hl hga
       cases hg
       obtain⟨M',sp,hM',hsp',w⟩:=w
       obtain⟨M,hM,hl',hes,w⟩:=head_of hl hM' w
       have hsp:E.orc M.es fr h=some sp:=by rw[hes];exact hsp'
       obtain⟨d,ex,fr',h',e,q⟩:=mloop_sound (b:=fun d fr h=>match stepsText E (callF E d) nt ops.toList M.tail fr h with|some (fr,h)=>code E (callF E d) nt rd rest fr h|none=>none)
         (fun d d' hd fr h r e=>by
           split at e
           · rename_i f1 h1 e1
             rw[stepsText_le (callF_mono hd) _ e1]
             exact code_le (callF_mono hd) _ _ _ _ e
           · cases e)
         (fun fr h Q w=>by
           obtain⟨d,f1,h1,e1,q⟩:=opsW_sound _ _ hl' w
           obtain⟨d2,ex,fr',h',e2,q2⟩:=GC.wp_sound rest ga hga q
           refine⟨max d d2,ex,fr',h',?_,q2⟩
           simp only[stepsText_le (callF_mono (Nat.le_max_left d d2)) _ e1]
           exact code_le (callF_mono (Nat.le_max_right d d2)) _ _ _ _ e2) w
       exact⟨d,ex,fr',h',by simp only[code,hM,hsp];exact e,q⟩
     · cases hg
   have hsub:∃ ga,clean E nt a=some ga∧g=.loop ga∧headNext a=false:=by
     by_cases hb2:∃ id ops rest,a=.seq (.region id ops false) rest
     · obtain⟨id,ops,rest,rfl⟩:=hb2
       have hh:headNextO ops.toList=false:=by
         cases hc:headNextO ops.toList with
         | true=>exact absurd ⟨id,ops,rest,rfl,hc⟩ hb
         | false=>rfl
       rw[clean,hh,cond_false,Option.map_eq_some_iff]at hg
       obtain⟨ga,h1,rfl⟩:=hg
       exact⟨ga,h1,rfl,hh⟩
     · have e':clean E nt (.loop a)=(clean E nt a).map .loop∧headNext a=false:=by
         cases a with
         | seq x y=>cases x with
           | region id ops dr=>cases dr with
             | true=>exact⟨by simp only[clean],rfl⟩
             | false=>exact absurd ⟨_,_,_,rfl⟩ hb2
           | _=>exact⟨by simp only[clean],rfl⟩
         | _=>exact⟨by simp only[clean],rfl⟩
       rw[e'.1,Option.map_eq_some_iff]at hg
       obtain⟨ga,h1,rfl⟩:=hg
       exact⟨ga,h1,rfl,e'.2⟩
   obtain⟨ga,ha,rfl,hhn⟩:=hsub
   obtain⟨n,hn,w⟩:=w
   have hs:∀ {fr h Q},ga.wp E nt rd fr h Q→WP E nt rd a fr h Q:=fun w=>GC.wp_sound a ga ha w
   have key:∀ n fr h,loopN (ga.wp E nt rd) Q n fr h→∃ d ex fr' h',iter (code E (callF E d) nt rd a) n fr h=some (ex,fr',h')∧Q ex fr' h':=by
     intro n
     induction n with
     | zero=>intro fr h w;exact w.elim
     | succ n ih =>
       intro fr h w
       obtain⟨d,ex,fr',h',e,q⟩:=hs w
       cases ex with
       | normal =>
         obtain⟨d2,ex2,fr2,h2,e2,q2⟩:=ih _ _ q
         refine⟨max d d2,ex2,fr2,h2,?_,q2⟩
         simp only[iter,code_le (callF_mono (E:=E) (Nat.le_max_left d d2)) _ _ _ _ e]
         exact iter_le (fun fr h r=>code_le (callF_mono (E:=E) (Nat.le_max_right d d2)) a fr h r) _ _ _ _ e2
       | exit id=>exact⟨d,_,fr',h',by simp only[iter,e],q⟩
       | ret=>exact⟨d,_,fr',h',by simp only[iter,e],q⟩
   obtain⟨d,ex,fr',h',e,q⟩:=key n fr h w
   exact⟨d,ex,fr',h',by rw[code_loop hhn];exact iter_more _ _ _ _ _ hn e,q⟩
 | .scope a,g,fr,h,Q,hg,w=>by
   simp only[clean]at hg
   obtain⟨d,ex,fr',h',e,q⟩:=GC.wp_sound a g hg w
   exact⟨d,ex,fr',h',by simp only[code,e],q⟩
 | .rangeFunc ..,g,fr,h,Q,hg,w=>by simp only[clean,Option.some.injEq]at hg;subst hg;exact w
 | .goto ..,g,fr,h,Q,hg,w=>by simp[clean]at hg
 | .refuse ..,g,fr,h,Q,hg,w=>by simp[clean]at hg
theorem gdK.mono {g:Option (Nat×Bool)}{fr:Fr}{A A' B B':Prop}(w:gdK g fr A B) (ha:A→A') (hb:B→B'):gdK g fr A' B':=by
 unfold gdK at w ⊢
 split at w
 ·exact ha w
 ·split at w
  ·exact⟨fun e=>ha (w.1 e),fun e=>hb (w.2 e)⟩
  ·exact hb w
  ·exact w
theorem opW.mono {op:Op}{fr:Fr}{h:Heap}{K K':Value→Heap→Prop}(w:opW E op fr h K) (k:∀ v h',K v h'→K' v h'):opW E op fr h K':=by
 have other:∀ {r},onR r K→onR r K':=fun ⟨v,h',e,q⟩=>⟨v,h',e,k _ _ q⟩
 unfold opW at w ⊢
 split at w
 · rename_i c
   split at w
   · exact other w
   · cases hq:isQ E c with
     | true=>rw[hq]at w;exact other w
     | false =>
       rw[hq]at w
       rw[cond_false]at w ⊢
       split at w
       · exact w.mono k
       · exact w
 · exact other w
def dstIs (d:Option Nat) (t:Nat):Bool:=match d with|some d=>Nat.beq d t|none=>false
def wrO (l:List GO) (t:Nat):Bool:=l.any fun x=>dstIs x.d t
def GC.wr:GC→Nat→Bool
 | .skip,_=>false
 | .ops l,t=>wrO l t
 | .plan l,t=>wrO (l.map (·.1)) t
 | .iplan q az _,t=>wrO (q.map (·.1)) t || wrO (az.map (·.1)) t
 | .seq a b,t=>a.wr t || b.wr t
 | .cond _ a b,t=>a.wr t || b.wr t
 | .block _ a,t=>a.wr t
 | .loop a,t=>a.wr t
 | .mloop ..,_=>true
 | .exit _,_=>false
 | .ret,_=>false
 | .rangeF ..,_=>false
theorem setD_get {fr:Fr}{d:Option Nat}{v:Value}{t:Nat}(h:dstIs d t=false):(setD fr d v).get t=fr.get t:=by
 unfold setD
 cases d with
 | none=>rfl
 | some d=>exact T.get_set_ne _ _ (by intro e;subst e;simp[dstIs]at h)
theorem opsW.mono:∀ (l:List GO) {fr:Fr}{h:Heap}{Q Q':Fr→Heap→Prop},opsW E l fr h Q→(∀ fr' h',(∀ t,wrO l t=false→fr'.get t=fr.get t)→Q fr' h'→Q' fr' h')→opsW E l fr h Q'
 | [],fr,h,Q,Q',w,k=>k fr h (fun _ _=>rfl) w
 | x::os,fr,h,Q,Q',w,k=>by
   have st:∀ v h',opsW E os (setD fr x.d v) h' Q→opsW E os (setD fr x.d v) h' Q':=fun v h' w=>opsW.mono os w fun fr' h'' hk q=>k fr' h'' (fun t ht=>by
     simp only[wrO,List.any_cons,Bool.or_eq_false_iff]at ht
     rw[hk t ht.2,setD_get ht.1]) q
   exact gdK.mono w (fun w=>opW.mono w fun v h'=>st v h') (st _ _)
theorem planW.mono:∀ (l:List (GO×List GO)) {fr:Fr}{h:Heap}{Q Q':Fr→Heap→Prop},planW E l fr h Q→(∀ fr' h',(∀ t,wrO (l.map (·.1)) t=false→fr'.get t=fr.get t)→Q fr' h'→Q' fr' h')→planW E l fr h Q'
 | [],fr,h,Q,Q',w,k=>k fr h (fun _ _=>rfl) w
 | (x,ag)::os,fr,h,Q,Q',w,k=>by
   have st:∀ v h',planW E os (setD fr x.d v) h' Q→planW E os (setD fr x.d v) h' Q':=fun v h' w=>planW.mono os w fun fr' h'' hk q=>k fr' h'' (fun t ht=>by
     simp only[wrO,List.map_cons,List.any_cons,Bool.or_eq_false_iff]at ht
     rw[hk t ht.2,setD_get ht.1]) q
   exact gdK.mono w (fun w=>opW.mono w fun v h' hh=>⟨hh.1,hh.2.1,st v h' hh.2.2⟩) (fun hh=>⟨hh.1,st _ _ hh.2⟩)
theorem endLoopA_fr {h:Heap}{l:Nat}{fr fr':Fr}{ex:Ex}{h':Heap}(e:endLoopA h l fr=some (ex,fr',h')):fr'=fr:=by
 unfold endLoopA at e
 split at e<;>first|(cases e;done)|(simp only[Option.some.injEq,Prod.mk.injEq]at e;exact e.2.1.symm)
theorem rangeFunc_fr {call:CallT}{nt:Nat}{rd:Option Nat}{g:Operand}{ps:Array Nat}{a b:Code}{fr fr':Fr}{h h':Heap}{ex:Ex}(e:code E call nt rd (.rangeFunc g ps a b) fr h=some (ex,fr',h')):fr'=fr:=by
 simp only[code]at e
 cases hin:inRound h rd with
 | false=>rw[hin]at e;cases e
 | true =>
   rw[hin]at e
   simp only[cond_true]at e
   split at e
   · split at e
     · cases e
     · split at e
       · exact endLoopA_fr e
       · cases e
   · cases e
theorem endW.mono {B:Fr→Heap→(Ex→Fr→Heap→Prop)→Prop}{nt:Nat}{M:MHead}{fr0:Fr}{H:Heap}{Q Q':Ex→Fr→Heap→Prop}(hB:∀ {fr h Q Q'},B fr h Q→(∀ ex fr' h',Q ex fr' h'→Q' ex fr' h')→B fr h Q') (w:endW B nt M fr0 H Q) (k:∀ ex fr' h',Q ex fr' h'→Q' ex fr' h'):endW B nt M fr0 H Q' :=
 let ⟨f,h1,h2⟩:=w;⟨f,h1,hB h2 fun _ _ _ hh=>⟨hh.1,k _ _ _ hh.2⟩⟩
theorem roundW.mono {B:Fr→Heap→(Ex→Fr→Heap→Prop)→Prop}{nt:Nat}{M:MHead}{fr0:Fr}{H:Heap}{e:Value×Value×Nat}{K K':Fr→Heap→Prop}(hB:∀ {fr h Q Q'},B fr h Q→(∀ ex fr' h',Q ex fr' h'→Q' ex fr' h')→B fr h Q') (w:roundW B nt M fr0 H e K) (k:∀ fr' h',K fr' h'→K' fr' h'):roundW B nt M fr0 H e K' :=
 let ⟨f,h1,h2⟩:=w;⟨f,h1,hB h2 fun _ _ _ hh=>⟨hh.1,k _ _ hh.2⟩⟩
theorem mloopW.mono {B:Fr→Heap→(Ex→Fr→Heap→Prop)→Prop}{nt:Nat}{M:MHead}{sp:Option Nat}{fr0:Fr}{H:Heap}{Q Q':Ex→Fr→Heap→Prop}(hB:∀ {fr h Q Q'},B fr h Q→(∀ ex fr' h',Q ex fr' h'→Q' ex fr' h')→B fr h Q') (w:mloopW B nt M sp fr0 H Q) (k:∀ ex fr' h',Q ex fr' h'→Q' ex fr' h'):mloopW B nt M sp fr0 H Q':=by
 obtain⟨h1,h2,w⟩:=w
 refine⟨h1,h2,?_⟩
 cases sp with
 | none=>exact endW.mono hB w k
 | some s =>
   obtain⟨e,h3,w⟩:=w
   exact⟨e,h3,roundW.mono hB w fun _ _ hh=>⟨hh.1,hh.2.1,hh.2.2.1,hh.2.2.2.1,endW.mono hB hh.2.2.2.2 k⟩⟩
theorem GC.wp_mono {nt:Nat}{rd:Option Nat}:∀ (g:GC) {fr:Fr}{h:Heap}{Q Q':Ex→Fr→Heap→Prop},g.wp E nt rd fr h Q→(∀ ex fr' h',(∀ t,g.wr t=false→fr'.get t=fr.get t)→Q ex fr' h'→Q' ex fr' h')→g.wp E nt rd fr h Q'
 | .skip,fr,h,Q,Q',w,k=>k _ _ _ (fun _ _=>rfl) w
 | .exit _,fr,h,Q,Q',w,k=>k _ _ _ (fun _ _=>rfl) w
 | .ret,fr,h,Q,Q',w,k=>k _ _ _ (fun _ _=>rfl) w
 | .ops l,fr,h,Q,Q',w,k=>opsW.mono l w fun fr' h'=>k _ fr' h'
 | .plan l,fr,h,Q,Q',w,k=>planW.mono l w fun fr' h'=>k _ fr' h'
 | .iplan q az ia,fr,h,Q,Q',w,k=>planW.mono q w fun fr1 h1 hk hh=>⟨hh.1,planW.mono az hh.2 fun fr' h' hk2 qq=>k _ fr' h' (fun t ht=>by simp only[GC.wr,Bool.or_eq_false_iff]at ht;rw[hk2 t ht.2,hk t ht.1]) qq⟩
 | .seq a b,fr,h,Q,Q',w,k=>by
   refine GC.wp_mono a w fun ex fr' h' hk q=>?_
   cases ex with
   | normal=>exact GC.wp_mono b q fun ex2 fr2 h2 hk2 q2=>k _ _ _ (fun t ht=>by
       simp only[GC.wr,Bool.or_eq_false_iff]at ht
       rw[hk2 t ht.2,hk t ht.1]) q2
   | exit id=>exact k _ _ _ (fun t ht=>hk t (by simp only[GC.wr,Bool.or_eq_false_iff]at ht;exact ht.1)) q
   | ret=>exact k _ _ _ (fun t ht=>hk t (by simp only[GC.wr,Bool.or_eq_false_iff]at ht;exact ht.1)) q
 | .cond c a b,fr,h,Q,Q',w,k=>by
   simp only[GC.wp,condK]at w ⊢
   split at w
   · exact⟨fun e=>GC.wp_mono a (w.1 e) fun ex fr' h' hk q=>k _ _ _ (fun t ht=>hk t (by simp only[GC.wr,Bool.or_eq_false_iff]at ht;exact ht.1)) q,
       fun e=>GC.wp_mono b (w.2 e) fun ex fr' h' hk q=>k _ _ _ (fun t ht=>hk t (by simp only[GC.wr,Bool.or_eq_false_iff]at ht;exact ht.2)) q⟩
   · exact w
 | .block id a,fr,h,Q,Q',w,k=>by
   refine GC.wp_mono a w fun ex fr' h' hk q=>?_
   cases ex with
   | normal=>exact k _ _ _ hk q
   | exit j=>exact k _ _ _ hk q
   | ret=>exact k _ _ _ hk q
 | .mloop t d l rest D,fr,h,Q,Q',w,k=>by
   obtain⟨M,sp,h1,h2,w⟩:=w
   exact⟨M,sp,h1,h2,mloopW.mono (fun w k=>opsW.mono l w fun _ _ _ w=>GC.wp_mono rest w fun ex fr' h' _ q=>k _ _ _ q) w fun ex fr' h' q=>k _ _ _ (fun t ht=>by cases ht) q⟩
 | .loop a,fr,h,Q,Q',w,k=>by
   obtain⟨n,hn,w⟩:=w
   refine⟨n,hn,?_⟩
   have key:∀ n fr1 h1,(∀ t,a.wr t=false→fr1.get t=fr.get t)→loopN (a.wp E nt rd) Q n fr1 h1→loopN (a.wp E nt rd) Q' n fr1 h1:=by
     intro n
     induction n with
     | zero=>intro _ _ _ w;exact w
     | succ n ih =>
       intro fr1 h1 hk1 w
       refine GC.wp_mono a w fun ex fr' h' hk q=>?_
       have hk2:∀ t,a.wr t=false→fr'.get t=fr.get t:=fun t ht=>by rw[hk t ht,hk1 t ht]
       cases ex with
       | normal=>exact ih _ _ hk2 q
       | exit j=>exact k _ _ _ hk2 q
       | ret=>exact k _ _ _ hk2 q
   exact key n fr h (fun _ _=>rfl) w
 | .rangeF g ps a b,fr,h,Q,Q',w,k=>by
   obtain⟨d,ex,fr',h',e,q⟩:=w
   refine⟨d,ex,fr',h',e,k _ _ _ (fun t _=>?_) q⟩
   rw[rangeFunc_fr e]
def resK (E:Env) (rs:List ResultVar) (K:Value→Heap→Prop) (ex:Ex) (fr:Fr) (h:Heap):Prop :=
 match ex with
 | .exit _=>False
 | _=>match mapOpt (resOf E fr h) rs with
   | some vs=>K (resVal vs) h
   | none=>False
theorem Ret.of_body {f:FuncId}{fn:Func}{c:Code}{g:GC}{nt:Nat}{rs:List ResultVar}{args:List Value}{h:Heap}{K:Value→Heap→Prop}
  (hx:E.ext f args h=none) (hf:E.funs.get f=some fn) (hb:fn.body=some c) (hg:clean E (max fn.ntmps args.length) c=some g) (hnt:max fn.ntmps args.length=nt) (hrs:fn.results.toList=rs)
  (w:g.wp E nt none (setAll args 0 .leaf) h (resK E rs K)):Ret E (.func f) args h K:=by
 subst hnt hrs
 obtain⟨d,ex,fr',h',e,q⟩:=GC.wp_sound c g hg w
 unfold resK at q
 split at q
 ·exact q.elim
 ·rename_i hnx
  split at q
  ·rename_i vs hvs
   refine⟨d+1,resVal vs,h',?_,q⟩
   rw[callF]
   simp only[hx,hf,hb,e]
   have last:(match mapOpt (resOf E fr' h') fn.results.toList with|some [v]=>some (v,h')|some vs=>some (.tuple vs.toArray,h')|none=>none)=some (resVal vs,h'):=by
    rw[hvs]
    unfold resVal
    split<;>simp_all
   cases ex with
   | normal=>exact last
   | ret=>exact last
   | exit id=>exact absurd rfl (hnx id)
  ·exact q.elim
end
section
variable {E:Env}{nt:Nat}{rd:Option Nat}{fr:Fr}{h:Heap}{Q:Ex→Fr→Heap→Prop}{K:Value→Heap→Prop}
theorem cw_skip:GC.skip.wp E nt rd fr h Q=Q .normal fr h:=Eq.trans rfl rfl
theorem cw_ops {l:List GO}:(GC.ops l).wp E nt rd fr h Q=opsW E l fr h (Q .normal):=Eq.trans rfl rfl
theorem cw_plan {l:List (GO×List GO)}:(GC.plan l).wp E nt rd fr h Q=planW E l fr h (Q .normal):=Eq.trans rfl rfl
theorem cw_iplan {q az:List (GO×List GO)}{ia:List Op}:(GC.iplan q az ia).wp E nt rd fr h Q=planW E q fr h fun fr1 h1=>insAllG E fr1 h1 ia=true∧planW E az fr1 h1 (Q .normal):=Eq.trans rfl rfl
theorem cw_seq {a b:GC}:(GC.seq a b).wp E nt rd fr h Q=a.wp E nt rd fr h (seqK (b.wp E nt rd) Q):=Eq.trans rfl rfl
theorem cw_block {id:Nat}{a:GC}:(GC.block id a).wp E nt rd fr h Q=a.wp E nt rd fr h (blockK id Q):=Eq.trans rfl rfl
theorem cw_exit {id:Nat}:(GC.exit id).wp E nt rd fr h Q=Q (.exit id) fr h:=Eq.trans rfl rfl
theorem cw_ret:GC.ret.wp E nt rd fr h Q=Q .ret fr h:=Eq.trans rfl rfl
theorem seqK_normal {B:Fr→Heap→(Ex→Fr→Heap→Prop)→Prop}:seqK B Q .normal fr h=B fr h Q:=Eq.trans rfl rfl
theorem seqK_exit {B:Fr→Heap→(Ex→Fr→Heap→Prop)→Prop}{i:Nat}:seqK B Q (.exit i) fr h=Q (.exit i) fr h:=Eq.trans rfl rfl
theorem seqK_ret {B:Fr→Heap→(Ex→Fr→Heap→Prop)→Prop}:seqK B Q .ret fr h=Q .ret fr h:=Eq.trans rfl rfl
theorem blockK_normal {id:Nat}:blockK id Q .normal fr h=Q .normal fr h:=Eq.trans rfl rfl
theorem blockK_ret {id:Nat}:blockK id Q .ret fr h=Q .ret fr h:=Eq.trans rfl rfl
theorem blockK_same {id:Nat}:blockK id Q (.exit id) fr h=Q .normal fr h:=by simp[blockK]
theorem blockK_ne {id j:Nat}(hj:j≠id):blockK id Q (.exit j) fr h=Q (.exit j) fr h:=by simp[blockK,cond_beq,hj]
theorem loopK_normal {R:Fr→Heap→Prop}:loopK R Q .normal fr h=R fr h:=Eq.trans rfl rfl
theorem loopK_exit {R:Fr→Heap→Prop}{i:Nat}:loopK R Q (.exit i) fr h=Q (.exit i) fr h:=Eq.trans rfl rfl
theorem loopK_ret {R:Fr→Heap→Prop}:loopK R Q .ret fr h=Q .ret fr h:=Eq.trans rfl rfl
def getK (fr:Fr) (t:Nat) (K:Value→Prop) [Tok K]:Prop:=∃ v,fr.get t=some v∧K v
def evK (E:Env) (fr:Fr) (x:Operand) (K:Value→Prop) [Tok K]:Prop:=onV (ev E fr x) K
section
variable {K:Value→Prop}
theorem getK_same {t:Nat}{v:Value}:getK (fr.set t v) t K=K v:=by simp[getK,T.get_set]
theorem getK_ne {s t:Nat}{v:Value}(hs:s≠t):getK (fr.set s v) t K=getK fr t K:=by simp[getK,T.get_set,hs]
theorem getK_of {t:Nat}{v:Value}(e:fr.get t=some v):∀ K,getK fr t K=K v:=fun K=>by simp[getK,e]
theorem getK_eq {t:Nat}{fr0:Fr}(e:fr.get t=fr0.get t):∀ K,getK fr t K=getK fr0 t K:=fun K=>by simp[getK,e]
theorem evK_tmp {t:Nat}:evK E fr (.tmp t) K=getK fr t K:=by
 simp only[evK,getK,ev];cases fr.get t<;>simp[onV]
theorem evK_const {v:Value}(hc:constOk v=true):evK E fr (.const v) K=K v:=by simp[evK,ev,hc]
theorem evK_int {k:IntKind}{n:Int}:evK E fr (.const (.int k n)) K=K (.int k n):=evK_const rfl
theorem evK_bool {b:Bool}:evK E fr (.const (.bool b)) K=K (.bool b):=evK_const rfl
theorem evK_string {s:ByteArray}:evK E fr (.const (.string s)) K=K (.string s):=evK_const rfl
theorem evK_nilslice:evK E fr (.const (.slice none 0 0)) K=K (.slice none 0 0):=evK_const rfl
theorem evK_nilmap:evK E fr (.const (.map none)) K=K (.map none):=evK_const rfl
theorem evK_nilIface:evK E fr (.const .nilIface) K=K .nilIface:=evK_const rfl
theorem evK_func {f:FuncId}:evK E fr (.func f) K=K (.func (.func f) #[] #[]):=by simp[evK,ev]
end
def condV (v:Value) (A B:Prop) [Tok A] [Tok B]:Prop:=condK (some v) A B
def brK (p:Prop) (A B:Prop) [Tok A] [Tok B]:Prop:=(p→A)∧(¬p→B)
theorem brK_true {A B:Prop}:brK True A B=A:=by simp[brK]
theorem brK_false {A B:Prop}:brK False A B=B:=by simp[brK]
theorem brK_not {p:Prop}{A B:Prop}:brK (¬p) A B=brK p B A:=by
 unfold brK;apply propext;constructor
 ·exact fun h=>⟨fun hp=>h.2 (fun hn=>hn hp),h.1⟩
 ·exact fun h=>⟨h.2,fun hn=>Classical.byContradiction fun hb=>hn fun hp=>hb (h.1 hp)⟩
theorem brK_yes {p:Prop}{A B:Prop}(hp:p) (a:A):brK p A B:=⟨fun _=>a,fun hn=>absurd hp hn⟩
theorem brK_no {p:Prop}{A B:Prop}(hp:¬p) (b:B):brK p A B:=⟨fun h=>absurd h hp,fun _=>b⟩
theorem brK_both {p:Prop}{A B:Prop}(a:p→A) (b:¬p→B):brK p A B:=⟨a,b⟩
theorem cw_cond {c:Operand}{a b:GC}:(GC.cond c a b).wp E nt rd fr h Q=evK E fr c fun v=>condV v (a.wp E nt rd fr h Q) (b.wp E nt rd fr h Q):=by
 simp only[GC.wp,evK,onV,condV,condK]
 cases ev E fr c with
 | none=>simp
 | some v=>simp
theorem condV_var {b:Bool}{A B:Prop}:condV (.bool b) A B=brK (b=true) A B:=by simp[condV,condK,brK]
def gdV (v:Value) (w:Bool) (A B:Prop) [Tok A] [Tok B]:Prop:=match v with
 | .bool b=>(b=w→A)∧(b≠w→B)
 | _=>B
theorem gdK_some {s:Nat}{w:Bool}{A B:Prop}:gdK (some (s,w)) fr A B=getK fr s fun v=>gdV v w A B:=by
 simp only[gdK,getK,gdV]
 cases fr.get s with
 | none=>simp[undef]
 | some v=>cases v<;>simp
theorem gdV_var {b w:Bool}{A B:Prop}:gdV (.bool b) w A B=brK (b=w) A B:=by simp[gdV,brK]
theorem gdV_undef {w:Bool}{A B:Prop}:gdV undef w A B=B:=by simp[gdV,undef]
section
variable {Q:Fr→Heap→Prop}{os:List GO}{op:Op}{d s:Nat}{w:Bool}{ag:List GO}{ps:List (GO×List GO)}
theorem opsW_nil:opsW E [] fr h Q=Q fr h:=Eq.trans rfl rfl
theorem opsW_d:opsW E (⟨none,some d,op⟩::os) fr h Q=opW E op fr h fun v h'=>opsW E os (fr.set d v) h' Q:=Eq.trans rfl rfl
theorem opsW_n:opsW E (⟨none,none,op⟩::os) fr h Q=opW E op fr h fun _ h'=>opsW E os fr h' Q:=Eq.trans rfl rfl
theorem opsW_gd:opsW E (⟨some (s,w),some d,op⟩::os) fr h Q=getK fr s fun v=>gdV v w (opW E op fr h fun v h'=>opsW E os (fr.set d v) h' Q) (opsW E os (fr.set d undef) h Q):=gdK_some
theorem planW_nil:planW E [] fr h Q=Q fr h:=Eq.trans rfl rfl
theorem planW_d:planW E ((⟨none,some d,op⟩,ag)::ps) fr h Q=opW E op fr h fun v h'=>h.n≤h'.n∧agK E ag (fr.set d v) h'∧planW E ps (fr.set d v) h' Q:=Eq.trans rfl rfl
theorem planW_n:planW E ((⟨none,none,op⟩,ag)::ps) fr h Q=opW E op fr h fun _ h'=>h.n≤h'.n∧agK E ag fr h'∧planW E ps fr h' Q:=Eq.trans rfl rfl
theorem planW_gd:planW E ((⟨some (s,w),some d,op⟩,ag)::ps) fr h Q=getK fr s fun v=>gdV v w (opW E op fr h fun v h'=>h.n≤h'.n∧agK E ag (fr.set d v) h'∧planW E ps (fr.set d v) h' Q) (agK E ag (fr.set d undef) h∧planW E ps (fr.set d undef) h Q):=gdK_some
theorem agK_nil:agK E [] fr h=True:=Eq.trans rfl rfl
end
theorem onR_some {v:Value}{h:Heap}{K:Value→Heap→Prop}:onR (some (v,h)) K=K v h :=
 propext ⟨fun ⟨_,_,e,k⟩=>by cases e;exact k,fun k=>⟨_,_,rfl,k⟩⟩
theorem onR_none {K:Value→Heap→Prop}:onR none K=False:=by simp[onR]
theorem onR_map {r:Option Value}:onR (r.map (·,h)) K=onV r fun v=>K v h:=by
 cases r with
 | none=>simp[onR,onV]
 | some v=>rw[Option.map_some,onR_some];simp[onV]
theorem onV_some' {α:Type}{v:α}{K:α→Prop}:onV (some v) K=K v:=by simp[onV]
theorem onV_none {α:Type}{K:α→Prop}:onV none K=False:=by simp[onV]
theorem opW_val {op:Op}(hk:kindOf E op=.pure) (hc:∀ c,op≠.call c):opW E op fr h K=onV (valOp E fr (operOf op)) fun v=>K v h:=by
 unfold opW
 split
 ·exact absurd rfl (hc _)
 ·simp only[opBy,operOf,hk];exact onR_map
theorem opW_pure {op:Op}(hk:kindOf E op=.pure) (hc:∀ c,op≠.call c) (hf:flOp E fr (operOf op)=none:=by rfl):opW E op fr h K=onV (pureOp E fr (operOf op)) fun v=>K v h:=by
 rw[opW_val hk hc]
 simp only[valOp,hf]
theorem opW_read {op:Op}(hk:kindOf E op=.read) (hc:∀ c,op≠.call c):opW E op fr h K=onV (readOp E fr (operOf op) h) fun v=>K v h:=by
 unfold opW
 split
 ·exact absurd rfl (hc _)
 ·simp only[opBy,operOf,hk];exact onR_map
theorem opW_alloc' {op:Op}(hk:kindOf E op=.alloc) (hc:∀ c,op≠.call c):opW E op fr h K=onV (allocOp E fr (operOf op)) fun p=>K (p.2 h.n) (newBlk h p.1):=by
 unfold opW
 split
 ·exact absurd rfl (hc _)
 ·simp only[opBy,operOf,hk]
  cases allocOp E fr _ with
  | none=>simp[onR,onV]
  | some p=>rw[Option.map_some,onR_some];simp[onV]
theorem opW_act {op:Op}(hk:kindOf E op=.act) (hc:∀ c,op≠.call c):opW E op fr h K=onR (actOp E fr (operOf op) h) K:=by
 unfold opW
 split
 ·exact absurd rfl (hc _)
 ·rename_i hno
  simp only[opBy,operOf,hk]
section
variable {x y z:Operand}{t t':TypeId}
theorem opW_move:opW E (.move x) fr h K=evK E fr x fun v=>K v h:=opW_pure rfl (by simp)
theorem opW_assign:opW E (.assign x) fr h K=evK E fr x fun v=>K v h:=opW_pure rfl (by simp)
theorem opW_pick:opW E (.pick x y z) fr h K=evK E fr x fun v=>condV v (evK E fr y fun v=>K v h) (evK E fr z fun v=>K v h):=by
 rw[opW_pure rfl (by simp)]
 simp only[pureOp,operOf,evK,onV,condV,condK]
 cases ev E fr x with
 | none=>simp
 | some v =>
   cases v with
   | bool b=>cases b<;>simp
   | _=>simp
def binK (E:Env) (op:BinOp) (t:TypeId) (c:Bool) (a b:Value) (K:Value→Prop) [Tok K]:Prop :=
 match a,b with
 | .nilIface,.nilIface=>c=true∧onV (abin E op t .nilIface .nilIface) K
 | .float .f64 a,.float .f64 b=>onV (fop op a b) K
 | .float .f64 _,.chan none=>onV (fopN op) K
 | .chan none,.float .f64 _=>onV (fopN op) K
 | .chan none,.chan none=>onV (fopN op) K
 | _,_=>onV (abin E op t a b) K
theorem abin_fl {op:BinOp}{a b:Nat}:abin E op t (.float .f64 a) (.float .f64 b)=none:=by cases op<;>rfl
theorem abin_flN {op:BinOp}{a:Nat}:abin E op t (.float .f64 a) (.chan none)=none:=by cases op<;>rfl
theorem abin_Nfl {op:BinOp}{b:Nat}:abin E op t (.chan none) (.float .f64 b)=none:=by cases op<;>rfl
theorem abin_NN {op:BinOp}:abin E op t (.chan none) (.chan none)=none:=by cases op<;>rfl
theorem binK_of {op:BinOp}{c:Bool}{a b:Value}{K:Value→Prop}(hn:¬(a=.nilIface∧b=.nilIface)) (hf:fbin op a b=none):binK E op t c a b K=onV (abin E op t a b) K:=by
 unfold binK
 split
 ·exact absurd ⟨rfl,rfl⟩ hn
 ·have hf:fop op _ _=none:=hf
  rw[hf,abin_fl]
 ·have hf:fopN op=none:=hf
  rw[hf,abin_flN]
 ·have hf:fopN op=none:=hf
  rw[hf,abin_Nfl]
 ·have hf:fopN op=none:=hf
  rw[hf,abin_NN]
 ·rfl
theorem binK_fl {op:BinOp}{c:Bool}{a b u:Value}{K:Value→Prop}(hf:fbin op a b=some u):binK E op t c a b K=K u:=by
 unfold fbin at hf
 split at hf<;>first|(cases hf;done)|(simp only[binK,hf,onV_some'])
theorem opW_bin {op:BinOp}:opW E (.binOp op t x y t') fr h K=evK E fr x fun a=>evK E fr y fun b=>binK E op t (isConst x || isConst y) a b fun v=>K v h:=by
 rw[opW_val rfl (by simp)]
 rcases hx:ev E fr x with _|a
 · simp[valOp,flOp,pureOp,operOf,evK,onV,hx]
 · rcases hy:ev E fr y with _|b
   · simp[valOp,flOp,pureOp,operOf,evK,onV,hx,hy]
   · have e1:(evK E fr x fun a=>evK E fr y fun b=>binK E op t (isConst x || isConst y) a b fun v=>K v h)=binK E op t (isConst x || isConst y) a b fun v=>K v h:=by
       unfold evK onV
       simp[hx,hy]
     rw[e1]
     simp only[valOp,flOp,pureOp,operOf,hx,hy]
     cases hf:fbin op a b with
     | some u=>rw[binK_fl hf];simp only[onV_some']
     | none =>
       simp only
       by_cases hn:a=.nilIface∧b=.nilIface
       · obtain⟨rfl,rfl⟩:=hn
         simp only[binK]
         cases (isConst x || isConst y)<;>simp[onV]
       · rw[binK_of hn hf]
         unfold onV
         split
         · rename_i h1 h2;cases h1;cases h2;exact absurd ⟨rfl,rfl⟩ hn
         · rename_i h1 h2;cases h1;cases h2;rfl
         · rename_i hno;exact absurd rfl (hno a b rfl)
section
variable {c:Bool}{k k':IntKind}{a b:Int}{K:Value→Prop}
theorem bin_add:binK E .add t c (.int k a) (.int k b) K=K (.int k (k.wrap (a+b))):=by simp[binK,abin]
theorem bin_sub:binK E .sub t c (.int k a) (.int k b) K=K (.int k (k.wrap (a-b))):=by simp[binK,abin]
theorem bin_mul:binK E .mul t c (.int k a) (.int k b) K=K (.int k (k.wrap (a*b))):=by simp[binK,abin]
theorem bin_quo:binK E .quo t c (.int k a) (.int k b) K=(b≠0∧K (.int k (k.wrap (a.tdiv b)))):=by by_cases hb:b=0<;>simp[binK,abin,onV,hb]
theorem bin_rem:binK E .rem t c (.int k a) (.int k b) K=(b≠0∧K (.int k (a.tmod b))):=by by_cases hb:b=0<;>simp[binK,abin,onV,hb]
theorem bin_and:binK E .and t c (.int k a) (.int k b) K=K (.int k (k.wrap (BitVec.ofInt k.bits a &&& BitVec.ofInt k.bits b).toNat)):=by simp[binK,abin]
theorem bin_or:binK E .or t c (.int k a) (.int k b) K=K (.int k (k.wrap (BitVec.ofInt k.bits a ||| BitVec.ofInt k.bits b).toNat)):=by simp[binK,abin]
theorem bin_shl:binK E .shl t c (.int k a) (.int k' b) K=(0≤b∧K (.int k (k.wrap (a*2 ^ min b.toNat k.bits)))):=by
 by_cases hb:b<0
 ·have:¬0≤b:=by omega
  simp[binK,abin,onV,hb,this]
 ·have:0≤b:=by omega
  simp[binK,abin,onV,hb,this]
theorem bin_shr:binK E .shr t c (.int k a) (.int k' b) K=(0≤b∧K (.int k (a.fdiv (2 ^ min b.toNat k.bits)))):=by
 by_cases hb:b<0
 ·have:¬0≤b:=by omega
  simp[binK,abin,onV,hb,this]
 ·have:0≤b:=by omega
  simp[binK,abin,onV,hb,this]
theorem bin_eql:binK E .eql t c (.int k a) (.int k b) K=brK (a=b) (K (.bool true)) (K (.bool false)):=by
 by_cases hp:a=b
 ·rw[show (a=b)=True from eq_true hp,brK_true];simp[binK,abin,hp]
 ·rw[show (a=b)=False from eq_false hp,brK_false];simp[binK,abin,show (a==b)=false by simpa using hp]
theorem bin_neq:binK E .neq t c (.int k a) (.int k b) K=brK (a=b) (K (.bool false)) (K (.bool true)):=by
 by_cases hp:a=b
 ·rw[show (a=b)=True from eq_true hp,brK_true];simp[binK,abin,hp]
 ·rw[show (a=b)=False from eq_false hp,brK_false];simp[binK,abin,show (a != b)=true by simpa using hp]
theorem bin_lss:binK E .lss t c (.int k a) (.int k b) K=brK (a<b) (K (.bool true)) (K (.bool false)):=by
 by_cases hp:a<b
 ·rw[show (a<b)=True from eq_true hp,brK_true];simp[binK,abin,hp]
 ·rw[show (a<b)=False from eq_false hp,brK_false];simp[binK,abin,hp]
theorem bin_leq:binK E .leq t c (.int k a) (.int k b) K=brK (a≤b) (K (.bool true)) (K (.bool false)):=by
 by_cases hp:a≤b
 ·rw[show (a≤b)=True from eq_true hp,brK_true];simp[binK,abin,hp]
 ·rw[show (a≤b)=False from eq_false hp,brK_false];simp[binK,abin,hp]
theorem bin_gtr:binK E .gtr t c (.int k a) (.int k b) K=brK (b<a) (K (.bool true)) (K (.bool false)):=by
 by_cases hp:b<a
 ·rw[show (b<a)=True from eq_true hp,brK_true];simp[binK,abin,hp]
 ·rw[show (b<a)=False from eq_false hp,brK_false];simp[binK,abin,hp]
theorem bin_geq:binK E .geq t c (.int k a) (.int k b) K=brK (b≤a) (K (.bool true)) (K (.bool false)):=by
 by_cases hp:b≤a
 ·rw[show (b≤a)=True from eq_true hp,brK_true];simp[binK,abin,hp]
 ·rw[show (b≤a)=False from eq_false hp,brK_false];simp[binK,abin,hp]
end
def isOne (E:Env) (t:TypeId):Bool:=match E.tab.get t with
 | some i=>match i.desc with|.struct _|.array _ _|.invalid=>false|_=>true
 | none=>false
def isMany (E:Env) (t:TypeId):Option Nat:=match E.tab.get t with
 | some i=>match i.desc with|.struct _|.array _ _=>some i.size|_=>none
 | none=>none
def cellAt (h:Heap) (a:Addr):Option Value:=match cellsAt h a 1 with|some [v]=>some v|_=>none
def ld1K (h:Heap) (x:Value) (K:Value→Prop) [Tok K]:Prop:=match x with|.pointer (some a)=>onV (cellAt h a) K|_=>False
def ldNK (h:Heap) (n:Nat) (x:Value) (K:Value→Prop) [Tok K]:Prop:=match x with|.pointer (some a)=>onV (cellsAt h a n) fun l=>K (.agg ⟨l⟩)|_=>False
theorem onV_cell {h:Heap}{a:Addr}{K:Value→Prop}:(∃ v,(match cellsAt h a 1 with|some [v]=>some v|_=>none)=some v∧K v)=∃ v,cellAt h a=some v∧K v:=rfl
theorem opW_load1 (ht:isOne E t=true):opW E (.load t x) fr h K=evK E fr x fun v=>ld1K h v fun u=>K u h:=by
 rw[opW_read rfl (by simp)]
 simp only[readOp,operOf,evK,onV,ld1K]
 cases ev E fr x with
 | none=>simp
 | some v =>
   simp only[loadAt]
   unfold isOne at ht
   cases hi:E.tab.get t with
   | none=>rw[hi]at ht;cases ht
   | some i =>
     rw[hi]at ht
     cases v with
     | pointer a =>
       cases a with
       | none=>simp
       | some a =>
         have e:∀ A:Prop,(∃ v,some (Value.pointer (some a))=some v∧match v with|.pointer (some a)=>∃ v,cellAt h a=some v∧K v h|_=>False)=∃ v,cellAt h a=some v∧K v h:=fun _=>by simp
         rw[e True]
         cases hd:i.desc<;>simp only[hd]at ht ⊢<;>first|(cases ht;done)|exact onV_cell (K:=fun v=>K v h)
     | _=>simp
theorem opW_loadN {n:Nat}(ht:isMany E t=some n):opW E (.load t x) fr h K=evK E fr x fun v=>ldNK h n v fun u=>K u h:=by
 rw[opW_read rfl (by simp)]
 simp only[readOp,operOf,evK,onV,ldNK]
 cases ev E fr x with
 | none=>simp
 | some v =>
   simp only[loadAt]
   unfold isMany at ht
   cases hi:E.tab.get t with
   | none=>rw[hi]at ht;cases ht
   | some i =>
     rw[hi]at ht
     cases v with
     | pointer a =>
       cases a with
       | none=>simp[onV]
       | some a =>
         have:∀ m,some m=some n→(∃ v,(cellsAt h a m).map (fun l=>Value.agg l.toArray)=some v∧K v h)=∃ v,cellsAt h a n=some v∧K (.agg v.toArray) h:=by
           intro m hm;cases hm;cases cellsAt h a n<;>simp
         cases hd:i.desc<;>simp only[hd]at ht ⊢<;>first|(cases ht;done)|(rw[this _ ht];simp)
     | _=>simp
theorem ld1_some {h:Heap}{a:Addr}{K:Value→Prop}:ld1K h (.pointer (some a)) K=onV (cellAt h a) K:=Eq.trans rfl rfl
theorem ldN_some {h:Heap}{n:Nat}{a:Addr}{K:Value→Prop}:ldNK h n (.pointer (some a)) K=onV (cellsAt h a n) fun l=>K (.agg ⟨l⟩):=Eq.trans rfl rfl
def fldOff (E:Env) (t:TypeId) (f:Nat):Option Nat:=match und E t with
 | some (.struct fields)=>match nth fields.toList f with
   | some fd=>match size E fd.type with
     | some sz=>cond (Nat.beq sz 0) none (some fd.offset)
     | none=>none
   | none=>none
 | _=>none
def fldAK (off:Nat) (x:Value) (K:Value→Prop) [Tok K]:Prop:=match x with|.pointer (some a)=>K (.pointer (some (a.add off)))|_=>False
theorem opW_fieldAddr {f n:Nat}(ht:fldOff E t f=some n):opW E (.fieldAddr t x f) fr h K=evK E fr x fun v=>fldAK n v fun u=>K u h:=by
 rw[opW_pure rfl (by simp)]
 simp only[pureOp,operOf,evK,onV,fldAK]
 cases ev E fr x with
 | none=>simp
 | some v =>
   simp only[afieldAddr]
   unfold fldOff at ht
   cases hu:und E t with
   | none=>rw[hu]at ht;cases ht
   | some d =>
     rw[hu]at ht
     cases d with
     | struct fields =>
       simp only at ht ⊢
       cases hf:nth fields.toList f with
       | none=>rw[hf]at ht;cases ht
       | some fd =>
         rw[hf]at ht
         simp only at ht ⊢
         cases hs:size E fd.type with
         | none=>rw[hs]at ht;cases ht
         | some sz =>
           rw[hs]at ht
           simp only at ht ⊢
           cases hz:Nat.beq sz 0 with
           | true=>rw[hz]at ht;cases ht
           | false =>
             rw[hz]at ht
             cases ht
             cases v with
             | pointer a=>cases a<;>simp[hf,hs,hz]
             | _=>simp
     | _=>simp at ht
theorem fldA_some {n:Nat}{a:Addr}{K:Value→Prop}:fldAK n (.pointer (some a)) K=K (.pointer (some (a.add n))):=Eq.trans rfl rfl
def sliceSz (E:Env) (t:TypeId):Option Nat:=match und E t with
 | some (.slice e)=>size E e
 | _=>none
def idxSK (sz:Nat) (x i:Value) (K:Value→Prop) [Tok K]:Prop:=match x,i with
 | .slice (some a) len _,.int _ i=>(0≤i∧i<(len:Int))∧K (.pointer (some (a.add (i.toNat*sz))))
 | _,_=>False
theorem opW_indexAddrS {n:Nat}(ht:sliceSz E t=some n):opW E (.indexAddr t x y) fr h K=evK E fr x fun v=>evK E fr y fun i=>idxSK n v i fun u=>K u h:=by
 rw[opW_pure rfl (by simp)]
 simp only[pureOp,operOf,evK,onV,idxSK]
 cases ev E fr x with
 | none=>simp
 | some v =>
   cases ev E fr y with
   | none=>simp
   | some i =>
     simp only[aindexAddr]
     unfold sliceSz at ht
     cases hu:und E t with
     | none=>rw[hu]at ht;cases ht
     | some d =>
       rw[hu]at ht
       cases d with
       | slice e =>
         simp only at ht ⊢
         cases v with
         | slice a len cap =>
           cases a with
           | none=>simp
           | some a =>
             cases i with
             | int k i =>
               simp only[ht]
               by_cases h0:0≤i
               · by_cases h1:i<(len:Int)<;>simp[h0,h1]
               · simp[h0]
             | _=>simp
         | _=>simp
       | _=>simp at ht
theorem idxS_some {sz len cap:Nat}{a:Addr}{k:IntKind}{i:Int}{K:Value→Prop}:idxSK sz (.slice (some a) len cap) (.int k i) K=((0≤i∧i<(len:Int))∧K (.pointer (some (a.add (i.toNat*sz))))):=Eq.trans rfl rfl
def evsK (E:Env) (fr:Fr) (xs:List Operand) (K:List Value→Prop) [Tok K]:Prop:=onV (mapOpt (ev E fr) xs) K
theorem evs_nil {K:List Value→Prop}:evsK E fr [] K=K []:=by simp[evsK,mapOpt]
theorem evs_cons {x:Operand}{xs:List Operand}{K:List Value→Prop}:evsK E fr (x::xs) K=evK E fr x fun v=>evsK E fr xs fun vs=>K (v::vs):=by
 simp only[evsK,evK,mapOpt,onV]
 cases ev E fr x with
 | none=>simp
 | some v=>cases mapOpt (ev E fr) xs<;>simp
theorem opW_callq {f:FuncId}{xs:List Operand}{ts:Array TypeId}(hq:E.qf f=true):opW E (.call ⟨.value (.func f),⟨xs⟩,ts⟩) fr h K=evsK E fr xs fun as=>onV (E.qc f as) fun v=>K v h:=by
 simp only[opW,isQ,hq,cond_true,opBy,kindOf,operOf,valOp,flOp,qcall,evs,pureOp,evsK,onV]
 cases mapOpt (ev E fr) xs with
 | none=>simp[onR]
 | some as =>
   simp only[Option.some.injEq,exists_eq_left']
   cases E.qc f as with
   | none=>simp[onR]
   | some v =>
     simp only[Option.map_some,onR,Option.some.injEq,Prod.mk.injEq,eq_iff_iff,exists_eq_left']
     exact⟨fun ⟨_,_,⟨rfl,rfl⟩,q⟩=>q,fun q=>⟨_,_,⟨rfl,rfl⟩,q⟩⟩
theorem opW_call {f:FuncId}{xs:List Operand}{ts:Array TypeId}(hq:E.qf f=false:=by rfl):opW E (.call ⟨.value (.func f),⟨xs⟩,ts⟩) fr h K=evsK E fr xs fun as=>Ret E (.func f) as h K:=by
 simp only[opW,isQ,hq,cond_false,target,evsK,ev,onV]
 cases mapOpt (ev E fr) xs<;>simp
def callVK (E:Env) (f:Value) (as:List Value) (h:Heap) (K:Value→Heap→Prop) [Tok K]:Prop:=match f with
 | .func (.func g) first captured=>@Ret E (.func g) (first.toList++as++captured.toList) h K Tok.mk
 | .func (.yield l) _ _=>@Ret E (.yield l) as h K Tok.mk
 | _=>False
theorem opW_callV {n:Nat}{xs:List Operand}{ts:Array TypeId}:opW E (.call ⟨.value (.tmp n),⟨xs⟩,ts⟩) fr h K=evsK E fr xs fun as=>getK fr n fun f=>callVK E f as h K:=by
 have e:∀ as,(getK fr n fun f=>callVK E f as h K)=∃ f,ev E fr (.tmp n)=some f∧callVK E f as h K:=fun as=>evK_tmp.symm
 simp only[evsK,onV,e]
 simp only[opW,isQ,cond_false,target]
 cases mapOpt (ev E fr) xs with
 | none=>simp
 | some as =>
   cases ev E fr (.tmp n) with
   | none=>simp
   | some f =>
     cases f with
     | func fn first cap=>cases fn<;>simp[callVK]
     | _=>simp[callVK]
theorem callV_some {g:FuncId}{first captured:List Value}{as:List Value}:callVK E (.func (.func g) ⟨first⟩ ⟨captured⟩) as h K=Ret E (.func g) (first++as++captured) h K:=Eq.trans rfl rfl
def lenK (x:Value) (K:Value→Prop) [Tok K]:Prop:=match x with
 | .slice _ n _=>K (.int .i64 n)
 | _=>False
def isSlice (E:Env) (t:TypeId):Bool:=match und E t with|some (.slice _)=>true|_=>false
theorem opW_lenS (ht:isSlice E t=true):opW E (.call ⟨.builtin .len,⟨[x]⟩,⟨[t]⟩⟩) fr h K=evK E fr x fun v=>lenK v fun u=>K u h:=by
 unfold isSlice at ht
 split at ht
 · rename_i e hu
   simp only[opW,opBy,valOp,flOp,qcall,operOf,kindOf,hu,pureOp,evs,mapOpt,evK,onR_map,onV,lenK]
   cases ev E fr x with
   | none=>simp
   | some v =>
     simp only[alen,hu]
     cases v<;>simp
 · cases ht
theorem lenS_some {a:Option Addr}{n c:Nat}{K:Value→Prop}:lenK (.slice a n c) K=K (.int .i64 n):=Eq.trans rfl rfl
end
theorem resK_one {t:Nat}{K:Value→Heap→Prop}:resK E [.tmp t] K .ret fr h=getK fr t fun v=>K v h:=by
 simp only[resK,mapOpt,resOf,getK,ev]
 cases fr.get t<;>simp[resVal]
theorem resK_two {t s:Nat}{K:Value→Heap→Prop}:resK E [.tmp t,.tmp s] K .ret fr h=getK fr t fun v=>getK fr s fun u=>K (.tuple #[v,u]) h:=by
 simp only[resK,mapOpt,resOf,getK,ev]
 cases fr.get t<;>cases fr.get s<;>simp[resVal]
theorem setAll_cons {v:Value}{l:List Value}{i:Nat}:setAll (v::l) i fr=setAll l (i+1) (fr.set i v):=Eq.trans rfl rfl
theorem setAll_nil {i:Nat}:setAll [] i fr=fr:=Eq.trans rfl rfl
theorem cw_loopI {a:GC}(I:Nat→Fr→Heap→Prop) (n:Nat) (h1:I n fr h) (hm:n<1000000)
   (hs:∀ n fr' h',I n fr' h'→(∀ t,a.wr t=false→fr'.get t=fr.get t)→a.wp E nt rd fr' h' (loopK (fun fr' h'=>∃ m,m<n∧I m fr' h') Q)) :
   (GC.loop a).wp E nt rd fr h Q:=by
 refine⟨n+1,by omega,?_⟩
 have key:∀ N n fr' h',n<N→I n fr' h'→(∀ t,a.wr t=false→fr'.get t=fr.get t)→loopN (a.wp E nt rd) Q N fr' h':=by
   intro N
   induction N with
   | zero=>intro n fr h hlt;omega
   | succ N ih =>
     intro n fr' h' hlt hi hk
     refine GC.wp_mono a (hs n fr' h' hi hk) fun ex fr2 h2 hk' q=>?_
     cases ex with
     | normal=>obtain⟨m,hm,hi⟩:=q;exact ih m fr2 h2 (by omega) hi fun t ht=>by rw[hk' t ht,hk t ht]
     | exit j=>exact q
     | ret=>exact q
 exact key _ n _ _ (by omega) h1 fun _ _=>rfl
end
theorem Ret.of_body' {E:Env}{f:FuncId}{fn:Func}{g:GC}{nt:Nat}{rs:List ResultVar}{args:List Value}{h:Heap}{K:Value→Heap→Prop}
  (hx:E.ext f args h=none) (hf:E.funs.get f=some fn) (hg:fn.body.bind (clean E nt)=some g) (hn:fn.ntmps=nt) (hrs:fn.results.toList=rs) (hnt:args.length≤nt)
  (w:g.wp E nt none (setAll args 0 .leaf) h (resK E rs K)):Ret E (.func f) args h K:=by
 obtain⟨c,hb,hc⟩:=Option.bind_eq_some_iff.1 hg
 exact Ret.of_body hx hf hb (by rw[hn,Nat.max_eq_left hnt];exact hc) (by rw[hn];exact Nat.max_eq_left hnt) hrs w
open Go.RowKit
def okV0 (B:Nat):Value→Bool
 | .bool _|.int _ _|.string _|.float _ _|.pointer none|.map none|.nilFunc|.nilIface=>true
 | .pointer (some a)=>a.spot.isNone&&Nat.blt a.block B
 | .slice none _ c=>Nat.blt c UNK
 | .slice (some a) _ c=>a.spot.isNone&&Nat.blt a.block B&&Nat.blt c UNK
 | .iface _ (.pointer (some a))=>a.spot.isNone&&Nat.blt a.block B
 | _=>false
def renB (B:Nat):Ren:=fun i=>if i<B then some (i,0) else none
theorem VR.ok0 {B:Nat}:∀ {v:Value},okV0 B v=true→VR (renB B) v v
 | .bool _,_=>.bool _
 | .int _ _,_=>.int _ _
 | .float _ _,_=>.float _ _
 | .string _,_=>.string _
 | .pointer none,_=>.nilptr
 | .map none,_=>.nilmap
 | .nilFunc,_=>.nilFunc
 | .nilIface,_=>.nilIface
 | .pointer (some ⟨b,o,s⟩),h=>by
   simp only[okV0,Bool.and_eq_true,blt_eq,decide_eq_true_eq,Option.isNone_iff_eq_none]at h
   obtain⟨rfl,h2⟩:=h
   exact .ptr (c:=0) _ (by simp[renB,h2])
 | .slice none _ c,h=>by
   simp only[okV0,blt_eq,decide_eq_true_eq]at h
   exact .nilslice _ _ h
 | .slice (some ⟨b,o,s⟩) _ c,h=>by
   simp only[okV0,Bool.and_eq_true,blt_eq,decide_eq_true_eq,Option.isNone_iff_eq_none]at h
   obtain⟨⟨rfl,h2⟩,h3⟩:=h
   exact .slice (c:=0) _ _ _ (by simp[renB,h2]) h3
 | .iface _ (.pointer (some ⟨b,o,s⟩)),h=>by
   simp only[okV0,Bool.and_eq_true,blt_eq,decide_eq_true_eq,Option.isNone_iff_eq_none]at h
   obtain⟨rfl,h2⟩:=h
   exact .iface _ _ _ (.ptr (c:=0) _ (by simp[renB,h2]))
def absV (B:Nat):Value→Option Value
 | .slice (some _) 0 0=>some (.slice (some ⟨0,0,none⟩) 0 UNK2)
 | v=>cond (okV0 B v) (some v) none
theorem absV_ok {B:Nat}{v u:Value}(h:absV B v=some u):VR (renB B) u v:=by
 unfold absV at h
 split at h
 ·cases h;exact .sliceE _ _ _
 ·cases hk:okV0 B v with
  | false=>rw[hk]at h;cases h
  | true=>rw[hk]at h;cases h;exact VR.ok0 hk
def roOf (B:Nat):Obj→Blk
 | .cells xs _ _=>.ro fun i=>(xs[i]?).bind (absV B)
 | _=>.dead
def heapOf (W:World):Heap:={ n:=W.heap.size,b:=T.ofList (W.heap.toList.map (roOf W.heap.size)) }
theorem heapOf_get (W:World) (i:Nat):(heapOf W).b.get i=(W.heap[i]?).map (roOf W.heap.size):=by
 simp[heapOf,T.get_ofList]
theorem heapOf_hr (P:Program) (W:World):HR P (renB W.heap.size) (heapOf W) W where
 dom i b c e:=by
   unfold renB at e
   by_cases h:i<W.heap.size
   · rw[if_pos h]at e;cases e;exact⟨h,h⟩
   · rw[if_neg h]at e;cases e
 blk i b c e:=by
   unfold renB at e
   by_cases h:i<W.heap.size
   · rw[if_pos h]at e;cases e
     refine⟨roOf W.heap.size W.heap[i],W.heap[i],by rw[heapOf_get];simp[h],by simp[h],?_⟩
     generalize W.heap[i]=o
     cases o with
     | cells xs el f =>
       refine .ro _ _ fun j v hv=>?_
       obtain⟨v0,h0,h1⟩:=Option.bind_eq_some_iff.1 hv
       exact⟨xs,el,f,v0,rfl,h0,absV_ok h1⟩
     | _=>exact .dead _
   · rw[if_neg h]at e;cases e
 inj i j b c d e e' hn:=by
   unfold renB at e e'
   by_cases h:i<W.heap.size
   · rw[if_pos h]at e;cases e
     by_cases h':j<W.heap.size
     · rw[if_pos h']at e';cases e';exact absurd rfl hn
     · rw[if_neg h']at e';cases e'
   · rw[if_neg h]at e;cases e
theorem heapOf_cell {W:World}{b off:Nat}{v u:Value}(hc:W.cell? ⟨b,off,none⟩=some v) (hv:absV W.heap.size v=some u):cellAt (heapOf W) ⟨b,off,none⟩=some u:=by
 unfold World.cell? at hc
 simp only at hc
 split at hc
 ·rename_i c el f hb
  simp only[Option.isSome_none,Bool.false_eq_true,if_false]at hc
  have hlt:b<W.heap.size:=(Array.getElem?_eq_some_iff.1 hb).1
  have hlt':Nat.blt b (heapOf W).n=true:=by simp[blt_eq,heapOf,hlt]
  simp only[cellAt,cellsAt,hlt',heapOf_get,hb,Option.map_some,roOf,roCells,hc,hv,cond_true,Option.bind_some]
  rfl
 ·cases hc
theorem heapOf_cells {W:World}{b:Nat}(l:List Value) (off:Nat) (hc:∀ (i:Nat) (u:Value),l[i]?=some u→∃ v,W.cell? ⟨b,off+i,none⟩=some v∧absV W.heap.size v=some u):cellsAt (heapOf W) ⟨b,off,none⟩ l.length=some l:=by
 cases l with
 | nil=>rfl
 | cons v0 l0 =>
   obtain⟨v1,h0,_⟩:=hc 0 v0 rfl
   unfold World.cell? at h0
   simp only at h0
   split at h0
   · rename_i c el f hb
     have hlt:b<W.heap.size:=(Array.getElem?_eq_some_iff.1 hb).1
     have hlt':Nat.blt b (heapOf W).n=true:=by simp[blt_eq,heapOf,hlt]
     have key:∀ (l:List Value) (off:Nat),(∀ (i:Nat) (u:Value),l[i]?=some u→∃ v,c[off+i]?=some v∧absV W.heap.size v=some u) →
         roCells (fun i=>(c[i]?).bind (absV W.heap.size)) off l.length=some l:=by
       intro l
       induction l with
       | nil=>intro off _;rfl
       | cons u l ih =>
         intro off hc
         obtain⟨v,h1,h2⟩:=hc 0 u rfl
         rw[Nat.add_zero]at h1
         simp only[List.length_cons,roCells,h1,h2,Option.bind_some]
         rw[ih (off+1) (fun i u' e=>by have:=hc (i+1) u' (by simpa using e);rwa [show off+1+i=off+(i+1) by omega])]
     have hcells:cellsAt (heapOf W) ⟨b,off,none⟩ (v0::l0).length=roCells (fun i=>(c[i]?).bind (absV W.heap.size)) off (v0::l0).length:=by
       unfold cellsAt
       simp only[hlt',heapOf_get,hb,Option.map_some,roOf,cond_true]
       rfl
     rw[hcells]
     refine key _ _ (fun i u e=>?_)
     obtain⟨v,h1,h2⟩:=hc i u e
     rw[cell_of hb]at h1
     exact⟨v,h1,h2⟩
   · cases h0
section
variable {P:Program}{E:Env}
theorem open_calls (hE:EnvOK P E) (hx:ExtOK P E) (hn:NamesOK P) {f:FuncId}{W:World}(hg:GR E (renB W.heap.size)) {us:List Value}{args:Array Value}(hargs:VRL (renB W.heap.size) us args.toList) (hext:E.ext f us (heapOf W)=none)
  (r:Ret E (.func f) us (heapOf W) fun v _=>v=.bool true):Calls P f args W fun e w'=>e=.returned (.bool true)∧Below W.heap.size W w':=by
 obtain⟨d,v,h',e,rfl⟩:=r
 refine(callF_calls hE hx hn hext e (heapOf_hr P W) hg hargs).mono fun e w' hh=>?_
 obtain⟨v',ρ',rfl,r,hs⟩:=hh
 cases r
 refine⟨rfl,hs.below fun i x e=>?_⟩
 rw[heapOf_get]
 unfold renB at e
 by_cases h:i<W.heap.size
 ·simp only[h,Array.getElem?_eq_getElem,Option.map_some]
  generalize W.heap[i]=o
  cases o with
  | cells xs el f=>exact .inr (.inl ⟨_,rfl⟩)
  | _=>exact .inl rfl
 ·rw[if_neg h]at e;cases e
theorem Stp.of_below {ρ:Ren}{h:Heap}{w w':World}(hr:HR P ρ h w) (hb:Below w.heap.size w w'):Stp P ρ h w ρ h w' where
 le:=Ren.le_refl _
 hr:={
  dom:=fun i b c e=>⟨(hr.dom i b c e).1,Nat.lt_of_lt_of_le (hr.dom i b c e).2 hb.size⟩
  blk:=fun i b c e=>by
   obtain⟨k,o,e1,e2,e3⟩:=hr.blk i b c e
   exact⟨k,o,e1,by rw[hb.block b (hr.dom i b c e).2];exact e2,e3⟩
  inj:=hr.inj }
 n:=Nat.le_refl _
 new i x e e0:=by rw[e]at e0;cases e0
 keep _ _ _:=rfl
 os:=hb.os
 tape:=hb.tape
 output:=hb.output
 size:=hb.size
 frame b hlt _:=hb.block b hlt
 img i b c e _:=⟨i,c,e,.inl rfl⟩
 stays _ _ _ _:=rfl
theorem Ret.extH {f:FuncId}{args:List Value}{h h':Heap}{K:Value→Heap→Prop}{v:Value}(hx:E.ext f args h=some (some (v,h'))) (k:K v h'):Ret E (.func f) args h K :=
 ⟨1,v,h',by rw[callF,hx],k⟩
theorem Ret.ext {f:FuncId}{args:List Value}{h:Heap}{K:Value→Heap→Prop}{v:Value}(hx:E.ext f args h=some (some (v,h))) (k:K v h):Ret E (.func f) args h K:=Ret.extH hx k
end
structure ExtB (B:Nat) (h h':Heap):Prop where
 n:h.n≤h'.n
 get:∀ i,i<B→h'.b.get i=h.b.get i
theorem ExtB.refl (B:Nat) (h:Heap):ExtB B h h:=⟨Nat.le_refl _,fun _ _=>rfl⟩
theorem ExtB.trans {B:Nat}{h h1 h2:Heap}(a:ExtB B h h1) (b:ExtB B h1 h2):ExtB B h h2:=⟨Nat.le_trans a.n b.n,fun i hi=>by rw[b.get i hi,a.get i hi]⟩
theorem ExtB.mono {B B':Nat}{h h':Heap}(a:ExtB B' h h') (hb:B≤B'):ExtB B h h':=⟨a.n,fun i hi=>a.get i (Nat.lt_of_lt_of_le hi hb)⟩
theorem ExtB.new {B:Nat}{h:Heap}(k:Blk) (hb:B≤h.n):ExtB B h (newBlk h k):=⟨by simp[newBlk],fun i hi=>by simp only[newBlk];exact T.get_set_ne _ _ (by omega)⟩
theorem ExtB.set {B:Nat}{h:Heap}{i:Nat}(k:Blk) (hb:B≤i):ExtB B h { h with b:=h.b.set i k }:=⟨Nat.le_refl _,fun j hj=>T.get_set_ne _ _ (by omega)⟩
theorem newBlk_n (h:Heap) (k:Blk):(newBlk h k).n=h.n+1:=rfl
theorem newBlk_same (h:Heap) (k:Blk):(newBlk h k).b.get h.n=some k:=by simp[newBlk,T.get_set]
theorem newBlk_old {h:Heap}{i:Nat}(k:Blk) (hi:i<h.n):(newBlk h k).b.get i=h.b.get i:=by simp only[newBlk];exact T.get_set_ne _ _ (by omega)
theorem cellsAt_ext {B b off n:Nat}{h h':Heap}{l:List Value}(e:ExtB B h h') (hb:b<B) (hc:cellsAt h ⟨b,off,none⟩ n=some l):cellsAt h' ⟨b,off,none⟩ n=some l:=by
 unfold cellsAt at hc ⊢
 cases hn:Nat.beq n 0 with
 | true=>rw[hn]at hc;exact hc
 | false =>
   rw[hn]at hc
   simp only[cond_false]at hc ⊢
   rw[e.get b hb]
   by_cases hlt:b<h.n
   · have:b<h'.n:=Nat.lt_of_lt_of_le hlt e.n
     simp only[blt_eq,hlt,this,decide_true,cond_true]at hc ⊢
     exact hc
   · simp[blt_eq,hlt]at hc
theorem cellAt_ext {B b off:Nat}{h h':Heap}{v:Value}(e:ExtB B h h') (hb:b<B) (hc:cellAt h ⟨b,off,none⟩=some v):cellAt h' ⟨b,off,none⟩=some v:=by
 unfold cellAt at hc ⊢
 cases hl:cellsAt h ⟨b,off,none⟩ 1 with
 | none=>rw[hl]at hc;cases hc
 | some l=>rw[hl]at hc;rw[cellsAt_ext e hb hl];exact hc
theorem cellsAt_blk {h:Heap}{i:Nat}{cs:List Value}{e:TypeId}{x:Bool}(hi:i<h.n) (hb:h.b.get i=some (.cells cs e x)) {off n:Nat}{l:List Value}(hl:(cs.drop off).take n=l) (hn:l.length=n) :
   cellsAt h ⟨i,off,none⟩ n=some l:=by
 have tk:∀ (n:Nat) (c:List Value),n≤c.length→takeN n c=some (c.take n):=by
   intro n
   induction n with
   | zero=>intro c _;rfl
   | succ n ih =>
     intro c hc
     cases c with
     | nil=>simp at hc
     | cons a c=>simp only[takeN,ih c (by simpa using hc),Option.map_some,List.take_succ_cons]
 unfold cellsAt
 rw[cond_beq]
 by_cases h0:n=0
 · subst h0;rw[if_pos rfl];simp at hl;rw[← hl]
 · rw[if_neg h0]
   simp only[blt_eq,hi,decide_true,cond_true,hb,dropN_eq]
   rw[tk _ _ (by rw[← hl]at hn;simp at hn;simp;omega),hl]
theorem cellAt_blk {h:Heap}{i:Nat}{cs:List Value}{e:TypeId}{x:Bool}(hi:i<h.n) (hb:h.b.get i=some (.cells cs e x)) {off:Nat}{v:Value}(hv:cs[off]?=some v):cellAt h ⟨i,off,none⟩=some v:=by
 unfold cellAt
 have hlt:=(List.getElem?_eq_some_iff.1 hv).1
 rw[cellsAt_blk (n:=1) hi hb (l:=[v]) (by
  rw[List.drop_eq_getElem_cons hlt]
  simp only[List.take_succ_cons,List.take_zero]
  rw[(List.getElem?_eq_some_iff.1 hv).2]) rfl]
theorem cellAt_new {h:Heap}{cs:List Value}{e:TypeId}{x:Bool}{off:Nat}{v:Value}(hv:cs[off]?=some v):cellAt (newBlk h (.cells cs e x)) ⟨h.n,off,none⟩=some v :=
 cellAt_blk (by simp[newBlk]) (newBlk_same _ _) hv
theorem cellAt_of {h:Heap}{b off n:Nat}{l:List Value}(hc:cellsAt h ⟨b,off,none⟩ n=some l) {j:Nat}{v:Value}(hj:l[j]?=some v):cellAt h ⟨b,off+j,none⟩=some v:=by
 have hjl:=(List.getElem?_eq_some_iff.1 hj).1
 unfold cellsAt at hc
 rw[cond_beq]at hc
 by_cases h0:n=0
 · rw[if_pos h0]at hc;cases hc;simp at hj
 · rw[if_neg h0]at hc
   simp only at hc
   unfold cellAt cellsAt
   simp only[show Nat.beq 1 0=false from rfl,cond_false]
   cases hlt:Nat.blt b h.n with
   | false=>rw[hlt]at hc;cases hc
   | true =>
     rw[hlt]at hc
     simp only[cond_true]at hc ⊢
     cases hk:h.b.get b with
     | none=>rw[hk]at hc;cases hc
     | some k =>
       rw[hk]at hc
       cases k with
       | cells cs e x =>
         simp only[dropN_eq]at hc ⊢
         obtain⟨h1,rfl⟩:=takeN_eq _ _ _ hc
         rw[List.getElem?_take_of_lt (by simp at hjl;omega),List.getElem?_drop]at hj
         have hlt:=(List.getElem?_eq_some_iff.1 hj).1
         rw[List.drop_eq_getElem_cons hlt]
         simp only[takeN,Option.map_some]
         rw[(List.getElem?_eq_some_iff.1 hj).2]
       | ro g =>
         obtain⟨i1,i2⟩:=roCells_get _ _ _ hc
         have:=i2 j v hj
         simp only[roCells,this]
       | _=>cases hc
def RowAt (B:Nat) (h:Heap) (a:Option Addr) (sz:Nat) (rows:List (List Value)):Prop :=
 ∀ i (hi:i<rows.length),∃ b off,a=some ⟨b,off,none⟩∧b<B∧cellsAt h ⟨b,off+i*sz,none⟩ sz=some rows[i]
theorem RowAt.ext {B:Nat}{h h':Heap}{a:Option Addr}{sz:Nat}{rows:List (List Value)}(r:RowAt B h a sz rows) (e:ExtB B h h'):RowAt B h' a sz rows:=fun i hi=>by
 obtain⟨b,off,e1,e2,e3⟩:=r i hi
 exact⟨b,off,e1,e2,cellsAt_ext e e2 e3⟩
theorem RowAt.mono {B B':Nat}{h:Heap}{a:Option Addr}{sz:Nat}{rows:List (List Value)}(r:RowAt B h a sz rows) (hb:B≤B'):RowAt B' h a sz rows:=fun i hi=>by
 obtain⟨b,off,e1,e2,e3⟩:=r i hi
 exact⟨b,off,e1,Nat.lt_of_lt_of_le e2 hb,e3⟩
inductive OwnS (B:Nat) (h:Heap) (e:TypeId):Value→Nat→List Value→Prop
 | nil:OwnS B h e (.slice none 0 0) 0 []
 | emp (i:Nat) (hi:i<h.n):OwnS B h e (.slice (some ⟨i,0,none⟩) 0 0) 0 []
 | row (i n:Nat) (cs:List Value) (hB:B≤i) (hi:i<h.n) (hb:h.b.get i=some (.cells cs e false)):OwnS B h e (.slice (some ⟨i,0,none⟩) n UNK) n cs
theorem OwnS.ext {B B':Nat}{h h':Heap}{e:TypeId}{v:Value}{n:Nat}{cs:List Value}(o:OwnS B h e v n cs) (x:ExtB B' h h') (hB:h.n≤B'):OwnS B h' e v n cs:=by
 cases o with
 | nil=>exact .nil
 | emp i hi=>exact .emp i (Nat.lt_of_lt_of_le hi x.n)
 | row i n cs h1 h2 h3=>exact .row i n cs h1 (Nat.lt_of_lt_of_le h2 x.n) (by rw[x.get i (by omega)];exact h3)
theorem OwnS.new {B:Nat}{h:Heap}{e:TypeId}{v:Value}{n:Nat}{cs:List Value}(o:OwnS B h e v n cs) (k:Blk):OwnS B (newBlk h k) e v n cs:=o.ext (ExtB.new (B:=h.n) k (Nat.le_refl _)) (Nat.le_refl _)
section
variable {E:Env}{nt:Nat}{rd:Option Nat}{fr:Fr}{h:Heap}{K:Value→Heap→Prop}{x y z:Operand}{t t':TypeId}
theorem opW_alloc {v:Value}{l:List Value}(hz:zero E t=some v) (hl:v.cells.toList=l) (ho:l.all oneCell=true):opW E (.alloc t) fr h K=K (.pointer (some ⟨h.n,0,none⟩)) (newBlk h (.cells l t true)):=by
 subst hl
 rw[opW_alloc' rfl (by simp)]
 simp[allocOp,operOf,hz,varBlk,ho,onV]
def boxK (t:TypeId) (v:Value) (h:Heap) (K:Value→Heap→Prop) [Tok K]:Prop:=v.cells.toList.all oneCell=true∧K (.pointer (some ⟨h.n,0,none⟩)) (newBlk h (.cells v.cells.toList t true))
theorem opW_box:opW E (.box t x) fr h K=evK E fr x fun v=>boxK t v h K:=by
 rw[opW_alloc' rfl (by simp)]
 simp only[allocOp,operOf,evK,onV,boxK]
 cases ev E fr x with
 | none=>simp
 | some v =>
   simp only[varBlk,Option.some.injEq,exists_eq_left']
   generalize v.cells.toList=l
   generalize hc:l.all oneCell=b
   cases b<;>simp
theorem box_one {v:Value}(hv:v.cells=#[v]) (ho:oneCell v=true):boxK t v h K=K (.pointer (some ⟨h.n,0,none⟩)) (newBlk h (.cells [v] t true)):=by
 unfold boxK;rw[hv];simp[ho]
theorem box_slice {a:Option Addr}{n c:Nat}:boxK t (.slice a n c) h K=K (.pointer (some ⟨h.n,0,none⟩)) (newBlk h (.cells [.slice a n c] t true)):=box_one rfl rfl
theorem box_agg {l:List Value}:boxK t (.agg ⟨l⟩) h K=(l.all oneCell=true∧K (.pointer (some ⟨h.n,0,none⟩)) (newBlk h (.cells l t true))):=rfl
def stK (n:Nat) (p v:Value) (h:Heap) (K:Value→Heap→Prop) [Tok K]:Prop :=
 match p with
 | .pointer (some a)=>(v.cells.toList.length=n∧v.cells.toList.all oneCell=true)∧onV (writeCells h a v.cells.toList) fun h'=>K undef h'
 | _=>False
theorem opW_store {n:Nat}(hn:size E t=some n):opW E (.store t x y) fr h K=evK E fr x fun p=>evK E fr y fun v=>stK n p v h K:=by
 rw[opW_act rfl (by simp)]
 simp only[actOp,operOf,evK,onV,stK]
 cases ev E fr x with
 | none=>simp[onR]
 | some p =>
   cases ev E fr y with
   | none=>simp[onR]
   | some v =>
     simp only[storeAt,hn]
     cases p with
     | pointer a =>
       cases a with
       | none=>simp[onR]
       | some a =>
         simp only[Option.some.injEq,exists_eq_left']
         generalize v.cells.toList=l
         generalize h2:l.all oneCell=b
         cases hb:Nat.beq l.length n with
         | true =>
           have h1:l.length=n:=Nat.eq_of_beq_eq_true hb
           cases b with
           | true =>
             simp only[Bool.and_self,cond_true,h1,true_and,and_true]
             cases writeCells h a l with
             | none=>simp[onR]
             | some h'=>simp only[Option.map_some,onR_some];simp
           | false=>simp[onR]
         | false =>
           have h1:¬l.length=n:=Nat.ne_of_beq_eq_false hb
           simp[onR,h1]
     | _=>simp[onR]
theorem st_new {n:Nat}{cs l:List Value}{e:TypeId}{b:Bool}(h1:l.length=n) (h2:cs.length=n) (h3:l.all oneCell=true) (hn:n≠0) :
   stK n (.pointer (some ⟨h.n,0,none⟩)) (.agg ⟨l⟩) (newBlk h (.cells cs e b)) K=K undef (newBlk h (.cells l e b)):=by
 have ov:∀ (l cs:List Value),l.length=cs.length→over cs 0 l=some l:=by
   intro l
   induction l with
   | nil=>intro cs hc;cases cs<;>simp at hc;rfl
   | cons a l ih =>
     intro cs hc
     cases cs with
     | nil=>simp at hc
     | cons c cs=>simp only[over,Nat.beq_refl,cond_true,ih cs (by simpa using hc),Option.map_some]
 have hw:writeCells (newBlk h (.cells cs e b)) ⟨h.n,0,none⟩ l=some (newBlk h (.cells l e b)):=by
   unfold writeCells
   cases l with
   | nil=>simp at h1;omega
   | cons a l =>
     simp only[newBlk_same,ov (a::l) cs (by omega),Option.map_some]
     simp[newBlk,T.set_set]
 simp only[stK,Value.cells]
 rw[hw]
 simp[h1,h3]
theorem writeCells_blk {i off:Nat}{cs cs' l:List Value}{e:TypeId}{b:Bool}(hb:h.b.get i=some (.cells cs e b)) (ho:over cs off l=some cs') (hl:l≠[]):writeCells h ⟨i,off,none⟩ l=some { h with b:=h.b.set i (.cells cs' e b) }:=by
 unfold writeCells
 cases l with
 | nil=>exact absurd rfl hl
 | cons a l=>simp only[hb,ho,Option.map_some]
theorem beq_ne {a b:Nat}(hn:a≠b):Nat.beq a b=false:=by
 cases h:Nat.beq a b with
 | true=>exact absurd (Nat.eq_of_beq_eq_true h) hn
 | false=>rfl
def evpK (E:Env) (fr:Fr) (ps:List (Nat×Operand)) (K:List (Nat×Value)→Prop) [Tok K]:Prop:=onV (mapOpt (fun (p:Nat×Operand)=>(ev E fr p.2).map (p.1,·)) ps) K
theorem evp_nil {K:List (Nat×Value)→Prop}:evpK E fr [] K=K []:=by simp[evpK,mapOpt]
theorem evp_cons {i:Nat}{x:Operand}{ps:List (Nat×Operand)}{K:List (Nat×Value)→Prop}:evpK E fr ((i,x)::ps) K=evK E fr x fun v=>evpK E fr ps fun vs=>K ((i,v)::vs):=by
 simp only[evpK,evK,mapOpt,onV]
 cases ev E fr x with
 | none=>simp
 | some v=>cases mapOpt (fun (p:Nat×Operand)=>(ev E fr p.2).map (p.1,·)) ps<;>simp
def elemOf (E:Env) (t:TypeId):Option (TypeId×Nat×List Value):=match und E t with
 | some (.slice elem)=>match E.tab.get elem with
   | some i=>match i.zero with
     | some z=>cond (Nat.beq z.cells.toList.length i.size&&!Nat.beq i.size 0&&Nat.ble i.bytes 10000) (some (elem,i.size,z.cells.toList)) none
     | none=>none
   | none=>none
 | _=>none
theorem elemOf_some {e:TypeId}{sz:Nat}{zs:List Value}(hx:elemOf E t=some (e,sz,zs)):∃ i z,und E t=some (.slice e)∧E.tab.get e=some i∧i.zero=some z∧i.size=sz∧z.cells.toList=zs∧zs.length=sz∧sz≠0∧i.bytes≤10000:=by
 unfold elemOf at hx
 split at hx
 · rename_i elem hu
   split at hx
   · rename_i i hi
     split at hx
     · rename_i z hz
       cases hc:(Nat.beq z.cells.toList.length i.size&&!Nat.beq i.size 0&&Nat.ble i.bytes 10000) with
       | false=>rw[hc]at hx;cases hx
       | true =>
         rw[hc]at hx
         cases hx
         simp only[Bool.and_eq_true,Bool.not_eq_true']at hc
         exact⟨i,z,hu,hi,hz,rfl,rfl,Nat.eq_of_beq_eq_true hc.1.1,Nat.ne_of_beq_eq_false hc.1.2,Nat.le_of_ble_eq_true hc.2⟩
     · cases hx
   · cases hx
 · cases hx
def bsK (e:TypeId) (sz:Nat) (zs:List Value) (len:Nat) (ps:List (Nat×Value)) (h:Heap) (K:Value→Heap→Prop) [Tok K]:Prop :=
 onV (fillL (fun k=>some (k*sz,sz)) (rep len zs) ps) fun l=>K (.slice (some ⟨h.n,0,none⟩) len len) (newBlk h (.cells l e true))
theorem opW_buildSlice {e:TypeId}{sz len:Nat}{zs:List Value}{ps:List (Nat×Operand)}(hx:elemOf E t=some (e,sz,zs)) (hl:len*sz≤1000000) :
   opW E (.buildSlice t len ⟨ps⟩) fr h K=evpK E fr ps fun l=>bsK e sz zs len l h K:=by
 obtain⟨i,z,h1,h2,h3,h4,h5,h6,h7,h8⟩:=elemOf_some hx
 subst h4 h5
 rw[opW_alloc' rfl (by simp)]
 simp only[allocOp,operOf,evp,evpK,onV,bsK]
 cases mapOpt (fun (p:Nat×Operand)=>(ev E fr p.2).map (p.1,·)) ps with
 | none=>simp
 | some l =>
   have hc:(Nat.ble (len*i.size) 1000000&&Nat.beq z.cells.toList.length i.size&&!Nat.beq i.size 0)=true:=by
     simp only[Bool.and_eq_true,Bool.not_eq_true']
     exact⟨⟨Nat.ble_eq_true_of_le hl,by rw[h6];exact Nat.beq_refl _⟩,beq_ne h7⟩
   simp only[abuildSlice,h1,h2,h3,hc,cond_true,Option.some.injEq,exists_eq_left']
   cases fillL (fun k=>some (k*i.size,i.size)) (rep len z.cells.toList) l<;>simp
theorem fillL_nil {f:Nat→Option (Nat×Nat)}{cs:List Value}:fillL f cs []=some cs:=rfl
theorem bs_one {e:TypeId}{sz:Nat}{zs l:List Value}{v:Value}(hv:v.cells.toList=l) (hl:l.length=sz) (hz:zs.length=sz) (h0:sz≠0):bsK e sz zs 1 [(0,v)] h K=K (.slice (some ⟨h.n,0,none⟩) 1 1) (newBlk h (.cells l e true)):=by
 have ov:∀ (l cs:List Value),l.length=cs.length→over cs 0 l=some l:=by
   intro l
   induction l with
   | nil=>intro cs hc;cases cs<;>simp at hc;rfl
   | cons a l ih =>
     intro cs hc
     cases cs with
     | nil=>simp at hc
     | cons c cs=>simp only[over,Nat.beq_refl,cond_true,ih cs (by simpa using hc),Option.map_some]
 subst hv
 have hb:Nat.blt 0 sz=true:=by rw[blt_eq];simp;omega
 have hb2:Nat.beq v.cells.toList.length sz=true:=by rw[hl];exact Nat.beq_refl _
 have:fillL (fun k=>some (k*sz,sz)) (rep 1 zs) [(0,v)]=some v.cells.toList:=by
   simp only[fillL,rep,List.append_nil,Nat.zero_mul,hb,hb2,cond_true,ov v.cells.toList zs (by omega)]
 unfold bsK
 rw[this,onV_some']
def appK (e:TypeId) (sz:Nat) (s y:Value) (h:Heap) (K:Value→Heap→Prop) [Tok K]:Prop :=
 match s,lenOf y with
 | .slice base sl sc,some n=>((sl+n≤1000000∧(sl≤sc∨n≠0)) ∧
   ((n=0→K (.slice base sl sc) h)∧(n≠0→onV (firstCells h sz n y) fun new=>new.all oneCell=true∧onR (appendRow h e sz base sl sc n new) K)))
 | _,_=>False
def seqT (E:Env) (t:TypeId):Bool:=((und E t).map isSeq)==some true
theorem opW_append {e:TypeId}{sz:Nat}{zs:List Value}(hx:elemOf E t=some (e,sz,zs)) (hs:seqT E t'=true) :
   opW E (.call ⟨.builtin .append,⟨[x,y]⟩,⟨[t,t']⟩⟩) fr h K=evK E fr x fun s=>evK E fr y fun v=>appK e sz s v h K:=by
 obtain⟨i,z,h1,h2,h3,h4,h5,h6,h7,h8⟩:=elemOf_some hx
 subst h4 h5
 have hs':(und E t').map isSeq=some true:=by simpa[seqT]using hs
 simp only[opW,opBy,valOp,flOp,qcall,operOf,kindOf,actOp,evs,mapOpt,evK,onV,appK]
 cases ev E fr x with
 | none=>simp[onR]
 | some s =>
   cases ev E fr y with
   | none=>simp[onR]
   | some v =>
     simp only[Option.some.injEq,exists_eq_left',aappend]
     cases s with
     | slice base sl sc =>
       simp only[h1,h2,hs']
       cases hlen:lenOf v with
       | none=>simp[onR]
       | some n =>
         simp only
         rw[h3]
         simp only
         have e1:Nat.beq z.cells.toList.length i.size=true:=by rw[h6];exact Nat.beq_refl _
         have e2:Nat.beq i.size 0=false:=beq_ne h7
         have e3:Nat.ble i.bytes 10000=true:=Nat.ble_eq_true_of_le h8
         rw[e1,e2,e3]
         simp only[Bool.not_false,Bool.true_and]
         by_cases c1:sl+n≤1000000
         · by_cases c2:sl≤sc∨n≠0
           · have f1:Nat.ble (sl+n) 1000000=true:=Nat.ble_eq_true_of_le c1
             have f2:(Nat.ble sl sc || !Nat.beq n 0)=true:=by
               rcases c2 with c2|c2
               · rw[Nat.ble_eq_true_of_le c2];rfl
               · rw[beq_ne c2];simp
             rw[f1,f2]
             simp only[Bool.and_self,cond_true,c1,c2,true_and]
             by_cases hn:n=0
             · subst hn
               simp[onR_some]
             · have f3:Nat.beq n 0=false:=beq_ne hn
               rw[f3]
               simp only[cond_false]
               cases firstCells h i.size n v with
               | none=>simp[onR,hn]
               | some new =>
                 simp only[Option.some.injEq,exists_eq_left']
                 generalize new.all oneCell=b
                 cases b<;>simp[onR_none,hn]
           · have f2:(Nat.ble sl sc || !Nat.beq n 0)=false:=by
               have a1:¬sl≤sc:=fun a=>c2 (.inl a)
               have a2:n=0:=by
                 by_cases hn:n=0
                 · exact hn
                 · exact absurd (.inr hn) c2
               subst a2
               cases hb:Nat.ble sl sc with
               | true=>exact absurd (Nat.le_of_ble_eq_true hb) a1
               | false=>rfl
             rw[f2]
             simp[onR_none,c2]
         · have f1:Nat.ble (sl+n) 1000000=false:=by
             cases hb:Nat.ble (sl+n) 1000000 with
             | true=>exact absurd (Nat.le_of_ble_eq_true hb) c1
             | false=>rfl
           rw[f1]
           simp[onR_none,c1]
     | _=>simp[onR]
theorem app_own {B:Nat}{e:TypeId}{sz n m:Nat}{s y:Value}{cs new:List Value}(o:OwnS B h e s n cs) (hB:B≤h.n) (hlen:cs.length=n*sz) (hy:lenOf y=some m) (hm:m≠0) (hsz:n+m≤1000000)
   (hnew:firstCells h sz m y=some new) (hnl:new.length=m*sz) (hone:new.all oneCell=true) (hpos:sz≠0)
   (k:∀ v' h',OwnS B h' e v' (n+m) (cs++new)→ExtB B h h'→h'.n=h.n+1→K v' h'):appK e sz s y h K:=by
 have pos:0<m*sz:=Nat.mul_pos (by omega) (by omega)
 cases o with
 | nil =>
   simp only[appK,hy]
   refine⟨⟨by omega,.inr hm⟩,fun h0=>absurd h0 hm,fun _=>?_⟩
   rw[hnew,onV_some']
   refine⟨hone,?_⟩
   have:appendRow h e sz none 0 0 m new=some (.slice (some ⟨h.n,0,none⟩) m UNK,newBlk h (.cells ([]++new) e false)):=by
     unfold appendRow
     have f1:Nat.beq 0 UNK2=false:=rfl
     have f2:Nat.beq 0 UNK=false:=rfl
     have f3:Nat.ble m 0=false:=by
       cases hb:Nat.ble m 0 with
       | true=>have:=Nat.le_of_ble_eq_true hb;omega
       | false=>rfl
     simp only[f1,f2,cond_false,firstCells,Nat.beq_refl,cond_true,Nat.zero_add,f3]
   rw[this,onR_some]
   refine k _ _ ?_ (ExtB.new _ hB) rfl
   rw[Nat.zero_add]
   exact .row h.n m _ hB (by simp[newBlk]) (newBlk_same _ _)
 | emp i0 hi0 =>
   simp only[appK,hy]
   refine⟨⟨by omega,.inr hm⟩,fun h0=>absurd h0 hm,fun _=>?_⟩
   rw[hnew,onV_some']
   refine⟨hone,?_⟩
   have:appendRow h e sz (some ⟨i0,0,none⟩) 0 0 m new=some (.slice (some ⟨h.n,0,none⟩) m UNK,newBlk h (.cells ([]++new) e false)):=by
     unfold appendRow
     have f1:Nat.beq 0 UNK2=false:=rfl
     have f2:Nat.beq 0 UNK=false:=rfl
     have f3:Nat.ble m 0=false:=by
       cases hb:Nat.ble m 0 with
       | true=>have:=Nat.le_of_ble_eq_true hb;omega
       | false=>rfl
     simp only[f1,f2,cond_false,firstCells,cellsAt,Nat.zero_mul,Nat.beq_refl,cond_true,Nat.zero_add,f3]
   rw[this,onR_some]
   refine k _ _ ?_ (ExtB.new _ hB) rfl
   rw[Nat.zero_add]
   exact .row h.n m _ hB (by simp[newBlk]) (newBlk_same _ _)
 | row i n cs h1 h2 h3 =>
   simp only[appK,hy]
   refine⟨⟨by omega,.inr hm⟩,fun h0=>absurd h0 hm,fun _=>?_⟩
   rw[hnew,onV_some']
   refine⟨hone,?_⟩
   have:appendRow h e sz (some ⟨i,0,none⟩) n UNK m new=some (.slice (some ⟨h.n,0,none⟩) (n+m) UNK,newBlk { h with b:=h.b.set i .dead } (.cells (cs++new) e false)):=by
     unfold appendRow
     have f1:Nat.beq UNK UNK2=false:=rfl
     have f2:Nat.beq UNK UNK=true:=Nat.beq_refl _
     have f3:Nat.ble ((n+m)*sz) cs.length=false:=by
       cases hb:Nat.ble ((n+m)*sz) cs.length with
       | true =>
         have:=Nat.le_of_ble_eq_true hb
         rw[hlen,Nat.add_mul]at this
         omega
       | false=>rfl
     have f4:Nat.beq (n*sz) cs.length=true:=by rw[hlen];exact Nat.beq_refl _
     simp only[f1,f2,h3,cond_false,cond_true,Nat.beq_refl,f3,f4]
   rw[this,onR_some]
   refine k _ _ ?_ ?_ rfl
   · exact .row h.n (n+m) _ hB (by simp[newBlk]) (by simp[newBlk,T.get_set])
   · refine⟨by simp[newBlk],fun j hj=>?_⟩
     simp only[newBlk]
     rw[T.get_set_ne _ _ (by omega),T.get_set_ne _ _ (by omega)]
end
section
variable {E:Env}{fr:Fr}{h:Heap}{K:Value→Heap→Prop}{x y:Operand}{t:TypeId}
theorem evK_global {g:Nat}{K:Value→Prop}(hg:Nat.blt g E.ng=true):evK E fr (.global g) K=K (.pointer (some ⟨g,0,none⟩)):=by simp[evK,ev,hg]
def arrSz (E:Env) (t:TypeId):Option (Nat×Nat):=match und E t with
 | some (.array n e)=>(size E e).map fun s=>(n,s)
 | _=>none
def idxAK (n sz:Nat) (x i:Value) (K:Value→Prop) [Tok K]:Prop:=match x,i with
 | .pointer (some a),.int _ i=>(0≤i∧i<(n:Int))∧K (.pointer (some (a.add (i.toNat*sz))))
 | _,_=>False
theorem opW_indexAddrA {n sz:Nat}(ht:arrSz E t=some (n,sz)):opW E (.indexAddr t x y) fr h K=evK E fr x fun v=>evK E fr y fun i=>idxAK n sz v i fun u=>K u h:=by
 rw[opW_pure rfl (by simp)]
 simp only[pureOp,operOf,evK,onV,idxAK]
 cases ev E fr x with
 | none=>simp
 | some v =>
   cases ev E fr y with
   | none=>simp
   | some i =>
     simp only[aindexAddr]
     unfold arrSz at ht
     cases hu:und E t with
     | none=>rw[hu]at ht;cases ht
     | some d =>
       rw[hu]at ht
       cases d with
       | array m e =>
         simp only[Option.map_eq_some_iff,Prod.mk.injEq]at ht
         obtain⟨s,hs,rfl,rfl⟩:=ht
         cases v with
         | pointer a =>
           cases a with
           | none=>simp
           | some a =>
             cases i with
             | int k i =>
               simp only[hs]
               by_cases h0:0≤i
               · by_cases h1:i<(m:Int)<;>simp[h0,h1]
               · simp[h0]
             | _=>simp
         | _=>simp
       | _=>simp at ht
theorem idxA_some {n sz:Nat}{a:Addr}{k:IntKind}{i:Int}{K:Value→Prop}:idxAK n sz (.pointer (some a)) (.int k i) K=((0≤i∧i<(n:Int))∧K (.pointer (some (a.add (i.toNat*sz))))):=Eq.trans rfl rfl
theorem eqStr_dec (a b:ByteArray):eqStr a b=decide (a=b):=by
 rw[Bool.eq_iff_iff,decide_eq_true_eq]
 simp only[eqStr,beq_iff_eq]
 constructor
 · intro h
   have:∀ (x y:List UInt8),x.map (·.toNat)=y.map (·.toNat)→x=y:=by
     intro x
     induction x with
     | nil=>intro y h;cases y<;>simp at h;rfl
     | cons c x ih =>
       intro y h
       cases y with
       | nil=>simp at h
       | cons d y=>simp only[List.map_cons,List.cons.injEq]at h;rw[ih y h.2,UInt8.toNat_inj.1 h.1]
   have:=this _ _ h
   cases a;cases b
   simp only at this
   congr 1
   exact Array.toList_inj.1 this
 · intro h;rw[h]
section
variable {c:Bool}{a b:ByteArray}{K:Value→Prop}
theorem bin_eqlS:binK E .eql t c (.string a) (.string b) K=brK (a=b) (K (.bool true)) (K (.bool false)):=by
 by_cases hp:a=b
 ·rw[show (a=b)=True from eq_true hp,brK_true];simp[binK,abin,eqStr_dec,hp]
 ·rw[show (a=b)=False from eq_false hp,brK_false];simp[binK,abin,eqStr_dec,hp]
theorem bin_neqS:binK E .neq t c (.string a) (.string b) K=brK (a=b) (K (.bool false)) (K (.bool true)):=by
 by_cases hp:a=b
 ·rw[show (a=b)=True from eq_true hp,brK_true];simp[binK,abin,eqStr_dec,hp]
 ·rw[show (a=b)=False from eq_false hp,brK_false];simp[binK,abin,eqStr_dec,hp]
end
theorem bin_neqA {c:Bool}{xs ys:List Value}{K:Value→Prop}{b:Bool}(hp:plainKey E 20 t=true) (he:aeq E 100 t (.agg ⟨xs⟩) (.agg ⟨ys⟩)=some b):binK E .neq t c (.agg ⟨xs⟩) (.agg ⟨ys⟩) K=K (.bool (!b)):=by
 simp[binK,abin,hp,he]
theorem bin_eqlA {c:Bool}{xs ys:List Value}{K:Value→Prop}{b:Bool}(hp:plainKey E 20 t=true) (he:aeq E 100 t (.agg ⟨xs⟩) (.agg ⟨ys⟩)=some b):binK E .eql t c (.agg ⟨xs⟩) (.agg ⟨ys⟩) K=K (.bool b):=by
 simp[binK,abin,hp,he]
def bindB (r k:Option Bool):Option Bool:=match r with
 | some true=>k
 | r=>r
theorem bindB_some {a b:Bool}:bindB (some a) (some b)=some (a&&b):=by cases a<;>rfl
theorem beqI (a b:Int):(a==b)=decide (a=b):=rfl
section
variable {c:Bool}{xs ys:List Value}{K:Value→Prop}{p:Prop}[Decidable p]
theorem bin_neqP (hp:plainKey E 20 t=true) (he:aeq E 100 t (.agg ⟨xs⟩) (.agg ⟨ys⟩)=some (decide p)):binK E .neq t c (.agg ⟨xs⟩) (.agg ⟨ys⟩) K=brK p (K (.bool false)) (K (.bool true)):=by
 rw[bin_neqA hp he]
 by_cases h:p
 ·rw[decide_eq_true h,eq_true h,brK_true];simp
 ·rw[decide_eq_false h,eq_false h,brK_false];simp
theorem bin_eqlP (hp:plainKey E 20 t=true) (he:aeq E 100 t (.agg ⟨xs⟩) (.agg ⟨ys⟩)=some (decide p)):binK E .eql t c (.agg ⟨xs⟩) (.agg ⟨ys⟩) K=brK p (K (.bool true)) (K (.bool false)):=by
 rw[bin_eqlA hp he]
 by_cases h:p
 ·rw[decide_eq_true h,eq_true h,brK_true]
 ·rw[decide_eq_false h,eq_false h,brK_false]
end
theorem cellAt_newE {cs:List Value}{e:TypeId}{b:Bool}{off:Nat}:cellAt (newBlk h (.cells cs e b)) ⟨h.n,off,none⟩=cs[off]?:=by
 by_cases hlt:off<cs.length
 ·rw[List.getElem?_eq_getElem hlt]
  exact cellAt_new (List.getElem?_eq_getElem hlt)
 ·rw[List.getElem?_eq_none (by omega)]
  unfold cellAt cellsAt
  have h1:Nat.blt h.n (newBlk h (.cells cs e b)).n=true:=by simp[blt_eq,newBlk]
  simp only[show Nat.beq 1 0=false from rfl,cond_false,h1,cond_true,newBlk_same,dropN_eq]
  rw[List.drop_eq_nil_of_le (by omega)]
  rfl
theorem cellsAt_newE {cs:List Value}{e:TypeId}{b:Bool}{n:Nat}(hn:cs.length=n):cellsAt (newBlk h (.cells cs e b)) ⟨h.n,0,none⟩ n=some cs :=
 cellsAt_blk (by simp[newBlk]) (newBlk_same _ _) (by simp[← hn]) hn
theorem cellAt_newO {k:Blk}{i off:Nat}(hi:i<h.n):cellAt (newBlk h k) ⟨i,off,none⟩=cellAt h ⟨i,off,none⟩:=by
 have hi':i<(newBlk h k).n:=by simp[newBlk];omega
 unfold cellAt cellsAt
 simp only[newBlk_old k hi,blt_eq,hi,hi',decide_true,cond_true]
theorem cellsAt_newO {k:Blk}{i off n:Nat}(hi:i<h.n):cellsAt (newBlk h k) ⟨i,off,none⟩ n=cellsAt h ⟨i,off,none⟩ n:=by
 have hi':i<(newBlk h k).n:=by simp[newBlk];omega
 unfold cellsAt
 simp only[newBlk_old k hi,blt_eq,hi,hi',decide_true,cond_true]
theorem flat_drop {sz:Nat}:∀ (rows:List (List Value)) (i:Nat),(∀ r∈rows,r.length=sz)→∀ (hi:i<rows.length),(rows.flatten.drop (i*sz)).take sz=rows[i]
 | r::rows,0,hl,_=>by
   have:=hl r (List.mem_cons_self ..)
   simp[← this]
 | r::rows,i+1,hl,hi=>by
   have h1:=hl r (List.mem_cons_self ..)
   have:=flat_drop rows i (fun r hr=>hl r (List.mem_cons_of_mem _ hr)) (by simpa using hi)
   rw[List.flatten_cons,List.drop_append,show (i+1)*sz-r.length=i*sz by rw[h1,Nat.add_mul];omega,List.drop_eq_nil_of_le (by rw[h1,Nat.add_mul];omega)]
   simpa using this
theorem flat_len {sz:Nat}:∀ (rows:List (List Value)),(∀ r∈rows,r.length=sz)→rows.flatten.length=rows.length*sz
 | [],_=>by simp
 | r::rows,hl=>by
   have h1:=hl r (List.mem_cons_self ..)
   have:=flat_len rows (fun r hr=>hl r (List.mem_cons_of_mem _ hr))
   rw[List.flatten_cons,List.length_append,this,h1,List.length_cons,Nat.add_mul]
   omega
theorem OwnS.rowAt {B:Nat}{e:TypeId}{v:Value}{n sz:Nat}{rows:List (List Value)}(o:OwnS B h e v n rows.flatten) (hl:∀ r∈rows,r.length=sz) (hn:n=rows.length) :
   ∃ a c,v=.slice a rows.length c∧RowAt h.n h a sz rows:=by
 subst hn
 generalize hcs:rows.flatten=cs at o
 generalize hm:rows.length=m at o ⊢
 cases o with
 | nil =>
   refine⟨none,0,by rw[show (0:Nat)=0 from rfl],fun i hi=>?_⟩
   omega
 | emp i0 hi0 =>
   refine⟨some ⟨i0,0,none⟩,0,by rw[show (0:Nat)=0 from rfl],fun i hi=>?_⟩
   omega
 | row i m cs h1 h2 h3 =>
   subst hcs
   refine⟨_,_,rfl,fun j hj=>⟨i,0,rfl,h2,?_⟩⟩
   exact cellsAt_blk h2 h3 (by rw[Nat.zero_add];exact flat_drop rows j hl hj) (hl _ (List.getElem_mem _))
theorem st_newM {n:Nat}{cs l:List Value}{e:TypeId}{b:Bool}(hc:(Nat.beq l.length n&&Nat.beq cs.length n&&l.all oneCell&&!Nat.beq n 0)=true) (k:K undef (newBlk h (.cells l e b))) :
  stK n (.pointer (some ⟨h.n,0,none⟩)) (.agg ⟨l⟩) (newBlk h (.cells cs e b)) K:=by
 simp only[Bool.and_eq_true,Bool.not_eq_true']at hc
 rw[st_new (Nat.eq_of_beq_eq_true hc.1.1.1) (Nat.eq_of_beq_eq_true hc.1.1.2) hc.1.2 (Nat.ne_of_beq_eq_false hc.2)]
 exact k
theorem bs_oneM {e:TypeId}{sz:Nat}{zs:List Value}{v:Value}(hc:(Nat.beq v.cells.toList.length sz&&Nat.beq zs.length sz&&!Nat.beq sz 0)=true) (k:K (.slice (some ⟨h.n,0,none⟩) 1 1) (newBlk h (.cells v.cells.toList e true))):bsK e sz zs 1 [(0,v)] h K:=by
 simp only[Bool.and_eq_true,Bool.not_eq_true']at hc
 rw[bs_one rfl (Nat.eq_of_beq_eq_true hc.1.1) (Nat.eq_of_beq_eq_true hc.1.2) (Nat.ne_of_beq_eq_false hc.2)]
 exact k
theorem bs_of {e:TypeId}{sz len:Nat}{zs l:List Value}{ps:List (Nat×Value)}(hf:fillL (fun k=>some (k*sz,sz)) (rep len zs) ps=some l) (k:K (.slice (some ⟨h.n,0,none⟩) len len) (newBlk h (.cells l e true))):bsK e sz zs len ps h K:=by
 unfold bsK;rw[hf,onV_some'];exact k
end
theorem wrap_i64 {n:Int}(h0 : -9223372036854775808≤n) (h1:n≤9223372036854775807):IntKind.wrap .i64 n=n:=by rw[IntKind.wrap_i64];omega
theorem wrap_u64 {n:Int}(h0:0≤n) (h1:n≤18446744073709551615):IntKind.wrap .u64 n=n:=by simp[IntKind.wrap,IntKind.bits,IntKind.signed];omega
theorem wrap_u8 {n:Int}(h0:0≤n) (h1:n≤255):IntKind.wrap .u8 n=n:=by rw[IntKind.wrap_u8];omega
theorem wrap_succ {k:Nat}(h:k≤4611686018427387904):IntKind.wrap .i64 ((k:Int)+1)=((k+1:Nat):Int):=by rw[wrap_i64 (by omega) (by omega)];omega
section
variable {E:Env}{fr:Fr}{h:Heap}{K:Value→Heap→Prop}{x y z:Operand}{t t':TypeId}
def unK (op:UnOp) (v:Value) (K:Value→Prop) [Tok K]:Prop:=onV (aun op v) K
theorem opW_un {op:UnOp}:opW E (.unOp op t x) fr h K=evK E fr x fun v=>unK op v fun u=>K u h:=by
 rw[opW_pure rfl (by simp)]
 simp only[pureOp,operOf,evK,onV,unK]
 cases ev E fr x<;>simp
theorem un_not {b:Bool}{K:Value→Prop}:unK .not (.bool b) K=K (.bool !b):=by simp[unK,aun]
theorem un_neg {k:IntKind}{n:Int}{K:Value→Prop}:unK .neg (.int k n) K=K (.int k (k.wrap (0-n))):=by simp[unK,aun]
def intK (E:Env) (t:TypeId):Option IntKind:=match und E t with|some (.int k)=>some k|_=>none
def cintK (k:IntKind) (v:Value) (K:Value→Prop) [Tok K]:Prop:=match v with|.int _ n=>K (.int k (k.wrap n))|_=>False
theorem opW_cint {k k':IntKind}(h1:intK E t=some k') (h2:intK E t'=some k):opW E (.convert t t' x) fr h K=evK E fr x fun v=>cintK k v fun u=>K u h:=by
 unfold intK at h1 h2
 split at h1
 ·rename_i k1 hu1
  split at h2
  ·rename_i k2 hu2
   cases h2
   rw[opW_pure (by simp[kindOf,hu1]) (by simp)]
   simp only[pureOp,operOf,evK,onV,cintK]
   cases ev E fr x with
   | none=>simp
   | some v=>cases v<;>simp[aconvert,hu1,hu2]
  ·cases h2
 ·cases h1
theorem cint_int {k k':IntKind}{n:Int}{K:Value→Prop}:cintK k (.int k' n) K=K (.int k (k.wrap n)):=Eq.trans rfl rfl
def isBytes (E:Env) (t t':TypeId):Bool:=match und E t,und E t' with
 | some (.slice e),some .string=>(match und E e with|some (.int .u8)=>true|_=>false)
 | _,_=>false
def bstrK (h:Heap) (v:Value) (K:Value→Prop) [Tok K]:Prop:=match v with
 | .slice none _ _=>K (.string .empty)
 | .slice (some a) n _=>onV (match cellsAt h a n with|some l=>(mapOpt byteOf l).map fun l=>(⟨l.toArray⟩:ByteArray)|none=>none) fun s=>K (.string s)
 | _=>False
theorem opW_bstr (hb:isBytes E t t'=true):opW E (.convert t t' x) fr h K=evK E fr x fun v=>bstrK h v fun u=>K u h:=by
 unfold isBytes at hb
 split at hb
 · rename_i e hu1 hu2
   split at hb
   · rename_i hu3
     rw[opW_read (by simp[kindOf,hu1,hu2]) (by simp)]
     simp only[readOp,operOf,evK,onV,bstrK]
     cases ev E fr x with
     | none=>simp
     | some v =>
       simp only[aconvertR,hu1,hu2,hu3]
       cases v with
       | slice a n c =>
         cases a with
         | none=>simp
         | some a =>
           simp only[Option.some.injEq,exists_eq_left']
           generalize cellsAt h a n=r
           cases r with
           | none=>simp
           | some l =>
             simp only
             generalize mapOpt byteOf l=q
             cases q<;>simp
       | _=>simp
   · cases hb
 · cases hb
def fldPl (E:Env) (t:TypeId) (f:Nat):Option (Nat×Option Nat):=match und E t with
 | some (.struct fields)=>match nth fields.toList f with
   | some fd=>match E.tab.get fd.type with
     | some i=>match i.desc with
       | .struct _|.array _ _=>some (fd.offset,some i.size)
       | .invalid=>none
       | _=>some (fd.offset,none)
     | none=>none
   | none=>none
 | _=>none
def extK (i:Nat) (v:Value) (K:Value→Prop) [Tok K]:Prop:=match v with|.tuple cs=>onV cs.toList[i]? K|_=>False
theorem opW_extract {i:Nat}:opW E (.extract x i) fr h K=evK E fr x fun v=>extK i v fun u=>K u h:=by
 rw[opW_pure rfl (by simp)]
 simp only[pureOp,operOf,evK,onV,extK]
 cases ev E fr x with
 | none=>simp
 | some v=>cases v<;>simp[nth_eq]
theorem ext_tuple {i:Nat}{l:List Value}{K:Value→Prop}:extK i (.tuple ⟨l⟩) K=onV l[i]? K:=Eq.trans rfl rfl
theorem opW_makeFunc {fn:Fn}{f c:List Operand}(hy:isYield fn=false):opW E (.makeFunc fn ⟨f⟩ ⟨c⟩) fr h K=evsK E fr f fun fs=>evsK E fr c fun cs=>K (.func fn ⟨fs⟩ ⟨cs⟩) h:=by
 rw[opW_pure rfl (by simp)]
 simp only[pureOp,operOf,evsK,evs,onV]
 cases mapOpt (ev E fr) f with
 | none=>simp
 | some fs=>cases mapOpt (ev E fr) c<;>simp[hy]
theorem opW_makeFuncF {g:FuncId}{f c:List Operand}:opW E (.makeFunc (.func g) ⟨f⟩ ⟨c⟩) fr h K=evsK E fr f fun fs=>evsK E fr c fun cs=>K (.func (.func g) ⟨fs⟩ ⟨cs⟩) h:=opW_makeFunc rfl
def placesOf (E:Env) (t:TypeId):Option (List Value×List (Nat×Nat)):=match zero E t,und E t with
 | some z,some (.struct fields)=>(mapOpt (fun f=>(size E f.type).map (f.offset,·)) fields.toList).map fun p=>(z.cells.toList,p)
 | _,_=>none
def bdK (zs:List Value) (pl:List (Nat×Nat)) (ps:List (Nat×Value)) (K:Value→Prop) [Tok K]:Prop:=onV (fillL (nth pl) zs ps) fun l=>K (.agg ⟨l⟩)
theorem opW_build {zs:List Value}{pl:List (Nat×Nat)}{ps:List (Nat×Operand)}(hp:placesOf E t=some (zs,pl)):opW E (.build t ⟨ps⟩) fr h K=evpK E fr ps fun l=>bdK zs pl l fun u=>K u h:=by
 unfold placesOf at hp
 split at hp
 · rename_i z fields hz hu
   simp only[Option.map_eq_some_iff,Prod.mk.injEq]at hp
   obtain⟨p,hp,rfl,rfl⟩:=hp
   rw[opW_pure rfl (by simp)]
   simp only[pureOp,operOf,evp,evpK,onV,bdK]
   cases mapOpt (fun (p:Nat×Operand)=>(ev E fr p.2).map (p.1,·)) ps with
   | none=>simp
   | some l =>
     simp only[abuild,hz,hu,hp,Option.some.injEq,exists_eq_left']
     generalize fillL (nth p) z.cells.toList l=r
     cases r<;>simp
 · cases hp
theorem bd_of {zs l:List Value}{pl:List (Nat×Nat)}{ps:List (Nat×Value)}{K:Value→Prop}(hf:fillL (nth pl) zs ps=some l) (k:K (.agg ⟨l⟩)):bdK zs pl ps K:=by
 unfold bdK;rw[hf,onV_some'];exact k
theorem fillL_cons {f:Nat→Option (Nat×Nat)}{cs:List Value}{i:Nat}{v:Value}{ps:List (Nat×Value)}:fillL f cs ((i,v)::ps)=match f i with
  | none=>none
  | some (off,n)=>cond (Nat.blt 0 n) (cond (Nat.beq v.cells.toList.length n) (match over cs off v.cells.toList with|some cs=>fillL f cs ps|none=>none) none) none:=rfl
theorem opW_nilCheck:opW E (.nilCheck x) fr h K=evK E fr x fun v=>match v with
   | .pointer (some a)=>K (.pointer (some a)) h
   | .iface t v=>K (.iface t v) h
   | .func (.func f) a b=>K (.func (.func f) a b) h
   | .func (.yield l) a b=>K (.func (.yield l) a b) h
   | _=>False:=by
 rw[opW_pure rfl (by simp)]
 simp only[pureOp,operOf,evK,onV]
 cases ev E fr x with
 | none=>simp
 | some v =>
   cases v with
   | pointer a=>cases a<;>simp
   | func fn a b=>cases fn<;>simp
   | _=>simp
end
section
variable {α:Type}[DecidableEq α]
structure KeyOK (E:Env) (kt:TypeId) (kv:α→Value):Prop where
 und:∃ d,und E kt=some d∧∀ a b,(cond (keyOk d) (akeyEq d (kv a) (kv b)) (aeq E 100 kt (kv a) (kv b)))=some (decide (a=b))
 chk:∀ a,acheck E 20 kt (kv a)=true
 same:∀ a,sameV 50 (kv a) (kv a)=true
variable {kv:α→Value}
end
section
variable {α:Type}[DecidableEq α] {kv:α→Value}{E:Env}{fr:Fr}{h:Heap}{K:Value→Heap→Prop}{x y z:Operand}{t t' kt et:TypeId}{r:Nat}{f:α→Option Value}{k:α}
def lookK (E:Env) (t:TypeId) (m k:Value) (ok:Bool) (h:Heap) (K:Value→Prop) [Tok K]:Prop:=onV (alookup E t m k ok h) K
theorem opW_lookup {ok:Bool}:opW E (.lookup t x y ok) fr h K=evK E fr x fun m=>evK E fr y fun k=>lookK E t m k ok h fun u=>K u h:=by
 rw[opW_read rfl (by simp)]
 simp only[readOp,operOf,evK,onV,lookK]
 cases ev E fr x with
 | none=>simp
 | some v=>cases ev E fr y<;>simp
def updK (E:Env) (t:TypeId) (m k v:Value) (h:Heap) (K:Value→Heap→Prop) [Tok K]:Prop:=onV (amapUpdate E t m k v h) fun h'=>K undef h'
theorem opW_makeMapS (hu:(und E t).isSome=true) (hns:E.smap t=true):opW E (.makeMap t none) fr h K=K (.map (some h.n)) (newBlk h (.smap [])):=by
 obtain⟨d,hd⟩:=Option.isSome_iff_exists.1 hu
 rw[opW_alloc' rfl (by simp)]
 simp[allocOp,operOf,hd,onV,hns]
theorem opW_makeMap (hu:(und E t).isSome=true) (hns:E.smap t=false):opW E (.makeMap t none) fr h K=K (.map (some h.n)) (newBlk h (.map [] 0)):=by
 obtain⟨d,hd⟩:=Option.isSome_iff_exists.1 hu
 rw[opW_alloc' rfl (by simp)]
 simp[allocOp,operOf,hd,onV,hns]
end
section
variable {E:Env}{nt:Nat}{rd:Option Nat}{fr:Fr}{h:Heap}{K:Value→Heap→Prop}{x y z:Operand}{t t':TypeId}
def capK (v:Value) (K:Value→Prop) [Tok K]:Prop:=match v with
 | .slice _ _ c=>c<UNK∧K (.int .i64 c)
 | _=>False
def evoK (E:Env) (fr:Fr) (o:Option Operand) (K:Option Value→Prop) [Tok K]:Prop:=onV (evo E fr o) K
theorem evo_none {K:Option Value→Prop}:evoK E fr none K=K none:=by simp[evoK,evo]
theorem evo_some {K:Option Value→Prop}:evoK E fr (some x) K=evK E fr x fun v=>K (some v):=by
 simp only[evoK,evo,evK,onV]
 cases ev E fr x<;>simp
def slcK (sz:Nat) (v:Value) (lo hi mx:Option Value) (K:Value→Prop) [Tok K]:Prop:=match v,lo,hi,mx with
 | .slice a n c,none,some (.int _ j),none=>((c=UNK∧sz≠0∧0≤j∧j≤n)∧K (.slice a j.toNat UNK))∨((c<UNK∧0≤j∧j≤c)∧K (.slice a j.toNat c))
 | .slice a n c,some (.int _ i),some (.int _ j),none=>(c<UNK∧0≤i∧i≤j∧j≤c)∧K (.slice (cond (Nat.beq c i.toNat) a (a.map (·.add (i.toNat*sz)))) (j-i).toNat (c-i.toNat))
 | _,_,_,_=>False
theorem slc_ok {sz:Nat}{e:TypeId}{v:Value}{lo hi mx:Option Value}{K:Value→Prop}(hu:und E t=some (.slice e)) (hs:size E e=some sz) (w:slcK sz v lo hi mx K):onV (asliceS E t v lo hi mx) K:=by
 unfold slcK at w
 split at w
 ·rename_i a n c k j
  rcases w with ⟨⟨rfl,h1,h2,h3⟩,w⟩|⟨⟨h1,h2,h3⟩,w⟩
  ·have e2:Nat.beq UNK UNK2=false:=rfl
   have hb:abounds n n none (some (.int k j)) none=some (0,j.toNat,n):=by
    simp[abounds,aboundsM,aboundsL,bound,h2,h3]
   have e3:asliceS E t (.slice a n UNK) none (some (.int k j)) none=some (.slice a j.toNat UNK):=by
    obtain⟨m,rfl⟩:∃ m,sz=m+1:=⟨sz-1,by omega⟩
    simp[asliceS,hu,e2,hb,hs]
   rw[e3,onV_some'];exact w
  ·have e2:Nat.beq c UNK2=false:=by
    cases hc:Nat.beq c UNK2 with
    | true=>have:=Nat.eq_of_beq_eq_true hc;subst this;exact absurd h1 (by decide)
    | false=>rfl
   have e3:Nat.beq c UNK=false:=by
    cases hc:Nat.beq c UNK with
    | true=>have:=Nat.eq_of_beq_eq_true hc;omega
    | false=>rfl
   have hb:abounds n c none (some (.int k j)) none=some (0,j.toNat,c):=by
    simp[abounds,aboundsM,aboundsL,bound,h2,h3]
   have e4:asliceS E t (.slice a n c) none (some (.int k j)) none=some (.slice a j.toNat c):=by
    simp only[asliceS,hu,e2,e3,cond_false,hb,hs]
    cases hc:Nat.beq c 0<;>cases a<;>simp[Addr.add]
   rw[e4,onV_some'];exact w
 ·rename_i a n c k i k' j
  obtain⟨⟨h1,h2,h3,h4⟩,w⟩:=w
  have e2:Nat.beq c UNK2=false:=by
   cases hc:Nat.beq c UNK2 with
   | true=>have:=Nat.eq_of_beq_eq_true hc;subst this;exact absurd h1 (by decide)
   | false=>rfl
  have e3:Nat.beq c UNK=false:=by
   cases hc:Nat.beq c UNK with
   | true=>have:=Nat.eq_of_beq_eq_true hc;omega
   | false=>rfl
  have hb:abounds n c (some (.int k i)) (some (.int k' j)) none=some (i.toNat,j.toNat,c):=by
   have h5:0≤j:=by omega
   have h6:i≤(j.toNat:Int):=by omega
   have b1:bound (.int k' j) c=some j.toNat:=by simp only[bound,decide_eq_true h5,decide_eq_true h4];rfl
   have b2:bound (.int k i) j.toNat=some i.toNat:=by simp only[bound,decide_eq_true h2,decide_eq_true h6];rfl
   simp only[abounds,aboundsM,aboundsL,b1,b2]
  have e4:asliceS E t (.slice a n c) (some (.int k i)) (some (.int k' j)) none=some (.slice (cond (Nat.beq c i.toNat) a (a.map (·.add (i.toNat*sz)))) (j-i).toNat (c-i.toNat)):=by
   simp only[asliceS,hu,e2,e3,cond_false,hb,hs]
   rw[show j.toNat-i.toNat=(j-i).toNat by omega]
  rw[e4,onV_some'];exact w
 ·exact w.elim
def slzOf (E:Env) (t:TypeId):Option Nat:=match und E t with|some (.slice e)=>size E e|_=>none
def sliceVK (E:Env) (t:TypeId) (v:Value) (lo hi mx:Option Value) (K:Value→Prop) [Tok K]:Prop:=onV (asliceS E t v lo hi mx) K
theorem opW_slice {lo hi mx:Option Operand}:opW E (.slice t x lo hi mx) fr h K=evK E fr x fun v=>evoK E fr lo fun lo=>evoK E fr hi fun hi=>evoK E fr mx fun mx=>sliceVK E t v lo hi mx fun u=>K u h:=by
 rw[opW_pure rfl (by simp)]
 simp only[pureOp,operOf,evK,evoK,onV,sliceVK]
 cases ev E fr x with
 | none=>simp
 | some v =>
   cases evo E fr lo with
   | none=>simp
   | some a =>
     cases evo E fr hi with
     | none=>simp
     | some b =>
       cases evo E fr mx with
       | none=>simp
       | some c=>simp
theorem slice_toC {sz:Nat}{a:Option Addr}{n c:Nat}{k:IntKind}{j:Int}{K:Value→Prop}(hs:slzOf E t=some sz) (hc:c<UNK) (h0:0≤j) (h1:j≤c) (q:K (.slice a j.toNat c)):sliceVK E t (.slice a n c) none (some (.int k j)) none K:=by
 unfold slzOf at hs
 split at hs
 ·rename_i e hu
  exact slc_ok hu hs (.inr ⟨⟨hc,h0,h1⟩,q⟩)
 ·cases hs
def agV (fr:Fr) (d:Nat) (v:Value):Prop:=∃ v',fr.get d=some v'∧sameV 50 v v'=true
theorem agV_same {d:Nat}{v u:Value}:agV (fr.set d u) d v=(sameV 50 v u=true):=by simp[agV,T.get_set]
theorem agV_ne {d s:Nat}{v u:Value}(hs:s≠d):agV (fr.set s u) d v=agV fr d v:=by simp[agV,T.get_set,hs]
def agL (E:Env) (t:TypeId) (p:Value) (h:Heap) (K:Value→Prop) [Tok K]:Prop:=onV (loadAt E t p h) K
theorem agK_load {d:Nat}{l:List GO}:agK E (⟨none,some d,.load t x⟩::l) fr h=((evK E fr x fun p=>agL E t p h fun v=>agV fr d v)∧agK E l fr h):=by
 simp only[agK,gdK,readOp,operOf,evK,onV,agL,agV]
 cases ev E fr x with
 | none=>simp
 | some p=>simp
theorem agK_loadG {d s:Nat}{w:Bool}{l:List GO}:agK E (⟨some (s,w),some d,.load t x⟩::l) fr h=((getK fr s fun b=>gdV b w (evK E fr x fun p=>agL E t p h fun v=>agV fr d v) True)∧agK E l fr h):=by
 have e:(∃ v v' d',readOp E fr (operOf (.load t x)) h=some v∧some d=some d'∧fr.get d'=some v'∧sameV 50 v v'=true)=(evK E fr x fun p=>agL E t p h fun v=>agV fr d v):=by
  simp only[readOp,operOf,evK,onV,agL,agV]
  cases ev E fr x with
  | none=>simp
  | some p=>simp
 simp only[agK,gdK_some,e]
theorem agL_one {v:Value}{K:Value→Prop}(ht:isOne E t=true):agL E t v h K=ld1K h v K:=by
 unfold isOne at ht
 split at ht
 · rename_i i hi
   unfold agL loadAt ld1K
   cases v with
   | pointer a =>
     cases a with
     | none=>simp[onV]
     | some a =>
       simp only[hi]
       split
       · rename_i hd;simp[hd]at ht
       · rename_i hd;simp[hd]at ht
       · rename_i hd;simp[hd]at ht
       · rfl
   | _=>simp[onV]
 · cases ht
theorem agL_many {n:Nat}{v:Value}{K:Value→Prop}(ht:isMany E t=some n):agL E t v h K=ldNK h n v K:=by
 unfold isMany at ht
 split at ht
 · rename_i i hi
   unfold agL loadAt ldNK
   cases v with
   | pointer a =>
     cases a with
     | none=>simp[onV]
     | some a =>
       simp only[hi]
       split at ht
       · rename_i fs hd
         cases ht
         simp only[hd]
         cases cellsAt h a i.size<;>simp[onV]
       · rename_i m e hd
         cases ht
         simp only[hd]
         cases cellsAt h a i.size<;>simp[onV]
       · cases ht
   | _=>simp[onV]
 · cases ht
theorem resK_nil {K:Value→Heap→Prop}:resK E [] K .normal fr h=K (resVal []) h:=Eq.trans rfl rfl
theorem resK_cell {s:Nat}{ex:Ex}{K:Value→Heap→Prop}(hx:∀ i,ex≠.exit i):resK E [.cell s t] K ex fr h=getK fr s fun p=>agL E t p h fun v=>K v h:=by
 have:∀ (o:Option Value),(match mapOpt (resOf E fr h) [.cell s t]with|some vs=>K (resVal vs) h|none=>False)=(getK fr s fun p=>agL E t p h fun v=>K v h):=by
   intro _
   simp only[mapOpt,resOf,getK,agL,onV]
   cases fr.get s with
   | none=>simp
   | some p =>
     simp only[Option.some.injEq,exists_eq_left']
     generalize hr:loadAt E t p h=r
     cases r<;>simp[resVal]
 cases ex with
 | exit i=>exact absurd rfl (hx i)
 | _=>exact this none
theorem resK_cellR {s:Nat}{K:Value→Heap→Prop}:resK E [.cell s t] K .ret fr h=getK fr s fun p=>agL E t p h fun v=>K v h:=resK_cell (by simp)
theorem resK_ct {s d:Nat}{K:Value→Heap→Prop}:resK E [.cell s t,.tmp d] K .ret fr h=getK fr s fun p=>agL E t p h fun v=>getK fr d fun u=>K (.tuple #[v,u]) h:=by
 simp only[resK,mapOpt,resOf,getK,agL,onV,ev]
 cases fr.get s with
 | none=>simp
 | some p =>
   simp only[Option.some.injEq,exists_eq_left']
   generalize loadAt E t p h=r
   cases r with
   | none=>simp
   | some v=>cases fr.get d<;>simp[resVal]
end
section
variable {E:Env}{fr:Fr}{h:Heap}{K:Value→Heap→Prop}{x y z:Operand}{t t':TypeId}
def notIn (v:Value) (j:Nat):Prop:=∀ a n c,v=.slice (some a) n c→a.block≠j
theorem app_ownF {B:Nat}{e:TypeId}{sz n m:Nat}{s y:Value}{cs new:List Value}(o:OwnS B h e s n cs) (hB:B≤h.n) (hlen:cs.length=n*sz) (hy:lenOf y=some m) (hm:m≠0) (hsz:n+m≤1000000)
   (hnew:firstCells h sz m y=some new) (hnl:new.length=m*sz) (hone:new.all oneCell=true) (hpos:sz≠0)
   (k:∀ v' h',OwnS B h' e v' (n+m) (cs++new)→ExtB B h h'→(∀ j,j<h.n→notIn s j→h'.b.get j=h.b.get j)→K v' h'):appK e sz s y h K:=by
 have pos:0<m*sz:=Nat.mul_pos (by omega) (by omega)
 cases o with
 | nil =>
   simp only[appK,hy]
   refine⟨⟨by omega,.inr hm⟩,fun h0=>absurd h0 hm,fun _=>?_⟩
   rw[hnew,onV_some']
   refine⟨hone,?_⟩
   have:appendRow h e sz none 0 0 m new=some (.slice (some ⟨h.n,0,none⟩) m UNK,newBlk h (.cells ([]++new) e false)):=by
     unfold appendRow
     have f1:Nat.beq 0 UNK2=false:=rfl
     have f2:Nat.beq 0 UNK=false:=rfl
     have f3:Nat.ble m 0=false:=by
       cases hb:Nat.ble m 0 with
       | true=>have:=Nat.le_of_ble_eq_true hb;omega
       | false=>rfl
     simp only[f1,f2,cond_false,firstCells,Nat.beq_refl,cond_true,Nat.zero_add,f3]
   rw[this,onR_some]
   refine k _ _ ?_ (ExtB.new _ hB) (fun j hj _=>newBlk_old _ hj)
   rw[Nat.zero_add]
   exact .row h.n m _ hB (by simp[newBlk]) (newBlk_same _ _)
 | emp i0 hi0 =>
   simp only[appK,hy]
   refine⟨⟨by omega,.inr hm⟩,fun h0=>absurd h0 hm,fun _=>?_⟩
   rw[hnew,onV_some']
   refine⟨hone,?_⟩
   have:appendRow h e sz (some ⟨i0,0,none⟩) 0 0 m new=some (.slice (some ⟨h.n,0,none⟩) m UNK,newBlk h (.cells ([]++new) e false)):=by
     unfold appendRow
     have f1:Nat.beq 0 UNK2=false:=rfl
     have f2:Nat.beq 0 UNK=false:=rfl
     have f3:Nat.ble m 0=false:=by
       cases hb:Nat.ble m 0 with
       | true=>have:=Nat.le_of_ble_eq_true hb;omega
       | false=>rfl
     simp only[f1,f2,cond_false,firstCells,cellsAt,Nat.zero_mul,Nat.beq_refl,cond_true,Nat.zero_add,f3]
   rw[this,onR_some]
   refine k _ _ ?_ (ExtB.new _ hB) (fun j hj _=>newBlk_old _ hj)
   rw[Nat.zero_add]
   exact .row h.n m _ hB (by simp[newBlk]) (newBlk_same _ _)
 | row i n cs h1 h2 h3 =>
   simp only[appK,hy]
   refine⟨⟨by omega,.inr hm⟩,fun h0=>absurd h0 hm,fun _=>?_⟩
   rw[hnew,onV_some']
   refine⟨hone,?_⟩
   have:appendRow h e sz (some ⟨i,0,none⟩) n UNK m new=some (.slice (some ⟨h.n,0,none⟩) (n+m) UNK,newBlk { h with b:=h.b.set i .dead } (.cells (cs++new) e false)):=by
     unfold appendRow
     have f1:Nat.beq UNK UNK2=false:=rfl
     have f2:Nat.beq UNK UNK=true:=Nat.beq_refl _
     have f3:Nat.ble ((n+m)*sz) cs.length=false:=by
       cases hb:Nat.ble ((n+m)*sz) cs.length with
       | true =>
         have:=Nat.le_of_ble_eq_true hb
         rw[hlen,Nat.add_mul]at this
         omega
       | false=>rfl
     have f4:Nat.beq (n*sz) cs.length=true:=by rw[hlen];exact Nat.beq_refl _
     simp only[f1,f2,h3,cond_false,cond_true,Nat.beq_refl,f3,f4]
   rw[this,onR_some]
   refine k _ _ ?_ ?_ (fun j hj hno=>by
     have hne:i≠j:=hno ⟨i,0,none⟩ n UNK rfl
     simp only[newBlk]
     rw[T.get_set_ne _ _ (by omega),T.get_set_ne _ _ hne])
   · exact .row h.n (n+m) _ hB (by simp[newBlk]) (by simp[newBlk,T.get_set])
   · refine⟨by simp[newBlk],fun j hj=>?_⟩
     simp only[newBlk]
     rw[T.get_set_ne _ _ (by omega),T.get_set_ne _ _ (by omega)]
theorem app_ownG {B:Nat}{e:TypeId}{sz n m:Nat}{s y:Value}{cs new:List Value}(o:OwnS B h e s n cs) (hB:B≤h.n) (hlen:cs.length=n*sz) (hy:lenOf y=some m) (hsz:n+m≤1000000)
   (hnew:m≠0→firstCells h sz m y=some new) (hnl:new.length=m*sz) (hone:new.all oneCell=true) (hpos:sz≠0)
   (k:∀ v' h',OwnS B h' e v' (n+m) (cs++new)→ExtB B h h'→K v' h'):appK e sz s y h K:=by
 by_cases hm:m=0
 · subst hm
   have:new=[]:=List.length_eq_zero_iff.1 (by omega)
   subst this
   rw[List.append_nil]at k
   cases o with
   | nil=>simp only[appK,hy];exact⟨⟨by omega,.inl (Nat.le_refl _)⟩,fun _=>k _ _ .nil (ExtB.refl _ _),fun h=>absurd rfl h⟩
   | emp i hi=>simp only[appK,hy];exact⟨⟨by omega,.inl (Nat.le_refl _)⟩,fun _=>k _ _ (.emp i hi) (ExtB.refl _ _),fun h=>absurd rfl h⟩
   | row i n cs h1 h2 h3 =>
     simp only[appK,hy]
     exact⟨⟨by omega,.inl (Nat.le_trans (show n≤1000000 by omega) (by decide))⟩,fun _=>k _ _ (.row i n cs h1 h2 h3) (ExtB.refl _ _),fun h=>absurd rfl h⟩
 · exact app_own o hB hlen hy hm hsz (hnew hm) hnl hone hpos fun v' h' o x _=>k v' h' o x
theorem over_mid:∀ (new a b c:List Value),b.length=new.length→over (a++(b++c)) a.length new=some (a++(new++c))
 | [],a,[],c,_=>by
   have:∀ (a:List Value),over (a++c) a.length []=some (a++c):=by
     intro a
     cases a with
     | nil=>cases c<;>rfl
     | cons x a=>rfl
   simpa using this a
 | x::new,[],y::b,c,h=>by
   have:=over_mid new [] b c (by simpa using h)
   simp only[List.nil_append,List.length_nil]at this
   simp only[List.nil_append,List.length_nil,List.cons_append,over,Nat.beq_refl,cond_true,this,Option.map_some]
 | x::new,z::a,b,c,h=>by
   have:=over_mid (x::new) a b c h
   simp only[List.cons_append,List.length_cons,over,show Nat.beq (a.length+1) 0=false from rfl,cond_false,Nat.add_sub_cancel,this,Option.map_some]
theorem st_at {n i off:Nat}{cs cs' l:List Value}{e:TypeId}{b:Bool}{v:Value}(hb:h.b.get i=some (.cells cs e b)) (hv:v.cells.toList=l) (hl:l.length=n) (ho:over cs off l=some cs') (h1:l.all oneCell=true) (hn:n≠0)
  (q:K undef { h with b:=h.b.set i (.cells cs' e b) }):stK n (.pointer (some ⟨i,off,none⟩)) v h K:=by
 subst hv
 have hne:v.cells.toList≠[]:=by intro he;rw[he]at hl;simp at hl;omega
 simp only[stK]
 refine⟨⟨hl,h1⟩,?_⟩
 rw[writeCells_blk hb ho hne,onV_some']
 exact q
theorem cellsAt_pts {b off:Nat}:∀ (l:List Value),l≠[]→(∀ j v,l[j]?=some v→cellAt h ⟨b,off+j,none⟩=some v)→cellsAt h ⟨b,off,none⟩ l.length=some l:=by
 intro l hne hp
 have h0:Nat.beq l.length 0=false:=by
   cases l with
   | nil=>exact absurd rfl hne
   | cons a l=>rfl
 have first:∀ j v,l[j]?=some v→cellAt h ⟨b,off+j,none⟩=some v:=hp
 unfold cellsAt
 rw[h0]
 simp only[cond_false]
 have one:=fun j v (hj:l[j]?=some v)=>(show cellAt h ⟨b,off+j,none⟩=some v from hp j v hj)
 unfold cellAt cellsAt at one
 simp only[show Nat.beq 1 0=false from rfl,cond_false]at one
 obtain⟨a0,l0,rfl⟩:=List.exists_cons_of_ne_nil hne
 have one0:=one 0 a0 rfl
 cases hlt:Nat.blt b h.n with
 | false=>rw[hlt]at one0;simp at one0
 | true =>
   rw[hlt]at one
   simp only[cond_true]at one ⊢
   cases hk:h.b.get b with
   | none=>have:=one 0 a0 rfl;rw[hk]at this;simp at this
   | some k =>
     rw[hk]at one
     cases k with
     | cells cs e x =>
       simp only[dropN_eq]at one ⊢
       have pt:∀ j v,(a0::l0)[j]?=some v→cs[off+j]?=some v:=by
         intro j v hj
         have:=one j v hj
         cases hd:cs.drop (off+j) with
         | nil=>rw[hd]at this;simp[takeN]at this
         | cons c r =>
           rw[hd]at this
           simp only[takeN,Option.map_some]at this
           have e2:cs[off+j]?=(cs.drop (off+j))[0]?:=by simp
           rw[e2,hd]
           simpa using this
       have gen:∀ (l:List Value) (off:Nat),(∀ j v,l[j]?=some v→cs[off+j]?=some v)→takeN l.length (cs.drop off)=some l:=by
         intro l
         induction l with
         | nil=>intro off _;cases cs.drop off<;>rfl
         | cons a l ih =>
           intro off hp
           have h1:=hp 0 a rfl
           have hlt:=(List.getElem?_eq_some_iff.1 h1).1
           rw[Nat.add_zero]at h1 hlt
           have h2:=ih (off+1) (fun j v hj=>by rw[show off+1+j=off+(j+1) by omega];exact hp (j+1) v (by simpa using hj))
           rw[List.drop_eq_getElem_cons hlt]
           simp only[List.length_cons,takeN,h2,Option.map_some]
           rw[(List.getElem?_eq_some_iff.1 h1).2]
       exact gen _ off pt
     | ro g =>
       have pt:∀ j v,(a0::l0)[j]?=some v→g (off+j)=some v:=by
         intro j v hj
         have:=one j v hj
         simp only[roCells]at this
         cases hg:g (off+j) with
         | none=>rw[hg]at this;simp at this
         | some w=>rw[hg]at this;simpa using this
       have gen:∀ (l:List Value) (off:Nat),(∀ j v,l[j]?=some v→g (off+j)=some v)→roCells g off l.length=some l:=by
         intro l
         induction l with
         | nil=>intro off _;rfl
         | cons a l ih =>
           intro off hp
           have h1:=hp 0 a rfl
           rw[Nat.add_zero]at h1
           have h2:=ih (off+1) (fun j v hj=>by rw[show off+1+j=off+(j+1) by omega];exact hp (j+1) v (by simpa using hj))
           simp only[List.length_cons,roCells,h1,h2]
       exact gen _ off pt
     | _=>have:=one 0 a0 rfl;simp at this
theorem RowAt.cells {B sz:Nat}{a:Option Addr}{rows:List (List Value)}(r:RowAt B h a sz rows) (hl:∀ r∈rows,r.length=sz) (hz:sz≠0) (hr:rows≠[]) :
  ∃ b off,a=some ⟨b,off,none⟩∧b<B∧cellsAt h ⟨b,off,none⟩ (rows.length*sz)=some rows.flatten:=by
 have h0:0<rows.length:=List.length_pos_iff.2 hr
 obtain⟨b,off,rfl,hb,_⟩:=r 0 h0
 refine⟨b,off,rfl,hb,?_⟩
 rw[← flat_len rows hl]
 refine cellsAt_pts _ ?_ fun j v hj=>?_
 ·intro he
  have:=flat_len rows hl
  rw[he]at this
  have:0<rows.length*sz:=Nat.mul_pos h0 (by omega)
  simp at *;omega
 ·have hjl:=(List.getElem?_eq_some_iff.1 hj).1
  rw[flat_len rows hl]at hjl
  have hq:j / sz<rows.length:=(Nat.div_lt_iff_lt_mul (by omega)).2 hjl
  obtain⟨b',off',e1,_,e3⟩:=r (j / sz) hq
  cases e1
  have hmod:j%sz<sz:=Nat.mod_lt _ (by omega)
  have hin:rows[j / sz][j%sz]?=some v:=by
   rw[← flat_drop rows (j / sz) hl hq]
   rw[List.getElem?_take_of_lt hmod,List.getElem?_drop]
   rw[show j / sz*sz+j%sz=j by rw[Nat.mul_comm];exact Nat.div_add_mod j sz]
   exact hj
  have:=cellAt_of e3 hin
  rw[show off+j / sz*sz+j%sz=off+j by rw[Nat.add_assoc];congr 1;rw[Nat.mul_comm];exact Nat.div_add_mod j sz]at this
  exact this
end
section
variable {E:Env}{fr:Fr}{h:Heap}{K:Value→Heap→Prop}{t:TypeId}
end
section
variable {E:Env}{fr:Fr}{h:Heap}{K:Value→Heap→Prop}{t:TypeId}
def arrOf (E:Env) (t:TypeId):Option (List Value×Nat):=match zero E t,und E t with
 | some z,some (.array _ e)=>(size E e).map (z.cells.toList,·)
 | _,_=>none
def bdaK (zs:List Value) (sz:Nat) (ps:List (Nat×Value)) (K:Value→Prop) [Tok K]:Prop:=onV (fillL (fun i=>some (i*sz,sz)) zs ps) fun l=>K (.agg ⟨l⟩)
theorem opW_buildA {zs:List Value}{sz:Nat}{ps:List (Nat×Operand)}(hp:arrOf E t=some (zs,sz)):opW E (.build t ⟨ps⟩) fr h K=evpK E fr ps fun l=>bdaK zs sz l fun u=>K u h:=by
 unfold arrOf at hp
 split at hp
 · rename_i z n e hz hu
   simp only[Option.map_eq_some_iff,Prod.mk.injEq]at hp
   obtain⟨p,hp,rfl,rfl⟩:=hp
   rw[opW_pure rfl (by simp)]
   simp only[pureOp,operOf,evp,evpK,onV,bdaK]
   cases mapOpt (fun (p:Nat×Operand)=>(ev E fr p.2).map (p.1,·)) ps with
   | none=>simp
   | some l =>
     simp only[abuild,hz,hu,hp,Option.some.injEq,exists_eq_left']
     generalize fillL (fun i=>some (i*p,p)) z.cells.toList l=r
     cases r<;>simp
 · cases hp
theorem bda_of {zs l:List Value}{sz:Nat}{ps:List (Nat×Value)}{K:Value→Prop}(hf:fillL (fun i=>some (i*sz,sz)) zs ps=some l) (k:K (.agg ⟨l⟩)):bdaK zs sz ps K:=by
 unfold bdaK;rw[hf,onV_some'];exact k
end
section
variable {E:Env}{nt:Nat}{rd:Option Nat}{fr:Fr}{h:Heap}{K:Value→Heap→Prop}{x y z:Operand}{t t':TypeId}
def maxK (a b:Value) (K:Value→Prop) [Tok K]:Prop:=onV (amax2 true a b) K
theorem opW_max:opW E (.call ⟨.builtin .max,⟨[x,y]⟩,⟨[t,t']⟩⟩) fr h K=evK E fr x fun a=>evK E fr y fun b=>maxK a b fun u=>K u h:=by
 simp only[opW,opBy,valOp,flOp,qcall,operOf,kindOf,pureOp,evs,mapOpt,evK,onR_map,onV,maxK]
 cases ev E fr x with
 | none=>simp
 | some a =>
   cases ev E fr y with
   | none=>simp
   | some b =>
     simp only[Option.some.injEq,exists_eq_left',afold]
     cases amax2 true a b<;>simp
theorem max_int {k k':IntKind}{a b:Int}{K:Value→Prop}:maxK (.int k a) (.int k' b) K=K (.int k (max a b)):=by
 simp only[maxK,amax2,cond_true,onV_some']
 rw[Int.max_def]
 by_cases hl:a<b
 ·rw[if_pos hl,if_pos (by omega)]
 ·by_cases he:a=b
  ·subst he;simp
  ·rw[if_neg (by omega),if_neg (by omega)]
theorem slice_fromToU {sz:Nat}{a:Option Addr}{n:Nat}{k k':IntKind}{i j:Int}{K:Value→Prop}(hs:slzOf E t=some sz) (hz:sz≠0) (h0:0≤i) (h1:i<j) (h2:j≤n)
   (q:∀ c,K (.slice (a.map (·.add (i.toNat*sz))) (j-i).toNat c)):sliceVK E t (.slice a n UNK) (some (.int k i)) (some (.int k' j)) none K:=by
 unfold slzOf at hs
 split at hs
 · rename_i e hu
   obtain⟨i,rfl⟩:=Int.eq_ofNat_of_zero_le h0
   obtain⟨j,rfl⟩:=Int.eq_ofNat_of_zero_le (show 0≤j by omega)
   have f1:Nat.beq UNK UNK2=false:=rfl
   have f2:Nat.beq UNK UNK=true:=Nat.beq_refl _
   have bd:∀ (k:IntKind) (p q:Nat),p≤q→bound (.int k (p:Int)) q=some p:=fun k p q hpq=>by
     have:(decide ((0:Int)≤(p:Int))&&decide ((p:Int)≤(q:Int)))=true:=by
       simp only[Bool.and_eq_true,decide_eq_true_eq];omega
     simp only[bound,this,cond_true,Int.toNat_natCast]
   have hab:abounds n n (some (.int k (i:Int))) (some (.int k' (j:Int))) none=some (i,j,n):=by
     simp only[abounds,aboundsM,bd k' j n (by omega),aboundsL,bd k i j (by omega)]
   have hil:Nat.beq i n=false:=by
     cases hh:Nat.beq i n with
     | false=>rfl
     | true=>have:=Nat.eq_of_beq_eq_true hh;omega
   obtain⟨s,rfl⟩:=Nat.exists_eq_succ_of_ne_zero hz
   simp only[sliceVK,asliceS,hu,f1,f2,cond_false,cond_true,hab,hs]
   cases hi0:Nat.beq i 0 with
   | false =>
     simp only[hil,cond_false,onV_some']
     have:=q UNK
     simpa[show ((j:Int)-(i:Int)).toNat=j-i by omega]using this
   | true =>
     have:i=0:=Nat.eq_of_beq_eq_true hi0
     subst this
     simp only[cond_true,onV_some']
     have:=q UNK
     cases a with
     | none=>simpa using this
     | some a=>simpa[Addr.add]using this
 · cases hs
end
open Go.RowKit
inductive Leaf where
 | int (k:IntKind)
 | flt (k:FloatKind)
 | bool
 | str
 | slc (e:TypeId)
def flatFs (g:TypeId→Option (List Leaf)) (sz:TypeId→Nat):List Field→Nat→Option (List Leaf)
 | [],_=>some []
 | f::fs,off=>match g f.type with
   | some l=>cond (Nat.beq f.offset off&&Nat.beq (sz f.type) l.length) ((flatFs g sz fs (off+l.length)).map (l++·)) none
   | none=>none
def flat (P:Program):Nat→TypeId→Option (List Leaf)
 | 0,_=>none
 | n+1,t=>match P.underlying t with
   | some (.int k)=>some [.int k]
   | some (.float k)=>some [.flt k]
   | some .bool=>some [.bool]
   | some .string=>some [.str]
   | some (.slice e)=>cond (Nat.blt 0 (P.cellsOf e)) (some [.slc e]) none
   | some (.array m e)=>match flat P n e with
     | some l=>cond (Nat.beq (P.cellsOf e) l.length&&Nat.beq (P.cellsOf t) (m*l.length)&&Nat.blt 0 l.length) (some (rep m l)) none
     | none=>none
   | some (.struct fs)=>match flatFs (flat P n) P.cellsOf fs.toList 0 with
     | some l=>cond (Nat.beq (P.cellsOf t) l.length) (some l) none
     | none=>none
   | _=>none
section
variable {H:Type}{enc:TypeId×Value→H}{P:Program}{W:World}
def WT (P:Program) (t:TypeId) (d:DataW H):Prop:=∀ n∈d.weights P t,n≤reachBytes
theorem weightsAll_mem {e:TypeId}{n:Nat}:∀ {l:List (DataW H)}{d:DataW H},d∈l→n∈d.weights P e→n∈DataW.weightsAll P e l
 | d0::l,d,hd,hn=>by
   simp only[DataW.weightsAll,List.mem_append]
   rcases List.mem_cons.1 hd with rfl|hd
   · exact .inl hn
   · exact .inr (weightsAll_mem hd hn)
 | [],_,hd,_=>by cases hd
theorem WT.of {ts:List TypeId}{ds:List (DataW H)}(h:(DataW.weightsEach P ts ds).all (·≤reachBytes)=true) {j:Nat}{t:TypeId}{d:DataW H}(ht:ts[j]?=some t) (hd:ds[j]?=some d):WT P t d:=fun n hn=>by
 simpa using List.all_eq_true.1 h _ (DataW.weights_mem_each ht hd n hn)
def SliceOK (enc:TypeId×Value→H) (P:Program) (W:World) (e:TypeId) (v:Value):Prop :=
 v=.slice none 0 0∨∃ a len cap,v=.slice (some a) len cap∧len≤cap∧cap≤maxLen∧0<P.cellsOf e∧cap*P.bytesOf e≤reachBytes∧∀ i,i<cap→∃ cs fuel x,W.cells? 0 (a.add (i*P.cellsOf e)) (P.cellsOf e)=some cs∧DataW.trod enc P W 0 (fun _=>true) true fuel e cs=some x∧WT P e x.1
def LeafOK (enc:TypeId×Value→H) (P:Program) (W:World):Leaf→Value→Prop
 | .int k,v=>∃ n,v=.int k n∧(Lit.int k n).wf=true
 | .flt k,v=>∃ n,v=.float k n∧(Lit.float k n).wf=true
 | .bool,v=>∃ b,v=.bool b
 | .str,v=>∃ s,v=.string s∧s.size≤maxLen
 | .slc e,v=>SliceOK enc P W e v
def Leafs (R:Leaf→Value→Prop) (ls:List Leaf) (vs:List Value):Prop:=vs.length=ls.length∧∀ (i:Nat) (l:Leaf) (v:Value),ls[i]?=some l→vs[i]?=some v→R l v
theorem Leafs.one {R:Leaf→Value→Prop}{l:Leaf}{v:Value}(h:R l v):Leafs R [l] [v]:=⟨rfl,fun i l' v' h1 h2=>by
 cases i with
 | zero=>simp at h1 h2;subst h1 h2;exact h
 | succ i=>simp at h1⟩
theorem Leafs.append {R:Leaf→Value→Prop}{l1 l2:List Leaf}{v1 v2:List Value}(a:Leafs R l1 v1) (b:Leafs R l2 v2):Leafs R (l1++l2) (v1++v2):=⟨by simp[a.1,b.1],fun i l v h1 h2=>by
 rw[List.getElem?_append]at h1 h2
 by_cases hi:i<l1.length
 ·rw[if_pos hi]at h1;rw[if_pos (by rw[a.1];exact hi)]at h2;exact a.2 i l v h1 h2
 ·rw[if_neg hi]at h1;rw[if_neg (by rw[a.1];exact hi),a.1]at h2;exact b.2 _ l v h1 h2⟩
theorem flatFs_ok {R:Leaf→Value→Prop}{g:TypeId→Option (List Leaf)}{sz:TypeId→Nat}{cs:List Value}:∀ (fs:List Field) (off:Nat) (ls:List Leaf),flatFs g sz fs off=some ls →
   (∀ f∈fs,∀ l,g f.type=some l→Leafs R l ((cs.drop f.offset).take (sz f.type)))→Leafs R ls ((cs.drop off).take ls.length)
 | [],off,ls,h,_=>by simp only[flatFs,Option.some.injEq]at h;subst h;exact⟨by simp,fun i l v h1 _=>by simp at h1⟩
 | f::fs,off,ls,h,hf=>by
   simp only[flatFs]at h
   split at h
   · rename_i l hl
     cases hc:(Nat.beq f.offset off&&Nat.beq (sz f.type) l.length) with
     | false=>rw[hc]at h;cases h
     | true =>
       rw[hc]at h
       simp only[cond_true,Option.map_eq_some_iff]at h
       obtain⟨l2,h2,rfl⟩:=h
       simp only[Bool.and_eq_true]at hc
       have e1:=Nat.eq_of_beq_eq_true hc.1
       have e2:=Nat.eq_of_beq_eq_true hc.2
       have h1:=hf f (List.mem_cons_self ..) l hl
       have h3:=flatFs_ok fs _ l2 h2 fun f' hm=>hf f' (List.mem_cons_of_mem _ hm)
       rw[e1,e2]at h1
       have:=h1.append h3
       rw[List.length_append,List.take_add,List.drop_drop]
       exact this
   · cases h
theorem leafs_rep {R:Leaf→Value→Prop}{l:List Leaf}:∀ (m:Nat) (cs:List Value),cs.length=m*l.length→(∀ i,i<m→Leafs R l ((cs.drop (i*l.length)).take l.length))→Leafs R (rep m l) cs
 | 0,cs,hl,_=>by
   have:cs=[]:=List.length_eq_zero_iff.1 (by omega)
   subst this
   exact⟨rfl,fun i l' v h1 _=>by simp[rep]at h1⟩
 | m+1,cs,hl,h=>by
   rw[Nat.add_mul,Nat.one_mul]at hl
   have h0:=h 0 (by omega)
   rw[Nat.zero_mul,List.drop_zero]at h0
   have h1:=leafs_rep (R:=R) (l:=l) m (cs.drop l.length) (by rw[List.length_drop];omega) fun i hi=>by
     have:=h (i+1) (by omega)
     rw[List.drop_drop,show l.length+i*l.length=(i+1)*l.length by rw[Nat.add_mul];omega]
     exact this
   have:=h0.append h1
   rw[List.take_append_drop]at this
   exact this
theorem flat_ok:∀ (n:Nat) (t:TypeId) (ls:List Leaf) (fuel:Nat) (cs:List Value) (x:DataW H×List MemPlace),flat P n t=some ls→DataW.trod enc P W 0 (fun _=>true) true fuel t cs=some x→WT P t x.1→Leafs (LeafOK enc P W) ls cs
 | 0,_,_,_,_,_,h,_,_=>by simp[flat]at h
 | n+1,t,ls,fuel,cs,x,h,hd,hw=>by
   simp only[flat]at h
   cases hu:P.underlying t with
   | none=>rw[hu]at h;cases h
   | some d =>
     rw[hu]at h
     cases d with
     | int k =>
       simp only[Option.some.injEq]at h;subst h
       obtain⟨m,rfl,_,hw2⟩:=DataW.trod_int hu hd
       exact .one ⟨m,rfl,hw2⟩
     | float k =>
       simp only[Option.some.injEq]at h;subst h
       cases fuel with
       | zero=>simp[DataW.trod]at hd
       | succ f =>
         unfold DataW.trod at hd
         rw[hu]at hd
         split at hd<;>simp_all
         exact .one ⟨_,rfl,hd.1.2⟩
     | bool =>
       simp only[Option.some.injEq]at h;subst h
       cases fuel with
       | zero=>simp[DataW.trod]at hd
       | succ f =>
         unfold DataW.trod at hd
         rw[hu]at hd
         split at hd<;>simp_all
         exact .one ⟨_,rfl⟩
     | string =>
       simp only[Option.some.injEq]at h;subst h
       obtain⟨s,rfl,_,hw2⟩:=DataW.trod_string hu hd
       exact .one ⟨s,rfl,hw2⟩
     | slice e =>
       simp only at h
       cases hp:Nat.blt 0 (P.cellsOf e) with
       | false=>rw[hp]at h;cases h
       | true =>
         rw[hp]at h
         simp only[cond_true,Option.some.injEq]at h;subst h
         rw[blt_eq,decide_eq_true_eq]at hp
         rcases DataW.trod_slice hu hd with ⟨rfl,_⟩|⟨a,len,cap,elems,rest,m,_,rfl,hx,_,h1,h2,h3,h4,h5,_⟩
         · exact .one (.inl rfl)
         · obtain⟨h6,h7⟩:=h5 rfl
           subst hx
           have wall:∀ y,y∈elems∨y∈rest→WT P e y.1:=fun y hy k hk=>hw k (by
             simp only[DataW.weights,hu,List.mem_cons,List.mem_append]
             rcases hy with hy|hy
             · exact .inr (.inl (weightsAll_mem (List.mem_map.2 ⟨y,hy,rfl⟩) hk))
             · exact .inr (.inr (weightsAll_mem (List.mem_map.2 ⟨y,hy,rfl⟩) hk)))
           refine .one (.inr ⟨a,len,cap,rfl,h1,h2,hp,?_,fun i hi=>?_⟩)
           · refine hw _ ?_
             simp only[DataW.weights,hu,List.mem_cons,List.length_map]
             left;rw[show elems.length+rest.length=cap by omega]
           by_cases hil:i<len
           · have:=h4 i hil
             rw[List.getElem?_eq_getElem (by omega),Option.bind_eq_some_iff]at this
             obtain⟨cs,c1,c2⟩:=this
             exact⟨cs,m,_,c1,c2,wall _ (.inl (List.getElem_mem _))⟩
           · have:=h7 (i-len) (by omega)
             rw[List.getElem?_eq_getElem (by omega),Option.bind_eq_some_iff,show len+(i-len)=i by omega]at this
             obtain⟨cs,c1,c2⟩:=this
             exact⟨cs,m,_,c1,c2,wall _ (.inr (List.getElem_mem _))⟩
     | array m e =>
       simp only at h
       split at h
       · rename_i l hl
         cases hb:(Nat.beq (P.cellsOf e) l.length&&Nat.beq (P.cellsOf t) (m*l.length)&&Nat.blt 0 l.length) with
         | false=>rw[hb]at h;cases h
         | true =>
           rw[hb]at h
           simp only[cond_true,Option.some.injEq]at h;subst h
           simp only[Bool.and_eq_true]at hb
           have h1:=Nat.eq_of_beq_eq_true hb.1.1
           have h2:=Nat.eq_of_beq_eq_true hb.1.2
           obtain⟨xs,m',_,hx,hlen,hn,hel⟩:=DataW.trod_array hu hd
           subst hx
           refine leafs_rep m cs (by rw[hlen,h2]) fun i hi=>?_
           have:=hel i hi
           rw[List.getElem?_eq_getElem (by omega),h1]at this
           exact flat_ok n e l m' _ _ hl this fun k hk=>hw k (by
             simp only[DataW.weights,hu]
             exact weightsAll_mem (List.mem_map.2 ⟨_,List.getElem_mem _,rfl⟩) hk)
       · cases h
     | struct fs =>
       simp only at h
       split at h
       · rename_i l hl
         cases hb:Nat.beq (P.cellsOf t) l.length with
         | false=>rw[hb]at h;cases h
         | true =>
           rw[hb]at h
           simp only[cond_true,Option.some.injEq]at h;subst h
           have hlen:=Nat.eq_of_beq_eq_true hb
           obtain⟨xs,m,_,hx,h1,h2,h3⟩:=DataW.trod_struct hu hd
           subst hx
           have:=flatFs_ok (R:=LeafOK enc P W) (cs:=cs) fs.toList 0 l hl fun f hm lf hlf=>by
             obtain⟨i,hi,e⟩:=List.getElem_of_mem hm
             have:=h3 i f (by rw[← Array.getElem?_toList,List.getElem?_eq_getElem hi,e])
             rw[List.getElem?_eq_getElem (by rw[h2];simpa using hi)]at this
             exact flat_ok n f.type lf m _ _ hlf this fun k hk=>hw k (by
               simp only[DataW.weights,hu]
               refine DataW.weights_mem_each (j:=i) (t:=f.type) ?_ ?_ k hk
               · rw[List.getElem?_map,List.getElem?_eq_getElem hi,e];rfl
               · rw[List.getElem?_map,List.getElem?_eq_getElem (by rw[h2];simpa using hi)];rfl)
           rw[List.drop_zero,List.take_of_length_le (by omega)]at this
           exact this
       · cases h
     | _=>cases h
def SlF (a:Option Addr) (len cap:Nat):Prop:=(a=none∧len=0∧cap=0)∨(∃ b off,a=some ⟨b,off,none⟩)∧((len=0∧cap=UNK2)∨(len≤cap∧cap<UNK))
def LeafU (P:Program) (W:World):Nat→Leaf→Value→Prop
 | _,.int k,u=>∃ n,u=.int k n∧(Lit.int k n).wf=true
 | _,.flt k,u=>∃ n,u=.float k n∧(Lit.float k n).wf=true
 | _,.bool,u=>∃ b,u=.bool b
 | _,.str,u=>∃ s,u=.string s∧s.size≤maxLen
 | 0,.slc e,u=>∃ a len cap,u=.slice a len cap∧len*P.bytesOf e≤reachBytes∧SlF a len cap
 | d+1,.slc e,u=>∃ a len cap,u=.slice a len cap∧len*P.bytesOf e≤reachBytes∧SlF a len cap∧∀ n ls,flat P n e=some ls→P.cellsOf e=ls.length→∃ rows:List (List Value),rows.length=len∧RowAt W.heap.size (heapOf W) a ls.length rows∧∀ r∈rows,Leafs (LeafU P W d) ls r
theorem exists_rows {α:Type}{Q:Nat→α→Prop}:∀ (n:Nat),(∀ i,i<n→∃ r,Q i r)→∃ rows:List α,rows.length=n∧∀ i (h:i<rows.length),Q i rows[i]
 | 0,_=>⟨[],rfl,fun i h=>by simp at h⟩
 | n+1,h=>by
   obtain⟨rows,h1,h2⟩:=exists_rows n fun i hi=>h i (Nat.lt_succ_of_lt hi)
   obtain⟨r,hr⟩:=h n (Nat.lt_succ_self n)
   refine⟨rows++[r],by simp[h1],fun i hi=>?_⟩
   rw[List.getElem_append]
   by_cases hlt:i<rows.length
   · rw[dif_pos hlt];exact h2 i hlt
   · rw[dif_neg hlt]
     have:i=n:=by simp at hi;omega
     subst this
     simpa using hr
theorem cell_lt {a:Addr}{v:Value}(h:W.cell? a=some v):a.block<W.heap.size∧a.spot=none:=by
 unfold World.cell? at h
 split at h
 ·rename_i c e f hb
  refine⟨(Array.getElem?_eq_some_iff.1 hb).1,?_⟩
  cases hs:a.spot with
  | none=>rfl
  | some s=>rw[hs]at h;simp at h
 ·cases h
theorem add0 (a:Addr):a.add 0=a:=by simp[Addr.add]
theorem leaf_abs:∀ (d:Nat) (l:Leaf) (v:Value),LeafOK enc P W l v→∃ u,absV W.heap.size v=some u∧LeafU P W d l u:=by
 intro d
 induction d with
 | zero =>
   intro l v h
   cases l with
   | int k=>obtain⟨n,rfl,hw⟩:=h;exact⟨_,rfl,n,rfl,hw⟩
   | flt k=>obtain⟨n,rfl,hw⟩:=h;exact⟨_,rfl,n,rfl,hw⟩
   | bool=>obtain⟨b,rfl⟩:=h;exact⟨_,rfl,b,rfl⟩
   | str=>obtain⟨s,rfl,hw⟩:=h;exact⟨_,rfl,s,rfl,hw⟩
   | slc e =>
     rcases h with rfl|⟨a,len,cap,rfl,h1,h2,h3,hwt,h4⟩
     · exact⟨_,rfl,none,0,0,rfl,(by rw[Nat.zero_mul];exact Nat.zero_le _),.inl ⟨rfl,rfl,rfl⟩⟩
     · by_cases h0:len=0∧cap=0
       · obtain⟨rfl,rfl⟩:=h0
         exact⟨_,rfl,_,_,_,rfl,(by rw[Nat.zero_mul];exact Nat.zero_le _),.inr ⟨⟨_,_,rfl⟩,.inl ⟨rfl,rfl⟩⟩⟩
       · obtain⟨cs,f,x,c1,_,_⟩:=h4 0 (by omega)
         obtain⟨_,c2,c3⟩:=World.cells?_some c1
         have c4:=c3 0 h3
         rw[List.getElem?_eq_getElem (by omega)]at c4
         rw[Nat.zero_mul,add0,add0]at c4
         obtain⟨c5,c6⟩:=cell_lt c4
         have hc:cap<UNK:=by unfold UNK;unfold maxLen at h2;omega
         refine⟨.slice (some a) len cap,?_,_,_,_,rfl,(Nat.le_trans (Nat.mul_le_mul_right _ h1) hwt),.inr ⟨⟨a.block,a.off,by rw[← c6]⟩,.inr ⟨h1,hc⟩⟩⟩
         have hk:okV0 W.heap.size (.slice (some a) len cap)=true:=by simp[okV0,c6,blt_eq,c5,hc]
         unfold absV
         split
         · rename_i e1;cases e1;exact absurd ⟨rfl,rfl⟩ h0
         · rw[hk];rfl
 | succ d ih =>
   intro l v h
   cases l with
   | int k=>obtain⟨n,rfl,hw⟩:=h;exact⟨_,rfl,n,rfl,hw⟩
   | flt k=>obtain⟨n,rfl,hw⟩:=h;exact⟨_,rfl,n,rfl,hw⟩
   | bool=>obtain⟨b,rfl⟩:=h;exact⟨_,rfl,b,rfl⟩
   | str=>obtain⟨s,rfl,hw⟩:=h;exact⟨_,rfl,s,rfl,hw⟩
   | slc e =>
     rcases h with rfl|⟨a,len,cap,rfl,h1,h2,h3,hwt,h4⟩
     · exact⟨_,rfl,none,0,0,rfl,(by rw[Nat.zero_mul];exact Nat.zero_le _),.inl ⟨rfl,rfl,rfl⟩,fun n ls _ _=>⟨[],rfl,fun i hi=>by simp at hi,fun r hr=>by simp at hr⟩⟩
     · by_cases h0:len=0∧cap=0
       · obtain⟨rfl,rfl⟩:=h0
         exact⟨_,rfl,_,_,_,rfl,(by rw[Nat.zero_mul];exact Nat.zero_le _),.inr ⟨⟨_,_,rfl⟩,.inl ⟨rfl,rfl⟩⟩,fun n ls _ _=>⟨[],rfl,fun i hi=>by simp at hi,fun r hr=>by simp at hr⟩⟩
       · have hblk:a.block<W.heap.size∧a.spot=none:=by
           obtain⟨cs,f,x,c1,_,_⟩:=h4 0 (by omega)
           obtain⟨_,c2,c3⟩:=World.cells?_some c1
           have c4:=c3 0 h3
           rw[List.getElem?_eq_getElem (by omega)]at c4
           rw[Nat.zero_mul,add0,add0]at c4
           exact cell_lt c4
         obtain⟨c5,c6⟩:=hblk
         have hc:cap<UNK:=by unfold UNK;unfold maxLen at h2;omega
         refine⟨.slice (some a) len cap,?_,_,_,_,rfl,(Nat.le_trans (Nat.mul_le_mul_right _ h1) hwt),.inr ⟨⟨a.block,a.off,by rw[← c6]⟩,.inr ⟨h1,hc⟩⟩,fun n ls hf hl=>?_⟩
         · have hc:=hc
           have hk:okV0 W.heap.size (.slice (some a) len cap)=true:=by simp[okV0,c6,blt_eq,c5,hc]
           unfold absV
           split
           · rename_i e1;cases e1;exact absurd ⟨rfl,rfl⟩ h0
           · rw[hk];rfl
         · obtain⟨b,off,spot⟩:=a
           simp only at c5 c6
           subst c6
           have each:∀ i,i<len→∃ row:List Value,cellsAt (heapOf W) ⟨b,off+i*ls.length,none⟩ ls.length=some row∧Leafs (LeafU P W d) ls row:=by
             intro i hi
             obtain⟨cs,f,x,c1,c2,c3⟩:=h4 i (by omega)
             have hlf:=flat_ok n e ls f cs x hf c2 c3
             obtain⟨_,k2,k3⟩:=World.cells?_some c1
             obtain⟨row,r1,r2⟩:=exists_rows (Q:=fun j u=>∃ l v,ls[j]?=some l∧cs[j]?=some v∧absV W.heap.size v=some u∧LeafU P W d l u) ls.length fun j hj=>by
               have e1:ls[j]?=some (ls[j]):=List.getElem?_eq_getElem hj
               have e2:cs[j]?=some (cs[j]'(by have:=hlf.1;omega)):=List.getElem?_eq_getElem _
               obtain⟨u,u1,u2⟩:=ih _ _ (hlf.2 j _ _ e1 e2)
               exact⟨u,_,_,e1,e2,u1,u2⟩
             refine⟨row,?_,r1,fun j l u hl' hu=>?_⟩
             · rw[← r1]
               refine heapOf_cells row _ fun j u hu=>?_
               have hj:=(List.getElem?_eq_some_iff.1 hu).1
               obtain⟨l,v,e1,e2,e3,_⟩:=r2 j hj
               rw[(List.getElem?_eq_some_iff.1 hu).2]at e3
               refine⟨v,?_,e3⟩
               have:=k3 j (by rw[hl,← r1];exact hj)
               rw[e2]at this
               rw[hl,Addr.add_lit,Addr.add_lit]at this
               rw[r1]
               exact this
             · have hj:=(List.getElem?_eq_some_iff.1 hu).1
               obtain⟨l2,v,e1,_,_,e4⟩:=r2 j hj
               rw[(List.getElem?_eq_some_iff.1 hu).2]at e4
               rw[hl']at e1
               cases e1
               exact e4
           obtain⟨rows,r1,r2⟩:=exists_rows len each
           refine⟨rows,r1,fun i hi=>⟨b,off,rfl,c5,(r2 i hi).1⟩,fun r hr=>?_⟩
           obtain⟨i,hi,rfl⟩:=List.getElem_of_mem hr
           exact(r2 i hi).2
theorem arg_abs {t:TypeId}{v:Value}{d:DataW H}{ps:List MemPlace}{n:Nat}{ls:List Leaf}(hf:flat P n t=some ls) (h:DataW.Trod enc P W 0 (fun _=>true) true t v d ps) (hw:WT P t d) (depth:Nat) :
  ∃ us:List Value,Leafs (LeafU P W depth) ls us∧VRL (renB W.heap.size) us v.cells.toList:=by
 obtain⟨fuel,hd⟩:=h
 have hlf:=flat_ok n t ls fuel _ _ hf hd hw
 obtain⟨us,r1,r2⟩:=exists_rows (Q:=fun j u=>∃ l v',ls[j]?=some l∧v.cells.toList[j]?=some v'∧absV W.heap.size v'=some u∧LeafU P W depth l u) ls.length fun j hj=>by
  have e1:ls[j]?=some (ls[j]):=List.getElem?_eq_getElem hj
  have e2:v.cells.toList[j]?=some (v.cells.toList[j]'(by have:=hlf.1;omega)):=List.getElem?_eq_getElem _
  obtain⟨u,u1,u2⟩:=leaf_abs depth _ _ (hlf.2 j _ _ e1 e2)
  exact⟨u,_,_,e1,e2,u1,u2⟩
 refine⟨us,⟨r1,fun j l u hl' hu=>?_⟩,VRL.of_get (by rw[r1,hlf.1]) fun j u hu=>?_⟩
 ·have hj:=(List.getElem?_eq_some_iff.1 hu).1
  obtain⟨l2,v,e1,_,_,e4⟩:=r2 j hj
  rw[(List.getElem?_eq_some_iff.1 hu).2]at e4
  rw[hl']at e1
  cases e1
  exact e4
 ·have hj:=(List.getElem?_eq_some_iff.1 hu).1
  obtain⟨l2,v',_,e2,e3,_⟩:=r2 j hj
  rw[(List.getElem?_eq_some_iff.1 hu).2]at e3
  exact⟨v',e2,absV_ok e3⟩
theorem trodAll_below (hl:laidOutB P=true) {W':World}(hb:Below W.heap.size W W'):∀ {ts:List TypeId}{vs:List Value}{ds:List (DataW H)}{ps:List MemPlace},(ts.all fun t=>P.readableRec t&&decide (t<P.types.size))=true →
   DataW.TrodAll enc P W 0 (fun _=>true) true ts vs ds ps→(∀ x∈ps,x.block<W.heap.size)→DataW.TrodAll enc P W' 0 (fun b=>decide (b<W.heap.size)) true ts vs ds ps
 | [],[],[],ps,_,h,_=>h
 | t::ts,v::vs,d::ds,ps,ht,h,hlt=>by
   simp only[List.all_cons,Bool.and_eq_true,decide_eq_true_eq]at ht
   obtain⟨p,q,h1,h2,rfl⟩:=h
   exact⟨p,q,Below.trod hl ht.1.1 ht.1.2 h1 hb (fun x hx=>hlt x (List.mem_append_left _ hx)),trodAll_below hl hb ht.2 h2 (fun x hx=>hlt x (List.mem_append_right _ hx)),rfl⟩
 | [],_::_,_,_,_,h,_=>h.elim
 | [],[],_::_,_,_,h,_=>h.elim
 | _::_,[],_,_,_,h,_=>h.elim
 | _::_,_::_,[],_,_,h,_=>h.elim
theorem post_law (hl:laidOutB P=true) {f:Func}{s:ChangeSpec}{apart fresh handsOn:Bool}{W':World}{args:Array Value}{v:Value}{ds gs:List (DataW H)}{before pargs pvars:List MemPlace}
  (hW:DataW.Whole enc P f.params.toList s.vars apart W args.toList ds gs before)
  (hA:DataW.TrodAll enc P W 0 (fun _=>true) true f.params.toList args.toList ds pargs) (hV:DataW.TrodVars enc P W (fun _=>true) s.vars gs pvars) (hp:before=pargs++pvars)
  (hts:(f.params.toList.all fun t=>P.readableRec t&&decide (t<P.types.size))=true) (hvr:varsRowed P s.vars=true)
  (hres:∀ (b:Nat) (sp:Nat→Bool) (hd:Bool),DataW.TrodAll enc P W' b sp hd f.resultTypes.toList (v.resultList f.resultTypes.size) (s.fn H (ds++gs)).results [])
  (hfa:(s.fn H (ds++gs)).args=ds) (hfv:(s.fn H (ds++gs)).vars=gs)
  (hb:Below W.heap.size W W'):s.post enc P f apart fresh handsOn false W args v W':=by
 have hlt:∀ x∈before,x.block<W.heap.size:=fun p hp=>hW.lt p hp
 subst hp
 refine⟨ds,gs,pargs++pvars,[],pargs,pvars,hW,hres _ _ _,?_,?_,hb.frame _,fun h=>by cases h⟩
 ·rw[hfa];exact trodAll_below hl hb hts hA fun x hx=>hlt x (List.mem_append_left _ hx)
 ·rw[hfv];exact Below.trodVars hl hb hvr hV
end
open Go.RowKit
section
variable {E:Env}{fr:Fr}{h:Heap}{K:Value→Heap→Prop}{x y:Operand}{t t':TypeId}{c:Bool}{v w:Value}{J:Value→Prop}
def fltT (E:Env) (t:TypeId):Bool:=match und E t with|some (.float .f64)=>true|_=>false
end
abbrev ExtT:=FuncId→List Value→Heap→Option (Option (Value×Heap))
def extFl (fb ff:FuncId) (base:ExtT) (f:FuncId) (args:List Value) (h:Heap):Option (Option (Value×Heap)) :=
 cond (Nat.beq f fb) (match args with|[.float .f64 n]=>some (some (.int .u64 n,h))|_=>some none)
  (cond (Nat.beq f ff) (match args with|[.int .u64 n]=>some (some (.float .f64 n.toNat,h))|_=>some none) (base f args h))
section
variable {P:Program}
def rowOk (g:Nat→Option Value):Nat→List Value→Bool
 | _,[]=>true
 | i,v::l=>(match g i with|some u=>sameV 5 u v|none=>false)&&rowOk g (i+1) l
def tabsOk (tabs:List (Nat×List Value)) (h:Heap):Bool:=tabs.all fun p=>match h.b.get p.1 with|some (.ro g)=>rowOk g 0 p.2|_=>false
def extTab (tabs:List (Nat×List Value)) (base:ExtT) (k:FuncId) (f:FuncId) (args:List Value) (h:Heap):Option (Option (Value×Heap)) :=
 cond (Nat.beq f k) (match args with|[]=>cond (tabsOk tabs h) (some (some (.bool true,h))) (some none)|_=>some none) (base f args h)
theorem VR.const0_eq {ρ:Ren}:∀ {v u:Value},constOk0 v=true→VR ρ v u→u=v:=by
 intro v u h r
 cases r<;>first|rfl|(simp[constOk0]at h)
theorem rowOk_get {g:Nat→Option Value}:∀ {l:List Value}{i:Nat},rowOk g i l=true→∀ j v,l[j]?=some v→g (i+j)=some v
 | [],i,_,j,v,e=>by simp at e
 | u::l,i,h,j,v,e=>by
   simp only[rowOk,Bool.and_eq_true]at h
   cases j with
   | zero =>
     simp only[List.getElem?_cons_zero,Option.some.injEq]at e
     subst e
     have h:=h.1
     split at h
     · rename_i u' hu;rw[Nat.add_zero,hu,sameV_eq _ _ _ h]
     · cases h
   | succ j =>
     simp only[List.getElem?_cons_succ]at e
     have:=rowOk_get h.2 j v e
     rw[show i+(j+1)=i+1+j by omega];exact this
theorem rowOk_of {g:Nat→Option Value}(hs:∀ v:Value,constOk0 v=true→sameV 5 v v=true):∀ {l:List Value}{i:Nat},(∀ j v,l[j]?=some v→g (i+j)=some v)→l.all constOk0=true→rowOk g i l=true
 | [],i,_,_=>rfl
 | u::l,i,h,hc=>by
   simp only[List.all_cons,Bool.and_eq_true]at hc
   simp only[rowOk,Bool.and_eq_true]
   refine⟨?_,rowOk_of hs (fun j v e=>by have:=h (j+1) v (by simpa using e);rw[show i+1+j=i+(j+1) by omega];exact this) hc.2⟩
   have:=h 0 u rfl
   rw[Nat.add_zero]at this
   rw[this];exact hs u hc.1
def TabW (tabs:List (Nat×List Value)) (ng:Nat) (w:World):Prop :=
 ng≤w.heap.size∧∀ p∈tabs,p.1<ng∧∀ (j:Nat) (v:Value),p.2[j]?=some v→∃ (xs:Array Value) (el:TypeId) (f:Nat×Nat),w.heap[p.1]?=some (.cells xs el f)∧xs[j]?=some v
def heap0 (tabs:List (Nat×List Value)) (ng:Nat):Heap:={ n:=ng,b:=tabs.foldl (fun t p=>t.set p.1 (.ro fun i=>nth p.2 i)) (T.ofList (List.replicate ng .dead)) }
theorem heap0_get {tabs:List (Nat×List Value)}{ng i:Nat}(hi:i<ng):(heap0 tabs ng).b.get i=some .dead∨∃ p∈tabs,p.1=i∧(heap0 tabs ng).b.get i=some (.ro fun j=>nth p.2 j):=by
 have key:∀ (l:List (Nat×List Value)) (t:T Blk),(t.get i=some .dead∨∃ p∈tabs,p.1=i∧t.get i=some (.ro fun j=>nth p.2 j))→(∀ p∈l,p∈tabs) →
     ((l.foldl (fun t p=>t.set p.1 (.ro fun i=>nth p.2 i)) t).get i=some .dead∨∃ p∈tabs,p.1=i∧(l.foldl (fun t p=>t.set p.1 (.ro fun i=>nth p.2 i)) t).get i=some (.ro fun j=>nth p.2 j)):=by
   intro l
   induction l with
   | nil=>intro t h _;exact h
   | cons q l ih =>
     intro t h hm
     refine ih _ ?_ (fun p hp=>hm p (List.mem_cons_of_mem _ hp))
     rw[T.get_set]
     by_cases hq:q.1=i
     · rw[if_pos hq];exact .inr ⟨q,hm q List.mem_cons_self,hq,rfl⟩
     · rw[if_neg hq];exact h
 refine key tabs _ (.inl ?_) (fun p hp=>hp)
 rw[T.get_ofList,List.getElem?_replicate,if_pos hi]
theorem heap0_hr {tabs:List (Nat×List Value)}{ng:Nat}{w:World}(ht:TabW tabs ng w) (hc:∀ p∈tabs,p.2.all constOk0=true):HR P (renB ng) (heap0 tabs ng) w where
 dom i b c e:=by
  unfold renB at e
  by_cases h:i<ng
  ·rw[if_pos h]at e;cases e;exact⟨h,Nat.lt_of_lt_of_le h ht.1⟩
  ·rw[if_neg h]at e;cases e
 blk i b c e:=by
  unfold renB at e
  by_cases h:i<ng
  ·rw[if_pos h]at e;cases e
   have hlt:i<w.heap.size:=Nat.lt_of_lt_of_le h ht.1
   rcases heap0_get (tabs:=tabs) h with hd|⟨p,hp,hpi,hd⟩
   ·exact⟨_,_,hd,Array.getElem?_eq_getElem hlt,.dead _⟩
   ·refine⟨_,_,hd,Array.getElem?_eq_getElem hlt,.ro _ _ fun j v e=>?_⟩
    rw[nth_eq]at e
    obtain⟨xs,el,f,e1,e2⟩:=(ht.2 p hp).2 j v e
    rw[hpi,Array.getElem?_eq_getElem hlt]at e1
    have hv:constOk0 v=true:=List.all_eq_true.1 (hc p hp) v (List.mem_of_getElem? e)
    exact⟨xs,el,f,v,Option.some.inj e1,e2,VR.const0 _ hv⟩
  ·rw[if_neg h]at e;cases e
 inj i j b c d e1 e2 hne:=by
  unfold renB at e1 e2
  split at e1
  ·split at e2
   ·cases e1;cases e2;exact absurd rfl hne
   ·cases e2
  ·cases e1
theorem tab_calls {E:Env}(hE:EnvOK P E) (hx:ExtOK P E) (hn:NamesOK P) {tabs:List (Nat×List Value)}(hc:∀ p∈tabs,p.2.all constOk0=true) {d:Nat}{f:FuncId}{b:Bool}{h':Heap}(hext:E.ext f [] (heap0 tabs E.ng)=none)
  (e:callF E d (.func f) [] (heap0 tabs E.ng)=some (.bool b,h')) (w:World) (ht:TabW tabs E.ng w):Calls P f #[] w fun e w'=>e=.returned (.bool b)∧Below w.heap.size w w':=by
 refine(callF_calls hE hx hn hext e (heap0_hr ht hc) (fun g hlt=>⟨0,by simp only[renB];rw[if_pos hlt]⟩) .nil).mono fun e w' hh=>?_
 obtain⟨v',ρ',rfl,r,hs⟩:=hh
 cases r
 refine⟨rfl,hs.below fun i x e=>?_⟩
 unfold renB at e
 by_cases h:i<E.ng
 ·rcases heap0_get (tabs:=tabs) h with hd|⟨p,_,_,hd⟩
  ·exact .inl hd
  ·exact .inr (.inl ⟨_,hd⟩)
 ·rw[if_neg h]at e;cases e
theorem extTab_ok {ng k:Nat}{base:ExtT}(h0:ExtOK P (envOf P ng base)) {tabs:List (Nat×List Value)}(hlt:tabs.all (fun p=>Nat.blt p.1 ng)=true) (hc:∀ p∈tabs,p.2.all constOk0=true) {fn:Func}{c:Code}(hf:P.funcs[k]?=some fn) (hb:fn.body=some c) (hn:NamesOK P)
   (hk:∀ w:World,TabW tabs ng w→Calls P k #[] w fun e w'=>e=.returned (.bool true)∧Below w.heap.size w w'):ExtOK P (envOf P ng (extTab tabs base k)):=by
 intro f args h v h' e ρ w args' hr hg ra
 simp only[envOf,extTab,cond_beq]at e
 by_cases hfk:f=k
 · subst hfk
   rw[if_pos rfl]at e
   split at e
   · cases htb:tabsOk tabs h with
     | false=>rw[htb]at e;simp at e
     | true =>
       rw[htb]at e
       simp only[cond_true,Option.some.injEq,Prod.mk.injEq]at e
       obtain⟨rfl,rfl⟩:=e
       have hargs:args'=#[]:=by obtain ⟨l⟩:=args';simp only at ra;cases ra;rfl
       subst hargs
       have hw:TabW tabs ng w:=by
         refine⟨?_,fun p hp=>?_⟩
         · cases ng with
           | zero=>exact Nat.zero_le _
           | succ m =>
             obtain⟨c,e⟩:=hg m (by show m<m+1;omega)
             exact(hr.dom _ _ _ e).2
         · have hpn:p.1<ng:=by have:=List.all_eq_true.1 hlt p hp;simpa[blt_eq]using this
           refine⟨hpn,fun j v e=>?_⟩
           obtain⟨c,eg⟩:=hg p.1 hpn
           obtain⟨k,o,k1,k2,k3⟩:=hr.blk _ _ _ eg
           have ht:=List.all_eq_true.1 htb p hp
           simp only[k1]at ht
           cases k3 with
           | ro g _ hh =>
             have hrow:=rowOk_get (i:=0) ht j v e
             rw[Nat.zero_add]at hrow
             obtain⟨xs,el,f',v',e1,e2,r⟩:=hh j v hrow
             subst e1
             have hv:constOk0 v=true:=List.all_eq_true.1 (hc p hp) v (List.mem_of_getElem? e)
             have:v'=v:=VR.const0_eq hv r
             rw[this]at e2
             exact⟨xs,el,f',k2,e2⟩
           | _=>cases ht
       refine .inr (.inl ⟨f,#[],run_callFunc hf hn hb #[] w,(hk w hw).mono fun e w' hh=>?_⟩)
       obtain⟨rfl,hbl⟩:=hh
       exact⟨_,ρ,rfl,.bool _,Stp.of_below hr hbl⟩
   · simp at e
 · rw[if_neg hfk]at e
   exact h0 f args h v h' e ρ w args' hr hg ra
end
end Go.Ev
