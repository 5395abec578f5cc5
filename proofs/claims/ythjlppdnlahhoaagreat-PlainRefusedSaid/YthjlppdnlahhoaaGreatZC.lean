/- THE EVALUATOR: a deterministic reading of the program's code over an abstract heap, and that the model does what it says (3). Conditions: none beyond each theorem's own. -/
import Derived.Test.YthjlppdnlahhoaaGreatZB
import Derived.Calls
import Derived.Scope
import Derived.LoopN
import Derived.OrdersIn
import Derived.RangeFuncIn
import Derived.RangeFuncRecord
import Derived.RangeFuncCalls
set_option linter.unusedSimpArgs false
set_option linter.unusedVariables false
namespace Go.Ev
section
variable {P:Program}{E:Env}{ρ:Ren}{h:ak}{w:World}
def GR (E:Env) (ρ:Ren):Prop:=∀ g,g<E.ng→∃ c,ρ g=some (g,c)
theorem GR.mono {ρ':Ren}(hg:GR E ρ) (hle:ρ.le ρ'):GR E ρ':=fun g aT=>let ⟨c,e⟩:=hg g aT;⟨c,hle _ _ e⟩
theorem FR.mono {ρ':Ren}{fr:Fr}{a:Act}(hf:FR E ρ fr a) (hle:ρ.le ρ'):FR E ρ' fr a :=
 ⟨GR.mono hf.Ga hle,fun t v e=>(hf.tmp t v e).mono hle⟩
structure J2 (F:Fence):Prop where
 fn:∀ f,F.fn f
 depth:F.depth=none
 calls:∀ (n:Nat) (P:Program) (f:FuncId) (args:Array Value) (w:World) (R:Ending→World→Prop),Calls P f args w R→CallsIn F n P f args w R
 rounds:∀ (n:Nat) (P:Program) (l:Nat) (f:FuncId) (tmps:Array Value) (assign body:Code) (w:World) (R:Ending→World→Prop),RoundIn Fence.wide n P l f tmps assign body w R→RoundIn F n P l f tmps assign body w R
theorem U0:J2 Fence.wide:=⟨fun _=>trivial,rfl,fun _ _ _ _ _ _ h=>callsIn_wide.2 h,fun _ _ _ _ _ _ _ _ _ h=>h⟩
theorem F' (l:Nat):J2 (Fence.wide.inRound l):=⟨fun _=>trivial,rfl,fun _ _ _ _ _ _ h=>CallsIn.inRound l (callsIn_wide.2 h),fun _ _ _ _ _ _ _ _ _ h=>h⟩
inductive FnR (ρ:Ren):Fn→Fn→Prop
 | func (f:FuncId):FnR ρ (.func f) (.func f)
 | yield {i b c:Nat}(h:ρ i=some (b,c)):FnR ρ (.yield i) (.yield b)
def uk:Fn→Array Value→Sem Next
 | .func f,args=>callFunc f args
 | .yield l,args=>Instr.yield l args
 | _,_=>pure .skip
def Gq (P:Program) (ρ:Ren) (h:ak) (w:World) (v:Value) (h':ak) (e:Ending) (w':World):Prop :=
 ∃ v' ρ',e=.returned v'∧VR ρ' v v'∧dG P ρ h w ρ' h' w'
def OG (P:Program) (ρ:Ren) (h:ak) (w:World) (fn':Fn) (args':Array Value) (v:Value) (h':ak):Prop :=
 Qs P ρ h w (uk fn' args') v h' ∨
 (∃ f as,(uk fn' args').run P w=.ok (.enter f as) w∧Calls P f as w (Gq P ρ h w v h')) ∨
 (∃ l f tmps assign body,(uk fn' args').run P w=.ok (.round l f tmps assign body) w∧∀ n,RoundIn Fence.wide n P l f tmps assign body w (Gq P ρ h w v h'))
def jD (P:Program) (E:Env) (call:Fn→List Value→ak→Option (Value×ak)):Prop :=
 ∀ fn args h v h',call fn args h=some (v,h')→∀ (ρ:Ren) (w:World) (fn':Fn) (args':Array Value),HR P ρ h w→GR E ρ→FnR ρ fn fn'→eW ρ args args'.toList→OG P ρ h w fn' args' v h'
theorem uO {F:Fence}{n:Nat}{o:Oper}{a:Act}{s:Sem Next}{v:Value}{h':ak}{K:Act→World→Prop}{Q:Exit→Act→World→Prop}
  (hok:Qs P ρ h w s v h') (k:∀ v' ρ' w',VR ρ' v v'→dG P ρ h w ρ' h' w'→K (a.put o.dst v') w'):o.uponIn F n P a K Q (s.run P w):=by
 obtain⟨n,v',ρ',w',hrun,hn,r,hs⟩:=hok
 rw[hrun]
 have:=k v' ρ' w' r hs
 cases n<;>simp[Vi]at hn<;>subst hn<;>exact this
theorem uy {F:Fence}{n:Nat}(hF:J2 F) {o:Oper}{a:Act}{K:Act→World→Prop}{Q:Exit→Act→World→Prop}(hd:∀ c,o.op≠.defer c)
  (k:o.uponIn F n P a K Q ((execOp a.eval o).run P w)):o.wpIn F n P a w K Q:=by
 refine⟨fun f _=>hF.fn f,?_⟩
 rw[Oper.semAt_eq F.round a.eval o hd]
 exact k
theorem pq {F:Fence}{n:Nat}(hF:J2 F) {o:Oper}{a:Act}{nx:Next}{v':Value}{w':World}{K:Act→World→Prop}{Q:Exit→Act→World→Prop}(hd:∀ c,o.op≠.defer c)
  (hrun:(execOp a.eval o).run P w=.ok nx w') (hn:Vi nx=some v') (k:K (a.put o.dst v') w'):o.wpIn F n P a w K Q:=by
 refine uy hF hd ?_
 rw[hrun]
 cases nx<;>simp[Vi]at hn<;>subst hn<;>exact k
theorem Ak {fr:Fr}{a:Act}{c:Call}{ty:TypeId}{f:Fn}{args:List Value}(hf:FR E ρ fr a) (e:target E fr c=some (f,args)) :
   ∃ (fn':Fn) (args':Array Value),FnR ρ f fn'∧eW ρ args args'.toList∧∀ w:World,((resolve a.eval c ty).run P w).andThen (fun d w=>(invoke d.target d.args).run P w)=(uk fn' args').run P w:=by
 unfold target at e
 split at e
 · cases e
 rename_i args0 hargs
 split at e
 · rename_i g hcal;have rargs:eW ρ args0 (c.args.map a.eval).toList:=by have:=C7 hf hargs;simpa using this
   split at e
   · rename_i fn first cap hfv
     cases e;have r:=bH hf hfv;generalize hge:a.eval g=gv at r;cases r with
     | func _ _ _ first' cap' _ r1 r2 =>
       refine⟨.func fn,first'++c.args.map a.eval++cap',.func fn,?_,fun w=>?_⟩
       · simp only[Array.toList_append];exact(r1.append rargs).append r2
       · simp[resolve,hcal,hge,Deferred.ofValue,invoke,uk]
   · rename_i l first cap hfv
     cases e;have r:=bH hf hfv;generalize hge:a.eval g=gv at r;cases r with
     | func _ _ _ _ _ hy _ _=>cases hy
     | @yield _ b _ hi =>
       refine⟨.yield b,c.args.map a.eval,.yield hi,rargs,fun w=>?_⟩
       simp[resolve,hcal,hge,Deferred.ofValue,invoke,uk]
   · cases e
 · cases e
theorem zL {call:Fn→List Value→ak→Option (Value×ak)}{fr:Fr}{o:Oper}{p:Value×ak}(e:jl E call fr o h=some p):∀ c,o.op≠.defer c:=by
 intro c hc;unfold jl at e;have hk:eT E o.op=.act:=by rw[hc];rfl
 rw[hk]at e;simp[hc,mb]at e
theorem dG.TG {w':World}(hr:HR P ρ h w) (hb:RowKit.Below w.heap.size w w'):dG P ρ h w ρ h w' where
 le:=Ren.le_refl _
 hr:={
  gG:=fun i b c e=>⟨(hr.gG i b c e).1,bX (hr.gG i b c e).2 hb.size⟩
  rj:=fun i b c e=>by obtain⟨k,o,e1,e2,e3⟩:=hr.rj i b c e;exact⟨k,o,e1,by rw[hb.block b (hr.gG i b c e).2];exact e2,e3⟩
  inj:=hr.inj }
 n:=aQ _
 new i x e e0:=by rw[e]at e0;cases e0
 bM _ _ _:=rfl
 os:=hb.os
 tape:=hb.tape
 output:=hb.output
 size:=hb.size
 frame b aT _:=hb.block b aT
 Fe i b c e _:=⟨i,c,e,.inl rfl⟩
 stays _ _ _ _:=rfl
theorem Eu (hE:bJ P E) {F:Fence}{n:Nat}(hF:J2 F) {fr:Fr}{a:Act}{o:Oper}{c:Call}{v:Value}(ho:o.op=.call c) (hf:FR E ρ fr a) (hr:HR P ρ h w) (e:v8 E fr c=some v)
   {K:Act→World→Prop}{Q:Exit→Act→World→Prop}(k:∀ v' w',VR ρ v v'→dG P ρ h w ρ h w'→K (a.put o.dst v') w'):o.wpIn F n P a w K Q:=by
 refine uy hF (fun c' hc'=>by rw[ho]at hc';cases hc') ?_
 unfold v8 at e
 split at e
 · rename_i f hcal;cases hq:E.qf f with
   | false=>rw[hq]at e;cases e
   | true =>
     rw[hq,cond_true]at e;split at e
     · rename_i l hl;have ht:target E fr c=some (.func f,l):=by unfold Bx at hl;simp only[target,hl,hcal,ev];simp
       obtain⟨fn',args',rfn,rargs,hrun⟩:=Ak (P:=P) (ty:=o.type) hf ht;have hex:(execOp a.eval o).run P w=(uk fn' args').run P w:=by simp only[execOp,ho];rw[← hrun w];simp[Sem.run_bind]
       rw[hex];cases rfn;obtain⟨h1,h2⟩:=hE.qc f l v hq e ρ w args' rargs;have h1':(uk (.func f) args').run P w=.ok (.enter f args') w:=h1;rw[h1'];refine⟨fun hdep=>(by rw[hF.depth]at hdep;cases hdep),CallsIn.mono (hF.calls _ _ _ _ _ _ h2) fun e w' hh=>?_⟩;obtain⟨v',rfl,r,hs⟩:=hh;exact k v' w' r (dG.TG hr hs)
     · cases e
 · cases e
theorem Rs (hE:bJ P E) {F:Fence}{n:Nat}(hF:J2 F) {call:Fn→List Value→ak→Option (Value×ak)}(hc:jD P E call) {fr:Fr}{a:Act}{o:Oper}{v:Value}{h':ak}
  (hf:FR E ρ fr a) (hr:HR P ρ h w) (e:jl E call fr o h=some (v,h')) {K:Act→World→Prop}{Q:Exit→Act→World→Prop}
  (k:∀ v' ρ' w',VR ρ' v v'→dG P ρ h w ρ' h' w'→K (a.put o.dst v') w'):o.wpIn F n P a w K Q:=by
 have rQ:=zL e
 unfold jl at e
 split at e
 ·simp only[aY,bA]at e;obtain⟨u,e,rfl,rfl⟩:=e;rcases Jr hE hf e w with ⟨v',n,hrun,r⟩|⟨c,ho,hq⟩;·exact pq hF rQ hrun rfl (k v' ρ _ r (dG.draw hr n))
  ·exact Eu hE hF ho hf hr hq fun v' w' r hs=>k v' ρ w' r hs
 ·simp only[aY,bA]at e;obtain⟨u,e,rfl,rfl⟩:=e;obtain⟨v',hrun,r⟩:=EP hE hf hr e;exact pq hF rQ hrun rfl (k v' ρ w r (dG.refl hr))
 ·simp only[aY,bA]at e;obtain⟨⟨bk,mk⟩,e,rfl,rfl⟩:=e;obtain⟨obj,mk',hrun,hb,hd,hv⟩:=Cw hE hf e;refine pq hF rQ (hrun w) rfl (k _ (ρ.Er h.n (w.heap.size,0)) _ (hv _ _ _ (Ren.dD _ _ _)) ?_);exact dG.alloc hr hb rfl rfl rfl rfl
 ·refine uy hF rQ ?_;split at e
  ·rename_i c ho;split at e;·exact uO (JN hE hf hr e) k
   ·split at e
    ·rename_i f args ht;obtain⟨fn',args',rfn,rargs,hrun⟩:=Ak (P:=P) (ty:=o.type) hf ht;have hex:(execOp a.eval o).run P w=(uk fn' args').run P w:=by simp only[execOp,ho];rw[← hrun w];simp[Sem.run_bind]
     rw[hex];rcases hc f args h v h' e ρ w fn' args' hr hf.Ga rfn rargs with hok|⟨g,as,h1,h2⟩|⟨l,g,tmps,as,bd,h1,h2⟩;·exact uO hok k
     ·rw[h1];refine⟨fun hdep=>(by rw[hF.depth]at hdep;cases hdep),CallsIn.mono (hF.calls _ _ _ _ _ _ h2) fun e w' hh=>?_⟩;obtain⟨v',ρ',rfl,r,hs⟩:=hh;exact k v' ρ' w' r hs
     ·rw[h1];refine⟨fun hdep=>(by rw[hF.depth]at hdep;cases hdep),RoundIn.mono (hF.rounds _ _ _ _ _ _ _ _ _ (h2 _)) fun e w' hh=>?_⟩;obtain⟨v',ρ',rfl,r,hs⟩:=hh;exact k v' ρ' w' r hs
    ·cases e
  ·exact uO (JN hE hf hr e) k
theorem Gr {a:Act}{d:Nat}{v:Value}(hd:d<a.tmps.size) (t:Nat):(a.put (some d) v).tmps.getD t undef=if d=t then v else a.tmps.getD t undef:=by
 simp only[Act.put,lr,Array.getElem?_setIfInBounds];by_cases h:d=t;·subst h;simp[hd]
 ·simp[h]
theorem sn (a:Act) (o:Option Tmp) (v:Value):(a.put o v).tmps.size=a.tmps.size:=by cases o<;>simp[Act.put]
theorem put_defers (a:Act) (o:Option Tmp) (v:Value):(a.put o v).defers=a.defers:=by cases o<;>simp[Act.put]
theorem FR.put {fr fr':Fr}{a:Act}{o:Oper}{v v':Value}{nt:Nat}(hf:FR E ρ fr a) (hnt:a.tmps.size=nt) (r:VR ρ v v') (e:put nt fr o v=some fr'):FR E ρ fr' (a.put o.dst v'):=by
 unfold Ev.put at e;split at e
 ·rename_i d hd;rw[blt_eq]at e;by_cases aT:d<nt
  ·simp only[aT,decide_true,cond_true]at e;cases e;refine⟨hf.Ga,fun t u hu=>?_⟩;rw[T.aj]at hu;rw[hd,Gr (by rw[hnt];exact aT)];by_cases h:d=t;·rw[if_pos h]at hu ⊢;cases hu;exact r
   ·rw[if_neg h]at hu ⊢;exact hf.tmp t u hu
  ·simp[aT]at e
 ·rename_i hd;cases e;rw[hd];exact hf
theorem jU {fr:Fr}{a:Act}{ops:Array Oper}{o:Oper}{b:Bool}(hf:FR E ρ fr a) (e:dB ops.toList fr o=some b) :
   Region.wanted o (yielded ops a.tmps)=b:=by
 unfold dB at e
 split at e
 · rename_i hg;cases e;simp[Region.wanted,hg]
 · rename_i j wnt hg;rw[dL,lj]at e;simp only[Region.wanted,hg,yielded];cases hd:(ops[j]?).bind (·.dst) with
   | none=>simp only[hd]at e;cases e;rfl
   | some d =>
     simp only[hd]at e;simp only[vB];have hno:∀ v,VR ρ v (a.tmps.getD d undef)→(∀ b,v≠.bool b)→∀ b,a.tmps[d]?≠some (.bool b):=by intro v r hv b hb;rw[lr,hb]at r;simp only[lz]at r;cases r;exact absurd rfl (hv _)
     split at e
     · rename_i b' hb;cases e;have ht:=hf.tmp d _ hb;simp only[lr]at ht;cases hx:a.tmps[d]? with
       | none=>rw[hx]at ht;cases ht
       | some u=>rw[hx]at ht;simp only[lz]at ht;cases ht;cases b'<;>cases wnt<;>rfl
     · rename_i u hu hb;cases e;have hno:=hno _ (hf.tmp d u hb) (fun b' hb'=>hu b' hb');split;· rename_i b' hb';exact absurd hb' (hno b')
       · rfl
     · cases e
structure DR (P:Program) (B:Nat) (ρ:Ren) (w:World) (ds:List Deferred):Prop where
 nd:ds.Pairwise fun d d'=>∀ D,d={ target:=.collected D,args:=#[] }→d'≠{ target:=.collected D,args:=#[] }
 each:∀ d∈ds,(∃ D,d={ target:=.collected D,args:=#[] }∧B≤D∧w.heap[D]?=some (.deferred (some []))∧∀ i c,ρ i≠some (D,c)) ∨
  ∃ f cap args,d={ target:=.fn (.func f) cap,args:=args }∧Qg P f
theorem DR.nil (P:Program) (B:Nat) (ρ:Ren) (w:World):DR P B ρ w []:=⟨.nil,fun d hd=>by cases hd⟩
theorem DR.step {B:Nat}{ρ':Ren}{h':ak}{w':World}{ds:List Deferred}(hd:DR P B ρ w ds) (hs:dG P ρ h w ρ' h' w'):DR P B ρ' w' ds:=by
 refine⟨hd.nd,fun d hm=>?_⟩;rcases hd.each d hm with ⟨D,e,hB,hD,hi⟩|hh;·have aT:=(fq.1 hD).1;refine .inl ⟨D,e,hB,by rw[hs.frame D aT fun i c e=>absurd e (hi i c)];exact hD,fun i c hh=>?_⟩;obtain⟨j,d',hj,_⟩:=hs.Fe i D c hh aT;exact hi j d' hj
 ·exact .inr hh
theorem DR.lay {B:Nat}{ds:List Deferred}(hd:DR P B ρ w ds) {f:FuncId}(hf:Qg P f) (cap args:Array Value):DR P B ρ w ({ target:=.fn (.func f) cap,args:=args }::ds):=by
 refine⟨.cons (fun d _ D e=>by cases e) hd.nd,fun d hm=>?_⟩;rcases cM.1 hm with rfl|hm;·exact .inr ⟨f,cap,args,rfl,hf⟩
 ·exact hd.each d hm
def rJ (B:Nat) (P:Program) (E:Env) (ρ:Ren) (h:ak) (w:World) (nt:Nat) (fr':Fr) (h':ak) (a':Act) (w':World):Prop :=
 ∃ ρ',FR E ρ' fr' a'∧dG P ρ h w ρ' h' w'∧a'.tmps.size=nt∧DR P B ρ' w' a'.defers
theorem FU (hE:bJ P E) {B:Nat}{F:Fence}{n:Nat}(hF:J2 F) {call:Fn→List Value→ak→Option (Value×ak)}(hc:jD P E call) {ops:Array Oper}{i:Nat}{fr fr':Fr}{a:Act}{o:Oper}{h':ak}{nt:Nat}
  (hi:ops[i]?=some o) (hf:FR E ρ fr a) (hr:HR P ρ h w) (hnt:a.tmps.size=nt) (hd:DR P B ρ w a.defers) (e:step E call nt ops.toList fr o h=some (fr',h')) {K:Act→World→Prop}{Q:Exit→Act→World→Prop}
  (k:∀ a' w',rJ B P E ρ h w nt fr' h' a' w'→K a' w'):wpOpIn F n P ops Q i K a w:=by
 unfold step at e
 unfold wpOpIn
 simp only[hi]
 split at e
 ·cases e
 ·rename_i hw;simp only[aY,bA]at e;obtain⟨f,e,rfl,rfl⟩:=e;rw[jU hf hw,if_neg an];exact⟨fun f _=>hF.fn f,k _ _ ⟨ρ,FR.put hf hnt (VR.undef ρ) e,dG.refl hr,by rw[sn];exact hnt,by rw[put_defers];exact hd⟩⟩
 ·rename_i hw;rw[jU hf hw,if_pos rfl];split at e;·rename_i p hp;obtain⟨v,h2⟩:=p;simp only[aY,bA]at e;obtain⟨f,e,rfl,rfl⟩:=e;exact Rs hE hF hc hf hr hp fun v' ρ' w' r hs=>k _ _ ⟨ρ',FR.put (hf.mono hs.le) hnt r e,hs,by rw[sn];exact hnt,by rw[put_defers];exact hd.step hs⟩
  ·cases e
theorem rJ.trans {B:Nat}{ρ':Ren}{nt:Nat}{fr':Fr}{h₁ h':ak}{a':Act}{w₁ w':World}(hs:dG P ρ h w ρ' h₁ w₁) (b:rJ B P E ρ' h₁ w₁ nt fr' h' a' w'):rJ B P E ρ h w nt fr' h' a' w':=by obtain⟨ρ2,h1,h2,h3⟩:=b;exact⟨ρ2,h1,hs.trans h2,h3⟩
theorem Fk (hE:bJ P E) {B:Nat}{F:Fence}{n:Nat}(hF:J2 F) {call:Fn→List Value→ak→Option (Value×ak)}(hc:jD P E call) {ops:Array Oper}{nt:Nat}{Q:Exit→Act→World→Prop} :
   ∀ (l:List Oper) (j:Nat) (ρ:Ren) (fr fr':Fr) (a:Act) (h h':ak) (w:World),(∀ i,l[i]?=ops[j+i]?)→FR E ρ fr a→HR P ρ h w→a.tmps.size=nt→DR P B ρ w a.defers →
     ig E call nt ops.toList l fr h=some (fr',h')→(∀ a' w',rJ B P E ρ h w nt fr' h' a' w'→Q .normal a' w')→wpOpsIn F n P ops Q (List.range' j l.length) a w
 | [],j,ρ,fr,fr',a,h,h',w,_,hf,hr,hnt,hd,e,k=>by simp only[ig,aS,bA]at e;obtain⟨rfl,rfl⟩:=e;exact k a w ⟨ρ,hf,dG.refl hr,hnt,hd⟩
 | o::l,j,ρ,fr,fr',a,h,h',w,hl,hf,hr,hnt,hd,e,k=>by
   simp only[ig]at e;split at e;· rename_i fr1 h1 hst;rw[dn,List.range'_succ,wpOpsIn_cons];refine FU hE hF hc (by have:=hl 0;simpa using this.symm) hf hr hnt hd hst fun a' w' ha=>?_;obtain⟨ρ',hf',hs,hnt',hd'⟩:=ha;refine Fk hE hF hc l (j+1) ρ' fr1 fr' a' h1 h' w' (fun i=>by have:=hl (i+1);simp only[cu]at this;rw[this];congr 1;omega) hf' hs.hr hnt' hd' e fun a2 w2 ha=>k a2 w2 (ha.trans hs)
   · cases e
theorem OC:jD P E fun _ _ _=>none:=fun fn args h v h' e=>by cases e
theorem DY {o:Oper}(h:ml o=true):∃ c,o.op=.defer c:=by
 unfold ml at h;split at h;·rename_i c hc;exact⟨c,hc⟩
 ·cases h
theorem FJ {fr:Fr}{a:Act}{c:Call}{t:TypeId}{g:FuncId}{args:List Value}(hf:FR E ρ fr a) (e:target E fr c=some (.func g,args)) :
   ∃ cap as,(resolve a.eval c t).run P w=.ok { target:=.fn (.func g) cap,args:=as } w:=by
 unfold target at e
 split at e
 · cases e
 · split at e
   · rename_i f hcal;split at e
     · rename_i g' first cap hv
       simp only[aS,bA,Fn.func.injEq]at e;obtain⟨rfl,_⟩:=e;have r:=bH hf hv;generalize hce:a.eval f=u at r;cases r with
       | func _ _ _ first' cap' _ r1 r2 =>
         refine⟨cap',first'++c.args.map a.eval,?_⟩
         simp only[resolve,hcal,hce,Deferred.ofValue]
         rfl
     · simp at e
     · cases e
   · cases e
theorem Cy (hE:bJ P E) {B:Nat}{F:Fence}{n:Nat}(hF:J2 F) (hro:F.round=none) {ops:Array Oper}{nt:Nat}{Q:Exit→Act→World→Prop} :
   ∀ (l:List Oper) (j:Nat) (ρ:Ren) (fr fr':Fr) (a:Act) (h h':ak) (w:World),(∀ i,l[i]?=ops[j+i]?)→FR E ρ fr a→HR P ρ h w→a.tmps.size=nt→DR P B ρ w a.defers →
     nf E nt ops.toList l fr h=some (fr',h')→(∀ a' w',rJ B P E ρ h w nt fr' h' a' w'→Q .normal a' w')→wpOpsIn F n P ops Q (List.range' j l.length) a w
 | [],j,ρ,fr,fr',a,h,h',w,_,hf,hr,hnt,hd,e,k=>by simp only[nf,aS,bA]at e;obtain⟨rfl,rfl⟩:=e;exact k a w ⟨ρ,hf,dG.refl hr,hnt,hd⟩
 | o::l,j,ρ,fr,fr',a,h,h',w,hl,hf,hr,hnt,hd,e,k=>by
   simp only[nf]at e;split at e
   · rename_i fr1 h1 hst;rw[dn,List.range'_succ,wpOpsIn_cons];have hi:ops[j]?=some o:=by have:=hl 0;simpa using this.symm
     have next:∀ a' w',rJ B P E ρ h w nt fr1 h1 a' w'→wpOpsIn F n P ops Q (List.range' (j+1) l.length) a' w':=fun a' w' ha=>by obtain⟨ρ',hf',hs,hnt',hd'⟩:=ha;exact Cy hE hF hro l (j+1) ρ' fr1 fr' a' h1 h' w' (fun i=>by have:=hl (i+1);simp only[cu]at this;rw[this];congr 1;omega) hf' hs.hr hnt' hd' e fun a2 w2 ha=>k a2 w2 (ha.trans hs)
     cases hdf:ml o with
     | false =>
       rw[hdf]at hst
       exact FU hE hF OC hi hf hr hnt hd hst next
     | true =>
       rw[hdf]at hst
       obtain⟨c,hc⟩:=DY hdf
       simp only[cond_true]at hst
       split at hst
       · rename_i hw;have hdo:yz E fr o=true:=by cases hh:yz E fr o with|true=>rfl|false=>rw[hh]at hst;cases hst
         rw[hdo]at hst;simp only[cond_true,aY,bA]at hst;obtain⟨f1,hput,rfl,rfl⟩:=hst;unfold yz at hdo;rw[hc]at hdo;simp only at hdo;split at hdo
         · rename_i g args htar;obtain⟨cap,as,hrun⟩:=FJ (P:=P) (w:=w) (t:=o.type) hf htar;unfold wpOpIn;simp only[hi];rw[jU hf hw,if_pos rfl];refine⟨fun f _=>hF.fn f,?_⟩;rw[hro,Oper.semAt_none];have:(execOp a.eval o).run P w=.ok (.defer { target:=.fn (.func g) cap,args:=as }) w:=by simp only[execOp,hc];simp[hrun]
           rw[this,Oper.uponIn_defer];refine next _ _ ⟨ρ,?_,dG.refl hr,?_,?_⟩
           · exact FR.put (a:={ a with defers:=_::a.defers }) ⟨hf.Ga,hf.tmp⟩ hnt (VR.undef ρ) hput
           · rw[sn];exact hnt
           · rw[put_defers];exact hd.lay (hE.XG g hdo) cap as
         · cases hdo
       · cases hst
   · cases e
end
section
variable {E:Env}
def rowOf (acc:List Nat) (o:Oper):Nat:=o.after.toList.foldl (fun s e=>cond (Region.binds .any e) (s ||| 2 ^ e.on ||| (nth acc e.on).getD 0) s) 0
theorem Cq (acc:List Nat) (j:Nat):∀ (es:List Edge) (s:Nat),(es.foldl (fun s e=>cond (Region.binds .any e) (s ||| 2 ^ e.on ||| (nth acc e.on).getD 0) s) s).testBit j=true →
   s.testBit j=true∨∃ e∈es,Region.binds .any e=true∧(j=e.on∨∃ b:Nat,acc[e.on]?=some b∧b.testBit j=true)
 | [],s,h=>.inl h
 | e::es,s,h=>by
   simp only[wI]at h;rcases Cq acc j es _ h with h|⟨e',he,hb,hh⟩
   · cases hb:Region.binds .any e with
     | false=>rw[hb]at h;exact .inl h
     | true =>
       rw[hb]at h
       simp only[cond_true,pN,jO]at h
       rcases h with (h|h)|h
       · exact .inl h
       · rw[sF]at h;exact .inr ⟨e,eZ,hb,.inl (by simpa using (of_decide_eq_true h).symm)⟩
       · rw[dL]at h;cases hx:acc[e.on]? with
         | none=>rw[hx]at h;simp at h
         | some b=>rw[hx]at h;exact .inr ⟨e,eZ,hb,.inr ⟨b,hx,h⟩⟩
   · exact .inr ⟨e',fU _ he,hb,hh⟩
theorem Mw {acc:List Nat}{o:Oper}{j:Nat}(h:(rowOf acc o).testBit j=true) :
  ∃ e∈o.after.toList,Region.binds .any e=true∧(j=e.on∨∃ b,acc[e.on]?=some b∧b.testBit j=true):=by
 rcases Cq acc j _ _ h with h|h
 ·simp at h
 ·exact h
theorem rK:∀ (os:List Oper) (acc:List Nat),∃ r,cf os acc=acc++r
 | [],acc=>⟨[],by simp[cf]⟩
 | o::os,acc=>by obtain⟨r,h⟩:=rK os (acc++[rowOf acc o]);exact⟨[rowOf acc o]++r,by rw[cf,← rowOf,h,jB]⟩
theorem mF:∀ (os:List Oper) (acc:List Nat) (i:Nat),(cf os acc)[i]?=if i<acc.length then acc[i]? else (os[i-acc.length]?).map (rowOf ((cf os acc).take i))
 | [],acc,i=>by
   simp only[cf];split;· rfl
   · rename_i h;simp;omega
 | o::os,acc,i=>by
   have hb:cf (o::os) acc=cf os (acc++[rowOf acc o]):=by rw[cf,← rowOf]
   rw[hb,mF os];by_cases h1:i<acc.length;· rw[if_pos (by simp;omega),if_pos h1,List.getElem?_append_left h1]
   · rw[if_neg h1];by_cases h2:i=acc.length;· subst h2;rw[if_pos an];obtain⟨r,hr⟩:=rK os (acc++[rowOf acc o]);rw[hr];simp
     · rw[if_neg (by simp;omega)];have:i-acc.length=(i-(acc++[rowOf acc o]).length)+1:=by simp;omega
       rw[this];simp
def AE (l:List Oper) (S:Nat→Prop):Prop:=∀ i o,S i→l[i]?=some o→∀ e∈o.after,Region.binds .any e=true→S e.on
theorem bef {l:List Oper}{S:Nat→Prop}(hS:AE l S) (j:Nat):∀ (i:Nat) (o:Oper) (b:Nat),l[i]?=some o→(cf l [])[i]?=some b →
   (∀ e∈o.after,Region.binds .any e=true→S e.on)→b.testBit j=true→S j:=by
 intro i
 induction i using Nat.strongRecOn with
 | _ i ih =>
   intro o b ho hb hpre hj
   rw[mF]at hb
   simp only[cF,Nat.not_lt_zero,if_false,nh,ho,bS,aS]at hb
   subst hb
   obtain⟨e,he,hbd,hh⟩:=Mw hj
   have he:e∈o.after:=by simpa using he
   rcases hh with rfl|⟨b',hb',hj'⟩
   · exact hpre e he hbd
   · have aT:e.on<i:=by have:=(cQ.1 hb').1;simp at this;omega
     rw[jx aT]at hb';have hb2:=hb';rw[mF]at hb2;simp only[cF,Nat.not_lt_zero,if_false,nh,aY]at hb2;obtain⟨o',ho',_⟩:=hb2;exact ih e.on aT o' b' ho' hb' (hS e.on o' (hpre e he hbd) ho') hj'
def wr (l:List Oper) (i t:Nat):Prop:=∃ o,l[i]?=some o∧o.dst=some t
theorem uC {o:Oper}{t:Nat}:writes o t=true↔o.dst=some t:=by
 unfold writes;cases o.dst with
 | none=>simp
 | some d=>simp[e_]
theorem Kb:∀ {l:List Oper},El l=true→∀ i j t,wr l i t→wr l j t→i=j
 | [],_,i,j,t,⟨o,h,_⟩,_=>by simp at h
 | o::os,h,i,j,t,⟨x,hx,hxd⟩,⟨y,hy,hyd⟩=>by
   simp only[El,aZ]at h;obtain⟨h1,h2⟩:=h;have key:∀ (z:Oper) (k:Nat),o.dst=some t→os[k]?=some z→z.dst=some t→False:=by intro z k ho hz hzd;rw[ho]at h1;simp only[dX]at h1;have:=h1 z (List.mem_of_getElem? hz);rw[uC.2 hzd]at this;cases this
   cases i with
   | zero=>cases j with
     | zero=>rfl
     | succ j=>simp at hx hy;subst hx;exact(key y j hxd hy hyd).elim
   | succ i=>cases j with
     | zero=>simp at hx hy;subst hy;exact(key x i hyd hx hxd).elim
     | succ j =>
       simp at hx hy
       exact congrArg (·+1) (Kb h2 i j t ⟨x,hx,hxd⟩ ⟨y,hy,hyd⟩)
structure mf (E:Env) (mm:Bool) (l:List Oper) (bs:List Nat) (pl:List Item):Prop where
 cov:∀ i,i<l.length→∃ x∈pl,x.i=i
 at_:∀ pre x suf,pl=pre++x::suf→∃ o b,l[x.i]?=some o∧bs[x.i]?=some b∧(∀ y∈pre,y.i≠x.i) ∧
  (∀ e∈o.after,Region.binds .any e=true→∃ y∈pre,y.i=e.on) ∧
  (mm=true→∀ y∈pre,∀ oy,l[y.i]?=some oy→j9 E oy=true→b.testBit y.i=true) ∧
  (j9 E o=true→∀ y∈pre,∀ oy,l[y.i]?=some oy→oI E oy=true→b.testBit y.i=true ∨
   (y.i∈x.again∧∀ by_,bs[y.i]?=some by_→∀ t∈looks l oy,∀ q,wr l q t→by_.testBit q=true∨∀ z∈pre,z.i≠q))
 once:∀ i j t,wr l i t→wr l j t→i=j
 bP:∀ i o b t,l[i]?=some o→bs[i]?=some b→t∈looks l o→∀ q,wr l q t→i=q∨b.testBit q=true∨∃ bq,bs[q]?=some bq∧bq.testBit i=true
theorem isAR {o:Oper}(h:j9 E o=true):oI E o=false:=by unfold j9 at h;unfold oI;cases hk:eT E o.op<;>rw[hk]at h<;>first|rfl|cases h
theorem C5 {mm:Bool}{l:List Oper}{bs:List Nat}{x:Item}{suf:List Item}:∀ (pre:List Item) (done aX:Nat) (rds:List Nat),oR E mm l bs (pre++x::suf) done aX rds=true →
   ∃ o b DONE,l[x.i]?=some o∧bs[x.i]?=some b∧(∀ j,Nat.testBit DONE j=true↔(done.testBit j=true∨∃ y∈pre,y.i=j))∧DONE.testBit x.i=false ∧
   (∀ e∈o.after,Region.binds .any e=true→DONE.testBit e.on=true) ∧
   (∀ j,aX.testBit j=true→b.testBit j=true)∧(mm=true→∀ y∈pre,∀ oy,l[y.i]?=some oy→j9 E oy=true→b.testBit y.i=true) ∧
   (j9 E o=true→(∀ r,(r∈rds∨∃ y∈pre,y.i=r∧∃ oy,l[y.i]?=some oy∧oI E oy=true)→b.testBit r=true∨(r∈x.again∧wR l bs DONE r=true)))
 | [],done,aX,rds,h=>by
   simp only[gy,oR]at h;rw[dL,dL]at h;split at h
   · rename_i o b ho hb;simp only[aZ,ic]at h;obtain⟨⟨⟨h1,h2⟩,h3⟩,h4⟩:=h;have h3:=eY h3;refine⟨o,b,done,ho,hb,fun j=>an,h1,?_,?_,an,?_⟩;· intro e he hbd;have:=dX.1 h2 e (by simpa using he);simpa[hbd]using this
     · intro j hj;have:=congrArg (fun n=>Nat.testBit n j) h3;simp only[Nat.testBit_and,hj,kI]at this;exact this
     · intro ha r hr;simp only[ha,cond_true,aZ]at h4;obtain⟨⟨h5,h6⟩,_⟩:=h4;rcases hr with hr|⟨y,hy,_⟩
       · have:=dX.1 h5 r hr;simp only[jO,List.contains_iff_mem]at this;rcases this with this|this;· exact .inl this
         · have h7:=dX.1 h6 r this;simp only[aZ]at h7;exact .inr ⟨this,h7.2⟩
       · cases hy
   · cases h
 | y::pre,done,aX,rds,h=>by
   simp only[mo,oR]at h;rw[dL,dL]at h;split at h
   · rename_i oy by_ hoy hby;simp only[aZ]at h;obtain⟨_,h⟩:=h;cases ha:j9 E oy with
     | true =>
       simp only[ha,cond_true,aZ]at h;obtain⟨_,h⟩:=h;obtain⟨o,b,DONE,h1,h2,h3,h4,h5,h6,h7,h8⟩:=C5 pre _ _ _ h;refine⟨o,b,DONE,h1,h2,fun j=>?_,h4,h5,fun j hj=>h6 j ?_,fun hmm z hz oz hoz haz=>?_,fun hao r hr=>h8 hao r ?_⟩
       · rw[h3,pN,sF];simp only[jO,decide_eq_true_eq,cM];constructor
         · rintro((h|h)|⟨z,hz,e⟩);· exact .inl h
           · exact .inr ⟨y,.inl rfl,h⟩
           · exact .inr ⟨z,.inr hz,e⟩
         · rintro(h|⟨z,rfl|hz,e⟩);· exact .inl (.inl h)
           · exact .inl (.inr e)
           · exact .inr ⟨z,hz,e⟩
       · cases mm;· exact hj
         · rw[cond_true,pN,hj,Bool.true_or]
       · rcases cM.1 hz with rfl|hz;· exact h6 _ (by rw[hmm,cond_true,pN,sF];simp)
         · exact h7 hmm z hz oz hoz haz
       · rcases hr with hr|⟨z,hz,e,oz,hoz,hrz⟩;· exact .inl hr
         · rcases cM.1 hz with rfl|hz;· rw[hoy]at hoz;cases hoz;rw[isAR ha]at hrz;cases hrz
           · exact .inr ⟨z,hz,e,oz,hoz,hrz⟩
     | false =>
       simp only[ha,cond_false]at h;obtain⟨o,b,DONE,h1,h2,h3,h4,h5,h6,h7,h8⟩:=C5 pre _ _ _ h;refine⟨o,b,DONE,h1,h2,fun j=>?_,h4,h5,h6,fun hmm z hz oz hoz haz=>?_,fun hao r hr=>h8 hao r ?_⟩
       · rw[h3,pN,sF];simp only[jO,decide_eq_true_eq,cM];constructor
         · rintro((h|h)|⟨z,hz,e⟩);· exact .inl h
           · exact .inr ⟨y,.inl rfl,h⟩
           · exact .inr ⟨z,.inr hz,e⟩
         · rintro(h|⟨z,rfl|hz,e⟩);· exact .inl (.inl h)
           · exact .inl (.inr e)
           · exact .inr ⟨z,hz,e⟩
       · rcases cM.1 hz with rfl|hz;· rw[hoy]at hoz;cases hoz;rw[ha]at haz;cases haz
         · exact h7 hmm z hz oz hoz haz
       · rcases hr with hr|⟨z,hz,e,oz,hoz,hrz⟩;· left;cases oI E oy<;>simp[hr]
         · rcases cM.1 hz with rfl|hz;· rw[hoy]at hoz;cases hoz;left;simp[hrz,e]
           · exact .inr ⟨z,hz,e,oz,hoz,hrz⟩
   · cases h
theorem Gn {mm:Bool}{l:List Oper}{bs:List Nat}:∀ (pl:List Item) (done aX:Nat) (rds:List Nat),oR E mm l bs pl done aX rds=true→∀ i,i<l.length→done.testBit i=true∨∃ x∈pl,x.i=i
 | [],done,aX,rds,h,i,hi=>by simp only[oR,dX]at h;exact .inl (h i (sj.2 hi))
 | y::pl,done,aX,rds,h,i,hi=>by
   simp only[oR]at h;rw[dL,dL]at h;split at h
   · simp only[aZ]at h;obtain⟨_,h⟩:=h;have key:∀ aX rds,oR E mm l bs pl (done ||| 2 ^ y.i) aX rds=true→done.testBit i=true∨∃ x∈y::pl,x.i=i:=by
       intro aX rds h;rcases Gn pl _ _ _ h i hi with h|⟨x,hx,e⟩
       · rw[pN,sF]at h;simp only[jO,decide_eq_true_eq]at h;rcases h with h|h;· exact .inl h
         · exact .inr ⟨y,eZ,h⟩
       · exact .inr ⟨x,fU _ hx,e⟩
     rename_i oy _ _ _ _;cases ha:j9 E oy with
     | true=>simp only[ha,cond_true,aZ]at h;exact key _ _ h.2
     | false=>simp only[ha,cond_false]at h;exact key _ _ h
   · cases h
theorem Js {α β:Type}{l:List α}{r:List β}{i:Nat}{x:α}{y:β}(hx:l[i]?=some x) (hy:r[i]?=some y):(((x,y),i):(α×β)×Nat)∈(l.zip r).zipIdx:=by rw[List.mem_iff_getElem?];exact⟨i,by simp[List.getElem?_zipIdx,List.getElem?_zip_eq_some,hx,hy]⟩
theorem yh (l:List Oper) {i:Nat}{o:Oper}(h:l[i]?=some o):∃ b,(cf l [])[i]?=some b:=by rw[mF];simp[h]
theorem planF {mm:Bool}{l:List Oper}{pl:List Item}(h:D9 E mm l (cf l []) pl=true):mf E mm l (cf l []) pl:=by
 simp only[D9,aZ]at h;obtain⟨⟨h1,h2⟩,h3⟩:=h;refine⟨fun i hi=>?_,?_,Kb h2,?_⟩
 ·rcases Gn pl _ _ _ h3 i hi with h|h;·simp at h
  ·exact h
 ·rintro pre x suf rfl;obtain⟨o,b,DONE,g1,g2,g3,g4,g5,g6,g7,g8⟩:=C5 pre _ _ _ h3;have g3':∀ j,DONE.testBit j=true↔∃ y∈pre,y.i=j:=fun j=>by rw[g3];simp
  refine⟨o,b,g1,g2,fun y hy e=>?_,fun e he hb=>(g3' _).1 (g5 e he hb),g7,fun ha y hy oy hoy hr=>?_⟩;·have:=(g3' x.i).2 ⟨y,hy,e⟩;rw[g4]at this;cases this
  ·rcases g8 ha y.i (.inr ⟨y,hy,rfl,oy,hoy,hr⟩) with g|⟨ga,gb⟩;·exact .inl g
   ·refine .inr ⟨ga,fun by_ hby t ht q hq=>?_⟩;unfold wR at gb;rw[dL,dL,hoy,hby]at gb;simp only[dX]at gb;obtain⟨oq,hoq,hqd⟩:=hq;have hm:(oq,q)∈l.zipIdx:=by rw[List.mem_iff_getElem?];exact⟨q,by simp[List.getElem?_zipIdx,hoq]⟩
    have:=gb t ht (oq,q) hm;simp only[uC.2 hqd,sg,Bool.false_or,jO,ic]at this;rcases this with g|g;·exact .inl g
    ·exact .inr fun z hz e=>by have:=(g3' q).2 ⟨z,hz,e⟩;rw[g]at this;cases this
 ·intro i o b t ho hb ht q hq;obtain⟨oq,hoq,hqd⟩:=hq;obtain⟨bq,hbq⟩:=yh l hoq;unfold JG at h1;simp only[dX]at h1;have:=h1 _ (Js ho hb) t ht _ (Js hoq hbq);simp only[uC.2 hqd,sg,Bool.false_or,jO]at this;rcases this with (g|g)|g;·exact .inl (eY g)
  ·exact .inr (.inl g)
  ·exact .inr (.inr ⟨bq,hbq,g⟩)
end
section
variable {E:Env}{fr fr':Fr}
theorem NM {x:Operand}(h:∀ t,t∈Pg x→fr.get t=fr'.get t):ev E fr x=ev E fr' x:=by
 cases x with
 | tmp t=>simp only[ev,h t (by simp[Pg])]
 | _=>rfl
theorem mA {α β:Type}{f g:α→Option β}:∀ {l:List α},(∀ x∈l,f x=g x)→aW f l=aW g l
 | [],_=>rfl
 | x::l,h=>by simp only[aW];rw[h x eZ,mA fun y hy=>h y (fU _ hy)]
theorem mJ {xs:Array Operand}(h:∀ x∈xs,ev E fr x=ev E fr' x):Bx E fr xs=Bx E fr' xs :=
 mA fun x hx=>h x (by simpa using hx)
theorem BO {ps:Array (Nat×Operand)}(h:∀ x∈ps.map (·.2),ev E fr x=ev E fr' x):Zp E fr ps=Zp E fr' ps :=
 mA fun p hp=>by show Option.map (p.1,·) (ev E fr p.2)=Option.map (p.1,·) (ev E fr' p.2);rw[h p.2 (Array.mem_map.2 ⟨p,by simpa using hp,rfl⟩)]
theorem xh {x:Option Operand}(h:∀ y,x=some y→ev E fr y=ev E fr' y):Gz E fr x=Gz E fr' x:=by
 cases x with
 | none=>rfl
 | some y=>simp only[Gz,h y rfl]
theorem DE {o:Oper}(h:∀ x∈o.op.operands,ev E fr x=ev E fr' x):dZ E fr o=dZ E fr' o:=by
 obtain⟨dst,op,type,pos,after,guard⟩:=o;cases op<;>simp only[Op.operands]at h<;>simp only[dZ];case build t ps=>rw[BO fun x hx=>h x (by simpa using hx)]
 case makeFunc fn first cap=>rw[mJ (xs:=first) fun x hx=>h x (by simp[hx]),mJ (xs:=cap) fun x hx=>h x (by simp[hx])]
 case slice t x lo hi mx =>rw[xh (x:=lo) fun y hy=>h y (by subst hy;simp),xh (x:=hi) fun y hy=>h y (by subst hy;simp),xh (x:=mx) fun y hy=>h y (by subst hy;simp),h x an]
 case call c=>rw[mJ (xs:=c.args) fun x hx=>h x (by simp[Call.operands];cases c.callee<;>simp[hx])]
 all_goals first|rfl|(simp_all;done)
theorem xW {o:Oper}(h:∀ x∈o.op.operands,ev E fr x=ev E fr' x):kR E fr o=kR E fr' o:=by
 have:tV E fr o=tV E fr' o:=by
  obtain⟨dst,op,type,pos,after,guard⟩:=o;cases op<;>simp only[Op.operands]at h<;>simp only[tV];case binOp op t x y g=>rw[h x an,h y an]
  case call c=>simp only[v8];rw[mJ (xs:=c.args) fun x hx=>h x (by simp[Call.operands];cases c.callee<;>simp[hx])]
 unfold kR;rw[this,DE h]
theorem qw {o:Oper}(h:∀ x∈o.op.operands,ev E fr x=ev E fr' x) (H:ak):gH E fr o H=gH E fr' o H:=by
 obtain⟨dst,op,type,pos,after,guard⟩:=o;cases op<;>simp only[Op.operands]at h<;>simp only[gH];case call c=>rw[mJ (xs:=c.args) fun x hx=>h x (by simp[Call.operands];cases c.callee<;>simp[hx])]
 all_goals first|rfl|(simp_all;done)
theorem oW {o:Oper}(h:∀ x∈o.op.operands,ev E fr x=ev E fr' x):gQ E fr o=gQ E fr' o:=by
 obtain⟨dst,op,type,pos,after,guard⟩:=o;cases op<;>simp only[Op.operands]at h<;>simp only[gQ];case buildSlice t n ps=>rw[BO fun x hx=>h x (by simpa using hx)]
 case makeMap t r=>cases r with
   | none=>cases b_ E t<;>rfl
   | some x =>
     have hx:=h x an
     cases b_ E t with
     | none=>rfl
     | some d=>cases d<;>first|rfl|simp only[hx]
 all_goals first|rfl|(simp_all;done)
theorem FQ {o:Oper}(h:∀ x∈o.op.operands,ev E fr x=ev E fr' x) (H:ak):mb E fr o H=mb E fr' o H:=by
 obtain⟨dst,op,type,pos,after,guard⟩:=o;cases op<;>simp only[Op.operands]at h<;>simp only[mb];case call c=>rw[mJ (xs:=c.args) fun x hx=>h x (by simp[Call.operands];cases c.callee<;>simp[hx])]
 all_goals first|rfl|(simp_all;done)
theorem D5 {c:Call}(h:∀ x∈c.operands,ev E fr x=ev E fr' x):target E fr c=target E fr' c:=by
 unfold target;rw[mA (f:=ev E fr) (g:=ev E fr') fun x hx=>h x (by simp[Call.operands];cases c.callee<;>simp at hx ⊢<;>simp[hx])];cases hc:c.callee with
 | value f=>simp only[h f (by simp[Call.operands,hc])]
 | _=>rfl
theorem Jc {o:Oper}(h:∀ x∈o.op.operands,ev E fr x=ev E fr' x) (call:Fn→List Value→ak→Option (Value×ak)) (H:ak):jl E call fr o H=jl E call fr' o H:=by
 unfold jl;rw[xW h,qw h,oW h,FQ h];cases ho:o.op with
 | call c =>
   have ht:target E fr c=target E fr' c:=D5 (by intro x hx;exact h x (by rw[ho];exact hx))
   simp only[ht]
 | _=>rfl
theorem nN {l:List Oper}{o:Oper}(h:∀ t∈looks l o,fr.get t=fr'.get t):∀ x∈o.op.operands,ev E fr x=ev E fr' x:=fun x hx =>
 NM fun t ht=>h t (qg _ (List.mem_flatMap.2 ⟨x,by simpa using hx,ht⟩))
theorem qH {l:List Oper}{o:Oper}(h:∀ t∈looks l o,fr.get t=fr'.get t):dB l fr o=dB l fr' o:=by
 unfold dB;cases hg:o.guard with
 | none=>rfl
 | some p =>
   obtain⟨j,w⟩:=p
   simp only
   cases hd:(nth l j).bind (·.dst) with
   | none=>rfl
   | some d=>simp only[h d (jw _ (by simp[hg,hd]))]
theorem kZ {h:ak}{i:Nat}{k:iY}(hi:i<h.n):(ai h k).b.get i=h.b.get i:=by rw[ai,T.aR _ _ ah]
theorem qm {h:ak}{a:Addr}{n:Nat}{l:List Value}(k:iY) (e:av h a n=some l):av (ai h k) a n=some l:=by
 unfold av at e ⊢;rw[bF]at e ⊢;by_cases hn:n=0;·rw[if_pos hn]at e ⊢;exact e
 ·rw[if_neg hn]at e ⊢;split at e;·cases e
  ·rw[blt_eq]at e ⊢;by_cases aT:a.block<h.n
   ·rw[kZ aT];have:a.block<(ai h k).n:=by simp[ai];omega
    simp only[aT,this,decide_true,cond_true]at e ⊢;exact e
   ·simp[aT]at e
theorem yf {h:ak}{m:Value}{r:List (Value×Value×Nat)×Nat}(k:iY) (e:gP h m=some r):gP (ai h k) m=some r:=by
 unfold gP at e ⊢;split at e
 ·rename_i j;rw[blt_eq]at e ⊢;by_cases aT:j<h.n
  ·rw[kZ aT];have:j<(ai h k).n:=by simp[ai];omega
   simp only[aT,this,decide_true,cond_true]at e ⊢;exact e
  ·simp[aT]at e
 ·cases e
theorem F0 {h:ak}{t:TypeId}{x v:Value}(k:iY) (e:loadAt E t x h=some v):loadAt E t x (ai h k)=some v:=by
 unfold loadAt at e ⊢;split at e
 ·rename_i a i hi;have one:∀ d:TypeDesc,(match av h a 1 with|some [v]=>some v|_=>none)=some v→(match av (ai h k) a 1 with|some [v]=>some v|_=>none)=some v:=by
   intro d e;cases hc:av h a 1 with
   | none=>rw[hc]at e;cases e
   | some l=>rw[hc]at e;rw[qm k hc];exact e
  have agg:(av h a i.size).map (fun l=>Value.agg l.toArray)=some v→(av (ai h k) a i.size).map (fun l=>Value.agg l.toArray)=some v:=by intro e;simp only[aY]at e ⊢;obtain⟨l,hl,hv⟩:=e;exact⟨l,qm k hl,hv⟩
  (try simp only[hi]);cases hd:i.desc with
  | struct fs=>rw[hd]at e;exact agg e
  | array n el=>rw[hd]at e;exact agg e
  | invalid=>rw[hd]at e;exact e
  | _=>rw[hd]at e;exact one .invalid e
 ·cases e
theorem Di {h:ak}{r:Nat}{es:List (Nat×Value×Value)}(k:iY) (e:ln h (.map (some r))=some es) :
   ln (ai h k) (.map (some r))=some es∧gP h (.map (some r))=none∧gP (ai h k) (.map (some r))=none:=by
 simp only[ln]at e
 cases hb:Nat.blt r h.n with
 | false=>rw[hb]at e;cases e
 | true =>
   rw[hb,cond_true]at e
   have aT:r<h.n:=by simpa[mM]using hb
   have hg:(ai h k).b.get r=h.b.get r:=kZ aT
   have hb2:Nat.blt r (ai h k).n=true:=by rw[mM];simp only[ai];omega
   split at e
   · rename_i es0 he;cases e;simp only[ln,gP,hb,hb2,hg,he,cond_true,and_self]
   · cases e
theorem DF {h:ak}{t:TypeId}{m x v:Value}{ok:Bool}(k:iY) (e:mh E t m x ok h=some v):mh E t m x ok (ai h k)=some v:=by
 unfold mh at e ⊢;split at e
 · rename_i kt et hu;(try simp only[hu]);split at e;· cases e
   · rename_i d hd;(try simp only[hd]);cases hc:d_ E 20 kt x with
     | false=>rw[hc]at e;cases e
     | true =>
       rw[hc]at e;simp only[cond_true]at e ⊢;cases m with
       | map r =>
         cases r with
         | none=>exact e
         | some r =>
           simp only at e ⊢
           cases hg:gP h (.map (some r)) with
           | none =>
             rw[hg]at e
             simp only[Option.map_none]at e
             cases hko:pT d with
             | false=>rw[hko]at e;cases e
             | true =>
               rw[hko]at e
               simp only[cond_true]at e
               cases hs:ln h (.map (some r)) with
               | none=>rw[hs]at e;cases e
               | some es =>
                 obtain⟨g1,_,g3⟩:=Di k hs
                 rw[hs]at e
                 rw[g3]
                 simp only[Option.map_none,cond_true,g1]
                 exact e
           | some p=>rw[hg]at e;rw[yf k hg];exact e
       | _=>cases hko:pT d<;>simp[gP,ln,hko]at e
 · cases e
theorem Bh {h:ak}{s d:TypeId}{x v:Value}(k:iY) (e:mL E s d x h=some v):mL E s d x (ai h k)=some v:=by
 unfold mL at e ⊢;split at e
 ·rename_i el hs hd;(try simp only[hs,hd]);split at e;·rename_i h1;(try simp only[h1]);exact e
  ·rename_i a len c h1;(try simp only[h1]);split at e;·rename_i l hl;rw[qm k hl];exact e
   ·cases e
  ·cases e
 ·cases e
theorem Hu {h:ak}{t:TypeId}{x v:Value}(k:iY) (e:Cv E t x h=some v):Cv E t x (ai h k)=some v:=by
 unfold Cv at e ⊢;split at e;·rename_i h1;(try simp only[h1]);exact e
 ·rename_i h1 hne;simp only[aY]at e;obtain⟨r,hr,rfl⟩:=e;rw[yf k hr];rfl
 ·cases e
theorem E' {h:ak}{o:Oper}{v:Value}(k:iY) (e:gH E fr o h=some v):gH E fr o (ai h k)=some v:=by
 unfold gH at e ⊢;split at e
 ·rename_i ho;(try simp only[ho]);split at e;·rename_i hx;(try simp only[hx]);exact F0 k e
  ·cases e
 ·rename_i ho;(try simp only[ho]);split at e;·rename_i hx hi;(try simp only[hx,hi]);exact DF k e
  ·cases e
 ·rename_i ho;(try simp only[ho]);split at e;·rename_i hx;(try simp only[hx]);exact Bh k e
  ·cases e
 ·rename_i c ho;(try simp only[ho]);split at e
  ·rename_i hb;(try simp only[hb]);split at e;·rename_i h1 h2;(try simp only[h1,h2]);exact Hu k e
   ·cases e
  ·cases e
 ·cases e
end
section
variable {mm:Bool}{P:Program}{E:Env}{call:Fn→List Value→ak→Option (Value×ak)}{nt:Nat}{l:List Oper}
theorem j8 {x:Item}{xs:List Item}{fr:Fr}{h:ak}{r:Fr×ak}(e:aJ E call nt l (x::xs) fr h=some r) :
   ∃ o fr1 h1,l[x.i]?=some o∧step E call nt l fr o h=some (fr1,h1)∧h.n≤h1.n∧mi E l fr1 h1 x.again=true∧aJ E call nt l xs fr1 h1=some r:=by
 simp only[aJ]at e
 rw[dL]at e
 split at e
 · cases e
 · rename_i o ho;split at e
   · rename_i fr1 h1 hst;cases hc:(Nat.ble h.n h1.n&&mi E l fr1 h1 x.again) with
     | false=>rw[hc]at e;cases e
     | true =>rw[hc]at e;simp only[aZ,ble_eq,decide_eq_true_eq]at hc;exact⟨o,fr1,h1,ho,hst,hc.1,hc.2,e⟩
   · cases e
theorem iy:∀ {xs ys:List Item}{fr:Fr}{h:ak}{r:Fr×ak},aJ E call nt l (xs++ys) fr h=some r →
   ∃ fr1 h1,aJ E call nt l xs fr h=some (fr1,h1)∧aJ E call nt l ys fr1 h1=some r
 | [],ys,fr,h,r,e=>⟨fr,h,rfl,e⟩
 | x::xs,ys,fr,h,r,e=>by rw[mo]at e;obtain⟨o,fr1,h1,ho,hst,hn,hag,e⟩:=j8 e;obtain⟨fr2,h2,e1,e2⟩:=iy e;refine⟨fr2,h2,?_,e2⟩;simp only[aJ,dL,ho,hst,ble_eq,hn,hag,decide_true,dP,cond_true,e1]
theorem tH:∀ {xs ys:List Item}{fr fr1:Fr}{h h1:ak}{r:Fr×ak},aJ E call nt l xs fr h=some (fr1,h1)→aJ E call nt l ys fr1 h1=some r →
   aJ E call nt l (xs++ys) fr h=some r
 | [],ys,fr,fr1,h,h1,r,e1,e2=>by simp only[aJ,aS,bA]at e1;obtain⟨rfl,rfl⟩:=e1;exact e2
 | x::xs,ys,fr,fr1,h,h1,r,e1,e2=>by obtain⟨o,fr2,h2,ho,hst,hn,hag,e⟩:=j8 e1;rw[mo];simp only[aJ,dL,ho,hst,ble_eq,hn,hag,decide_true,dP,cond_true];exact tH e e2
theorem Sl:∀ {xs:List Item}{fr fr1:Fr}{h h1:ak},aJ E call nt l xs fr h=some (fr1,h1)→h.n≤h1.n
 | [],fr,fr1,h,h1,e=>by simp only[aJ,aS,bA]at e;rw[e.2];exact aQ _
 | x::xs,fr,fr1,h,h1,e=>by obtain⟨o,fr2,h2,ho,hst,hn,hag,e⟩:=j8 e;exact bO hn (Sl e)
theorem yw {fr fr1:Fr}{o:Oper}{v:Value}(e:put nt fr o v=some fr1) (t:Nat):fr1.get t=if o.dst=some t then some v else fr.get t:=by
 unfold put at e;split at e
 · rename_i d hd;cases hb:Nat.blt d nt with
   | false=>rw[hb]at e;cases e
   | true =>rw[hb]at e;cases e;rw[T.aj,hd];simp
 · rename_i hd;cases e;simp[hd]
theorem Ft {fr fr1:Fr}{o:Oper}{v:Value}(e:put nt fr o v=some fr1) (fr':Fr):∃ fr2,put nt fr' o v=some fr2:=by
 unfold put at e ⊢;split at e
 ·rename_i d hd;cases hb:Nat.blt d nt with
  | false=>rw[hb]at e;cases e
  | true=>exact⟨_,rfl⟩
 ·exact⟨_,rfl⟩
theorem sU {fr fr1:Fr}{h h1:ak}{o:Oper}(e:step E call nt l fr o h=some (fr1,h1)) :
  ∃ v,put nt fr o v=some fr1∧((dB l fr o=some false∧v=undef∧h1=h)∨(dB l fr o=some true∧jl E call fr o h=some (v,h1))):=by
 unfold step at e
 split at e
 ·cases e
 ·rename_i hw;simp only[aY,bA]at e;obtain⟨f,e,rfl,rfl⟩:=e;exact⟨undef,e,.inl ⟨hw,rfl,rfl⟩⟩
 ·rename_i hw;split at e;·rename_i p hp;simp only[aY,bA]at e;obtain⟨f,e,rfl,rfl⟩:=e;exact⟨p.1,e,.inr ⟨hw,hp⟩⟩
  ·cases e
theorem kK {t:Nat}:∀ {xs:List Item}{fr fr1:Fr}{h h1:ak},aJ E call nt l xs fr h=some (fr1,h1)→(∀ y∈xs,¬wr l y.i t)→fr1.get t=fr.get t
 | [],fr,fr1,h,h1,e,_=>by simp only[aJ,aS,bA]at e;rw[e.1]
 | x::xs,fr,fr1,h,h1,e,hno=>by obtain⟨o,fr2,h2,ho,hst,hn,hag,e⟩:=j8 e;rw[kK e fun y hy=>hno y (fU _ hy)];obtain⟨v,hp,_⟩:=sU hst;rw[yw hp,if_neg fun hd=>hno x eZ ⟨o,ho,hd⟩]
theorem zv {fr fr1:Fr}{h h1:ak}{o:Oper}(e:step E call nt l fr o h=some (fr1,h1)) (ha:j9 E o=false) :
  h1=h∨∃ k mk,eT E o.op=.alloc∧dB l fr o=some true∧gQ E fr o=some (k,mk)∧h1=ai h k:=by
 obtain⟨v,_,⟨_,_,rfl⟩|⟨hw,vH⟩⟩:=sU e
 ·exact .inl rfl
 ·unfold jl at vH;unfold j9 at ha;split at vH;·simp only[aY,bA]at vH;obtain⟨_,_,_,rfl⟩:=vH;exact .inl rfl
  ·simp only[aY,bA]at vH;obtain⟨_,_,_,rfl⟩:=vH;exact .inl rfl
  ·rename_i hk;simp only[aY,bA]at vH;obtain⟨⟨k,mk⟩,hal,_,rfl⟩:=vH;exact .inr ⟨k,mk,hk,hw,hal,rfl⟩
  ·rename_i hk;rw[hk]at ha;cases ha
theorem BK {fr:Fr}{h:ak}{i:Nat}{o:Oper}:∀ {ag:List Nat},mi E l fr h ag=true→i∈ag→l[i]?=some o→dB l fr o=some true →
   ∃ v v',gH E fr o h=some v∧o.dst.bind fr.get=some v'∧v=v'
 | [],_,hi,_,_=>by cases hi
 | j::ag,e,hi,ho,hw=>by
   simp only[mi,aZ]at e;rcases cM.1 hi with rfl|hi
   · have e:=e.1;rw[dL,ho]at e;simp only[hw]at e;split at e;· rename_i v v' h1 h2;exact⟨v,v',h1,h2,wA _ _ _ e⟩
     · cases e
   · exact BK e.2 hi ho hw
theorem Mx {o:Oper}:oI E o=true↔eT E o.op=.read:=by unfold oI;cases eT E o.op<;>simp
section
variable {pl:List Item}
theorem mf.nodup (hp:mf E mm l (cf l []) pl) {A B:List Item}{z y:Item}(e:pl=A++B) (hz:z∈A) (hy:y∈B):z.i≠y.i:=by obtain⟨s1,s2,rfl⟩:=pG hy;obtain⟨o,b,_,_,h,_⟩:=hp.at_ (A++s1) y s2 (by rw[e,jB]);exact h z (jw _ hz)
theorem mf.DG (hp:mf E mm l (cf l []) pl) {pre suf:List Item}{x:Item}{b q:Nat}(e:pl=pre++x::suf) (hb:(cf l [])[x.i]?=some b) (hq:b.testBit q=true):∃ y∈pre,y.i=q:=by obtain⟨o,b',ho,hb',_,hpre,_⟩:=hp.at_ pre x suf e;refine bef (l:=l) (S:=fun j=>∃ y∈pre,y.i=j) ?_ q x.i o b ho hb hpre hq;rintro i oi ⟨y,hy,rfl⟩ hoi ed hed hbd;obtain⟨p1,p2,rfl⟩:=pG hy;obtain⟨o2,b2,ho2,hb2,_,hpre2,_⟩:=hp.at_ p1 y (p2++x::suf) (by rw[e,jB];rfl);rw[hoi]at ho2;cases ho2;obtain⟨z,hz,e⟩:=hpre2 ed hed hbd;exact⟨z,jw _ hz,e⟩
theorem mf.pos (hp:mf E mm l (cf l []) pl) {i:Nat}{o:Oper}(ho:l[i]?=some o):∃ pre x suf,pl=pre++x::suf∧x.i=i:=by obtain⟨x,hx,e⟩:=hp.cov i (cQ.1 ho).1;obtain⟨p,s,e2⟩:=pG hx;exact⟨p,x,s,e2,e⟩
theorem stay (hp:mf E mm l (cf l []) pl) {S:Nat→Prop}(hS:AE l S) {pre1:List Item}{x:Item}{o:Oper}(ho:l[x.i]?=some o) (hr:oI E o=true) (hs:¬S x.i)
   {fr1:Fr}{h1:ak}{v:Value}(hw:dB l fr1 o=some true) (hpv:∀ frx hx,aJ E call nt l [x] fr1 h1=some (frx,hx)→∀ d,o.dst=some d→frx.get d=some v) :
   ∀ (mid m1 rest:List Item) (frp frm:Fr) (hq hm:ak),pl=pre1++(x::m1)++mid++rest→(∀ y∈mid,∀ oy,l[y.i]?=some oy→j9 E oy=true→S y.i) →
     aJ E call nt l (x::m1) fr1 h1=some (frp,hq)→gH E fr1 o hq=some v→aJ E call nt l mid frp hq=some (frm,hm)→gH E fr1 o hm=some v
 | [],m1,rest,frp,frm,hq,hm,e,hacts,hat,hrd,hmid=>by simp only[aJ,aS,bA]at hmid;rw[← hmid.2];exact hrd
 | y::mid,m1,rest,frp,frm,hq,hm,e,hacts,hat,hrd,hmid=>by
   obtain⟨oy,fry,hy,hoy,hst,hn,hag,hmid⟩:=j8 hmid;have hat':aJ E call nt l (x::(m1++[y])) fr1 h1=some (fry,hy):=by
     have:aJ E call nt l [y] frp hq=some (fry,hy):=by simp only[aJ,dL,hoy,hst,ble_eq,hn,hag,decide_true,dP,cond_true]
     exact tH hat this
   refine stay (pre1:=pre1) hp hS ho hr hs hw hpv mid (m1++[y]) rest fry frm hy hm (by rw[e];simp) (fun z hz=>hacts z (fU _ hz)) hat' ?_ hmid;cases ha:j9 E oy with
   | false =>
     rcases zv hst ha with rfl|⟨k,mk,_,_,_,rfl⟩
     · exact hrd
     · exact E' k hrd
   | true =>
     have hSy:=hacts y eZ oy hoy ha
     have epre:pl=(pre1++x::m1)++y::(mid++rest):=by rw[e];simp
     have ex:pl=pre1++x::(m1++y::(mid++rest)):=by rw[e];simp
     obtain⟨oy',by_,hoy',hby,_,hprey,_,hrr⟩:=hp.at_ _ y _ epre
     rw[hoy]at hoy';cases hoy'
     have hnb:¬by_.testBit x.i=true:=fun hb=>hs (bef hS x.i y.i oy by_ hoy hby (hS y.i oy hSy hoy) hb)
     have hxm:x∈pre1++x::m1:=an
     rcases hrr ha x hxm o ho hr with hb|⟨hmem,hfine⟩
     · exact absurd hb hnb
     · obtain⟨_,bx,hox',hbx,hndx,_⟩:=hp.at_ _ x _ ex;have hag2:∀ t∈looks l o,fry.get t=fr1.get t:=by
         intro t ht;refine kK hat' fun z hz hw=>?_;have hzx:z∈x::m1∨z=y:=by
           rcases cM.1 hz with rfl|hz;· exact .inl eZ
           · rcases dV.1 hz with hz|hz;· exact .inl (fU _ hz)
             · exact .inr (by simpa using hz)
         rcases hfine bx hbx t ht z.i hw with hb|hb
         · obtain⟨u,hu,hue⟩:=hp.DG ex hbx hb;have:z∈x::(m1++y::(mid++rest)):=by
             rcases hzx with hz|rfl
             · rcases cM.1 hz with rfl|hz;· exact eZ
               · simp[hz]
             · simp
           exact hp.nodup ex hu this hue
         · rcases hzx with hz|rfl;· exact hb z (qg _ hz) rfl
           · rcases hp.bP x.i o bx t ho hbx ht z.i hw with h2|h2|⟨bq,hbq,h2⟩;· exact hb x hxm h2
             · obtain⟨u,hu,hue⟩:=hp.DG ex hbx h2;exact hb u (jw _ hu) hue
             · rw[hby]at hbq;cases hbq;exact hnb h2
       have hwy:dB l fry o=some true:=by rw[qH hag2];exact hw
       obtain⟨v1,v2,hv1,hv2,rfl⟩:=BK hag hmem ho hwy;have hd:v1=v:=by
         cases hdst:o.dst with
         | none=>rw[hdst]at hv2;cases hv2
         | some d =>
           rw[hdst]at hv2
           simp only[vB]at hv2
           have:aJ E call nt l ([x]++(m1++[y])) fr1 h1=some (fry,hy):=hat'
           obtain⟨frx,hx,e1,e2⟩:=iy this
           rw[kK e2 fun z hz hw=>?_,hpv frx hx e1 d hdst]at hv2
           · exact(gY hv2).symm
           · have:=hp.once _ _ _ hw ⟨o,ho,hdst⟩;have hz2:z∈m1++y::(mid++rest):=by
               rcases dV.1 hz with hz|hz;· simp[hz]
               · simp at hz;simp[hz]
             exact hp.nodup (A:=pre1++[x]) (B:=m1++y::(mid++rest)) (by rw[ex];simp) (z:=x) an hz2 this.symm
       subst hd;rw[← qw (nN hag2)];exact hv1
variable {fr0 frN:Fr}{h0 hN:ak}
theorem agree (hp:mf E mm l (cf l []) pl) (hrun:aJ E call nt l pl fr0 h0=some (frN,hN)) {S:Nat→Prop}(hS:AE l S) {pre1 suf1:List Item}{x:Item}{o:Oper}(e:pl=pre1++x::suf1) (ho:l[x.i]?=some o) (hs:¬S x.i)
  (hpre:∀ e∈o.after,Region.binds .any e=true→S e.on) {fr1:Fr}{h1:ak}(hat:aJ E call nt l pre1 fr0 h0=some (fr1,h1)) {frS:Fr}
  (hW:∀ i t,S i→wr l i t→frS.get t=frN.get t) (hN':∀ t,(∀ i,S i→¬wr l i t)→frS.get t=fr0.get t) :
  ∀ t∈looks l o,frS.get t=fr1.get t:=by
 intro t ht
 obtain⟨o',b,ho',hb,rQ,_⟩:=hp.at_ pre1 x suf1 e
 rw[ho]at ho';cases ho'
 have hrest:aJ E call nt l (x::suf1) fr1 h1=some (frN,hN):=by rw[e]at hrun;obtain⟨f,hh,e1,e2⟩:=iy hrun;rw[hat]at e1;cases e1;exact e2
 by_cases hq:∃ q,wr l q t
 ·obtain⟨q,hq⟩:=hq;rcases hp.bP x.i o b t ho hb ht q hq with rfl|hbq|⟨bq,hbq,hbit⟩;·rw[hN' t fun i hi hw=>hs (hp.once _ _ _ hw hq▸hi)];rw[kK hat fun y hy hw=>rQ y hy (hp.once _ _ _ hw hq)]
  ·have hSq:S q:=bef hS q x.i o b ho hb hpre hbq;rw[hW q t hSq hq];obtain⟨z,hz,hzq⟩:=hp.DG e hb hbq;exact kK hrest fun y hy hw=>hp.nodup e hz hy (hzq.trans (hp.once _ _ _ hq hw))
  ·obtain⟨oq,hoq,_⟩:=id hq;have hSq:¬S q:=fun hSq=>hs (bef hS x.i q oq bq hoq hbq (hS q oq hSq hoq) hbit);rw[hN' t fun i hi hw=>hSq (hp.once _ _ _ hw hq▸hi)];rw[kK hat fun y hy hw=>?_];have:=hp.once _ _ _ hw hq;subst this;obtain⟨p1,p2,rfl⟩:=pG hy;obtain⟨z,hz,hzq⟩:=hp.DG (pre:=p1) (suf:=p2++x::suf1) (by rw[e,jB];rfl) hbq hbit;exact rQ z (jw _ hz) hzq
 ·rw[hN' t fun i _ hw=>hq ⟨i,hw⟩];rw[kK hat fun y _ hw=>hq ⟨_,hw⟩]
end
end
section
variable {mm:Bool}{P:Program}{E:Env}{call:Fn→List Value→ak→Option (Value×ak)}{nt:Nat}{l:List Oper}
structure Inv (P:Program) (E:Env) (call:Fn→List Value→ak→Option (Value×ak)) (nt:Nat) (l:List Oper) (pl:List Item) (fr0 frN:Fr) (ρ0:Ren) (h0:ak) (w0:World)
  (B:Nat) (S:Nat→Prop) (pre suf:List Item) (frT:Fr) (hT:ak) (ρ:Ren) (frS:Fr) (a:Act) (w:World):Prop where
 pl:pl=pre++suf
 at_:aJ E call nt l pre fr0 h0=some (frT,hT)
 aX:∀ y∈pre,∀ o,l[y.i]?=some o→j9 E o=true→S y.i
 out:∀ y∈suf,¬S y.i
 closed:AE l S
 fr:FR E ρ frS a
 st:dG P ρ0 h0 w0 ρ hT w
 Sr:a.tmps.size=nt
 df:DR P B ρ w a.defers
 oV:∀ i t,S i→wr l i t→frS.get t=frN.get t
 oU:∀ t,(∀ i,S i→¬wr l i t)→frS.get t=fr0.get t
 tY:∀ pre1 x m,pre=pre1++x::m→¬S x.i→∀ o fr1 h1 k mk,l[x.i]?=some o→eT E o.op=.alloc→aJ E call nt l pre1 fr0 h0=some (fr1,h1)→dB l fr1 o=some true →
  gQ E fr1 o=some (k,mk)→ρ h1.n=none∧hT.b.get h1.n=some k∧h0.n≤h1.n∧h1.n<hT.n
theorem dG.grow {ρ:Ren}{h:ak}{w:World}(hr:HR P ρ h w) (k:iY):dG P ρ h w ρ (ai h k) w where
 le:=Ren.le_refl _
 hr:=hr.grow k
 n:=by simp[ai]
 new i x e e0:=by rw[e]at e0;cases e0
 bM i hi _:=kZ hi
 os:=rfl
 tape:=rfl
 output:=rfl
 size:=aQ _
 frame _ _ _:=rfl
 Fe i b c e _:=⟨i,c,e,.inl rfl⟩
 stays i x e:=by have:=(hr.gG i x.1 x.2 e).1;intro _;rw[kZ this]
theorem dG.bind {ρ0 ρ:Ren}{h0 h:ak}{w0 w:World}(hs:dG P ρ0 h0 w0 ρ h w) {i c:Nat}{k:iY}{o:Obj}(hi:i<h.n) (h0i:h0.n≤i) (hn:ρ i=none) (hk:h.b.get i=some k) (hb:BR P ρ c k o) :
  dG P ρ0 h0 w0 (ρ.Er i (w.heap.size,c)) h { w with heap:=w.heap.push o } where
 le:=Ren.le_trans hs.le (Ren.se _ hn)
 hr:=hs.hr.bind hi hn hk hb rfl
 n:=hs.n
 new j x e e0:=by
  by_cases hj:j=i;·omega
  ·rw[Ren.iG ρ _ hj]at e;exact hs.new j x e e0
 bM:=hs.bM
 os:=hs.os
 tape:=hs.tape
 output:=hs.output
 size:=by have:=hs.size;simp;omega
 frame b hb hno:=by show (w.heap.push o)[b]?=_;rw[mV,if_neg (by have:=hs.size;omega)];exact hs.frame b hb hno
 Fe j b d e aT:=by
  by_cases hj:j=i;·subst hj;rw[Ren.dD]at e;cases e;have:=hs.size;omega
  ·rw[Ren.iG ρ _ hj]at e;exact hs.Fe j b d e aT
 stays:=hs.stays
theorem settle {fr0 frN:Fr}{S:Nat→Prop}{frS frS':Fr}{i:Nat}{o:Oper}{v:Value}(ho:l[i]?=some o) (hW:∀ i t,S i→wr l i t→frS.get t=frN.get t)
  (hN':∀ t,(∀ i,S i→¬wr l i t)→frS.get t=fr0.get t) (hput:put nt frS o v=some frS') (hc:∀ d,o.dst=some d→frN.get d=some v) :
  (∀ j t,(S j∨j=i)→wr l j t→frS'.get t=frN.get t)∧(∀ t,(∀ j,(S j∨j=i)→¬wr l j t)→frS'.get t=fr0.get t):=by
 constructor
 ·intro j t hj hw;rw[yw hput];by_cases hd:o.dst=some t;·rw[if_pos hd,hc t hd]
  ·rw[if_neg hd];rcases hj with hj|rfl;·exact hW j t hj hw
   ·obtain⟨o',ho',hd'⟩:=hw;rw[ho]at ho';cases ho';exact absurd hd' hd
 ·intro t hno;rw[yw hput,if_neg fun hd=>hno i (.inr rfl) ⟨o,ho,hd⟩];exact hN' t fun j hj=>hno j (.inl hj)
section
variable {pl:List Item}{fr0 frN:Fr}{ρ0:Ren}{h0 hN:ak}{w0:World}
theorem advance {B:Nat}(hp:mf E mm l (cf l []) pl) (hrun:aJ E call nt l pl fr0 h0=some (frN,hN)) {S:Nat→Prop}{ρ:Ren}{frS:Fr}{a:Act}{w:World}:∀ (suf pre:List Item) (frT:Fr) (hT:ak),Inv P E call nt l pl fr0 frN ρ0 h0 w0 B S pre suf frT hT ρ frS a w →
   ∃ pre' suf' frT' hT',Inv P E call nt l pl fr0 frN ρ0 h0 w0 B S pre' suf' frT' hT' ρ frS a w∧(suf'=[]∨∃ x s o,suf'=x::s∧l[x.i]?=some o∧j9 E o=true)
 | [],pre,frT,hT,inv=>⟨pre,[],frT,hT,inv,.inl rfl⟩
 | x::s,pre,frT,hT,inv=>by
   obtain⟨o,b,ho,hb,_⟩:=hp.at_ pre x s inv.pl;cases ha:j9 E o with
   | true=>exact⟨pre,x::s,frT,hT,inv,.inr ⟨x,s,o,rfl,ho,ha⟩⟩
   | false =>
     have hrest:aJ E call nt l (x::s) frT hT=some (frN,hN):=by have:=hrun;rw[inv.pl]at this;obtain⟨f,hh,e1,e2⟩:=iy this;rw[inv.at_]at e1;cases e1;exact e2
     obtain⟨o',fr1,h1,ho',hst,hn,hag,hrest⟩:=j8 hrest
     rw[ho]at ho';cases ho'
     have hx1:aJ E call nt l [x] frT hT=some (fr1,h1):=by simp only[aJ,dL,ho,hst,ble_eq,hn,hag,decide_true,dP,cond_true]
     have hq:=zv hst ha
     refine advance hp hrun s (pre++[x]) fr1 h1 {
       pl:=by rw[inv.pl];simp
       at_:=tH inv.at_ hx1
       aX:=fun y hy oy hoy hay=>?_
       out:=fun y hy=>inv.out y (fU _ hy)
       closed:=inv.closed
       fr:=inv.fr
       st:=?_
       Sr:=inv.Sr
       df:=inv.df
       oV:=inv.oV
       oU:=inv.oU
       tY:=?_ }
     · rcases dV.1 hy with hy|hy;· exact inv.aX y hy oy hoy hay
       · simp only[jC]at hy;subst hy;rw[ho]at hoy;cases hoy;rw[ha]at hay;cases hay
     · rcases hq with rfl|⟨k,mk,_,_,_,rfl⟩;· exact inv.st
       · exact inv.st.trans (dG.grow inv.st.hr k)
     · intro pre1 y m e hSy oy fry hy k mk hoy hky haty hwy hal;rcases zb m with rfl|⟨m',z,rfl⟩
       · have:=mT e rfl;obtain⟨rfl,e2⟩:=this;cases e2;rw[inv.at_]at haty;cases haty;rw[ho]at hoy;cases hoy;rcases hq with h1e|⟨k',mk',_,_,hal',rfl⟩;·
           exfalso
           obtain⟨v,_,⟨hw,_⟩|⟨hw,vH⟩⟩:=sU hst
           · rw[hwy]at hw;cases hw
           · unfold jl at vH;rw[hky]at vH;simp only[hal,bS,aS,bA]at vH;have:=congrArg ak.n vH.2;rw[h1e]at this;simp[ai]at this
         · rw[hal]at hal';cases hal';exact⟨inv.st.hr.fresh,by simp[ai,T.aj],inv.st.n,by simp[ai]⟩
       · have e3:pre++[x]=(pre1++y::m')++[z]:=by rw[e];simp
         obtain⟨e4,_⟩:=mT e3 rfl;obtain⟨g1,g2,g3,g4⟩:=inv.tY pre1 y m' e4 hSy oy fry hy k mk hoy hky haty hwy hal;rcases hq with rfl|⟨k',mk',_,_,_,rfl⟩;· exact⟨g1,g2,g3,g4⟩
         · exact⟨g1,by rw[kZ g4];exact g2,g3,by simp[ai];omega⟩
theorem Cg (hp:mf E mm l (cf l []) pl) (hrun:aJ E call nt l pl fr0 h0=some (frN,hN)) {pre suf:List Item}{x:Item}{o:Oper}{fr1:Fr}{h1:ak}(e:pl=pre++x::suf) (ho:l[x.i]?=some o) (hat:aJ E call nt l pre fr0 h0=some (fr1,h1)) :
   ∃ frx hx v,step E call nt l fr1 o h1=some (frx,hx)∧aJ E call nt l [x] fr1 h1=some (frx,hx)∧aJ E call nt l suf frx hx=some (frN,hN)∧h1.n≤hx.n∧put nt fr1 o v=some frx∧(∀ d,o.dst=some d→frx.get d=some v)∧(∀ d,o.dst=some d→frN.get d=some v) ∧
     ((dB l fr1 o=some false∧v=undef∧hx=h1)∨(dB l fr1 o=some true∧jl E call fr1 o h1=some (v,hx))):=by
 have hrest:aJ E call nt l (x::suf) fr1 h1=some (frN,hN):=by have:=hrun;rw[e]at this;obtain⟨f,hh,e1,e2⟩:=iy this;rw[hat]at e1;cases e1;exact e2
 obtain⟨o',frx,hx,ho',hst,hn,hag,hrest⟩:=j8 hrest
 rw[ho]at ho';cases ho'
 have hx1:aJ E call nt l [x] fr1 h1=some (frx,hx):=by simp only[aJ,dL,ho,hst,ble_eq,hn,hag,decide_true,dP,cond_true]
 obtain⟨v,hput,hcase⟩:=sU hst
 have hd:∀ d,o.dst=some d→frx.get d=some v:=fun d hd=>by rw[yw hput,if_pos hd]
 refine⟨frx,hx,v,hst,hx1,hrest,hn,hput,hd,fun d hdd=>?_,hcase⟩
 rw[kK hrest fun y hy hw=>?_,hd d hdd]
 have:=hp.once _ _ _ hw ⟨o,ho,hdd⟩
 exact hp.nodup (A:=pre++[x]) (B:=suf) (by rw[e];simp) (z:=x) an hy this.symm
end
end
section
variable {mm:Bool}{P:Program}{E:Env}{F:Fence}{n:Nat}{call:Fn→List Value→ak→Option (Value×ak)}{nt:Nat}{ops:Array Oper}
variable {pl:List Item}{fr0 frN:Fr}{ρ0:Ren}{h0 hN:ak}{w0:World}{B:Nat}
abbrev FH (P:Program) (E:Env) (call:Fn→List Value→ak→Option (Value×ak)) (nt:Nat) (ops:Array Oper) (pl:List Item) (fr0 frN:Fr) (ρ0:Ren) (h0:ak) (w0:World) (B:Nat) (listed:Array Bool) :=
 Inv P E call nt ops.toList pl fr0 frN ρ0 h0 w0 B (fun i=>listed.getD i false=true)
theorem DR.push {ρ:Ren}{w:World}{ds:List Deferred}(hd:DR P B ρ w ds) (i c:Nat) (o:Obj):DR P B (ρ.Er i (w.heap.size,c)) { w with heap:=w.heap.push o } ds:=by
 refine⟨hd.nd,fun d hm=>?_⟩;rcases hd.each d hm with ⟨D,e,hB,hD,hi⟩|hh
 ·have aT:=(fq.1 hD).1;refine .inl ⟨D,e,hB,?_,fun j c' hh=>?_⟩;·show (w.heap.push o)[D]?=_;rw[mV,if_neg ah];exact hD
  ·by_cases hj:j=i;·subst hj;rw[Ren.dD]at hh;cases hh;omega
   ·rw[Ren.iG ρ _ hj]at hh;exact hi j c' hh
 ·exact .inr hh
theorem dz {listed:Array Bool}{i j:Nat}(hi:i<listed.size):((listed.setIfInBounds i true).getD j false=true)↔(listed.getD j false=true∨j=i):=by
 simp only[lr,Array.getElem?_setIfInBounds];by_cases h:i=j;·subst h;simp[hi]
 ·simp[h,bV h]
theorem count_set {listed:Array Bool}{i n:Nat}(hi:i<listed.size) (hf:listed.getD i true=false) (hc:listed.toList.count false=n+1):(listed.setIfInBounds i true).toList.count false=n:=by
 have hg:listed.toList[i]'(by simpa using hi)=false:=by simp only[lr,sZ hi,lz]at hf;simpa using hf
 rw[Array.toList_setIfInBounds,List.count_set (by simpa using hi),hg];simp[hc]
theorem uo (hp:mf E mm ops.toList (cf ops.toList []) pl) {listed:Array Bool}(hsz:listed.size=ops.size) (h:Region.ready .any ops listed=[]) :
   ∀ (suf pre:List Item),pl=pre++suf→(∀ y∈pre,listed.getD y.i false=true)→∀ y∈pl,listed.getD y.i false=true
 | [],pre,e,hh,y,hy=>by rw[e,ei]at hy;exact hh y hy
 | x::s,pre,e,hh,y,hy=>by
   obtain⟨o,b,ho,_,_,hpre,_⟩:=hp.at_ pre x s e;refine uo hp hsz h s (pre++[x]) (by rw[e];simp) (fun z hz=>?_) y hy;rcases dV.1 hz with hz|hz;· exact hh z hz
   · simp only[jC]at hz;subst hz;rw[lj]at ho;have aT:z.i<listed.size:=by rw[hsz];exact(fq.1 ho).1
     by_cases hf:listed.getD z.i true=false;· have:z.i∈Region.ready .any ops listed:=mem_ready.2 ⟨hf,o,ho,fun ed hed hbd=>by obtain⟨u,hu,hue⟩:=hpre ed hed hbd;rw[← hue];exact hh u hu⟩;rw[h]at this;cases this
     · simp only[lr,sZ aT,lz,Bool.not_eq_false]at hf ⊢;exact hf
theorem finish (hp:mf E mm ops.toList (cf ops.toList []) pl) (hrun:aJ E call nt ops.toList pl fr0 h0=some (frN,hN)) {listed:Array Bool}(hsz:listed.size=ops.size) (h:Region.ready .any ops listed=[])
   {pre suf:List Item}{frT:Fr}{hT:ak}{ρ:Ren}{frS:Fr}{a:Act}{w:World}(inv:FH P E call nt ops pl fr0 frN ρ0 h0 w0 B listed pre suf frT hT ρ frS a w) :
   rJ B P E ρ0 h0 w0 nt frN hN a w:=by
 have hall:=uo hp hsz h pl [] rfl an
 have hsuf:suf=[]:=by
   cases hs:suf with
   | nil=>rfl
   | cons x s =>
     have:=inv.out x (by rw[hs];exact eZ)
     exact absurd (hall x (by rw[inv.pl,hs];simp)) this
 subst hsuf
 have hpl:pl=pre:=by rw[inv.pl];simp
 have hat:=inv.at_
 rw[← hpl,hrun]at hat
 cases hat
 refine⟨ρ,⟨inv.fr.Ga,fun t=>?_⟩,inv.st,inv.Sr,inv.df⟩
 have:frS.get t=frN.get t:=by
   by_cases hq:∃ q,wr ops.toList q t;· obtain⟨q,hq⟩:=hq;obtain⟨oq,hoq,_⟩:=id hq;obtain⟨x,hx,rfl⟩:=hp.cov q (cQ.1 hoq).1;exact inv.oV _ t (hall x hx) hq
   · rw[inv.oU t fun i _ hw=>hq ⟨i,hw⟩,kK hrun fun y _ hw=>hq ⟨_,hw⟩]
 rw[← this]
 exact inv.fr.tmp t
theorem Gc {l:List Oper}{pre2 m3:List Item}{y:Item}{oy:Oper}{fr0 fr2 fr3:Fr}{h0 h2 h3:ak}{k:iY}{mk:Nat→Value}(hoy:l[y.i]?=some oy) (hky:eT E oy.op=.alloc)
  (hat:aJ E call nt l pre2 fr0 h0=some (fr2,h2)) (hw:dB l fr2 oy=some true) (hal:gQ E fr2 oy=some (k,mk)) (hat3:aJ E call nt l (pre2++y::m3) fr0 h0=some (fr3,h3)):h2.n<h3.n:=by
 obtain⟨f,hh,e1,e2⟩:=iy hat3
 rw[hat]at e1;cases e1
 obtain⟨o,frx,hx,ho,hst,hn,hag,e2⟩:=j8 e2
 rw[hoy]at ho;cases ho
 have:=Sl e2
 obtain⟨v,_,⟨hw',_⟩|⟨_,vH⟩⟩:=sU hst
 ·rw[hw]at hw';cases hw'
 ·unfold jl at vH;rw[hky]at vH;simp only[hal,bS,aS,bA]at vH;have h4:=congrArg ak.n vH.2;simp[ai]at h4;omega
theorem IV (hE:bJ P E) (hF:J2 F) (hp:mf E mm ops.toList (cf ops.toList []) pl) (hrun:aJ E call nt ops.toList pl fr0 h0=some (frN,hN)) {listed:Array Bool}(hsz:listed.size=ops.size)
   {pre suf:List Item}{frT:Fr}{hT:ak}{ρ:Ren}{frS:Fr}{a:Act}{w:World}(inv:FH P E call nt ops pl fr0 frN ρ0 h0 w0 B listed pre suf frT hT ρ frS a w)
   {pre1 m:List Item}{x:Item}{o:Oper}(epre:pre=pre1++x::m) (ho:ops[x.i]?=some o) (hs:¬listed.getD x.i false=true) (ha:j9 E o=false) (hpre:∀ e∈o.after,Region.binds .any e=true→listed.getD e.on false=true)
   {Q:Exit→Act→World→Prop}{K:Act→World→Prop}(k:∀ ρ' frS' a' w',FH P E call nt ops pl fr0 frN ρ0 h0 w0 B (listed.setIfInBounds x.i true) pre suf frT hT ρ' frS' a' w'→K a' w'):wpOpIn F n P ops Q x.i K a w:=by
 have aT:x.i<listed.size:=by rw[hsz];exact(fq.1 ho).1
 have ho':ops.toList[x.i]?=some o:=by rw[lj];exact ho
 have epl:pl=pre1++x::(m++suf):=by rw[inv.pl,epre];simp
 obtain⟨fr1,h1,hat1,hat2⟩:∃ fr1 h1,aJ E call nt ops.toList pre1 fr0 h0=some (fr1,h1)∧aJ E call nt ops.toList (x::m) fr1 h1=some (frT,hT):=by have:=inv.at_;rw[epre]at this;exact iy this
 obtain⟨frx,hx,v,hst,hx1,hrest,hn,hput,hdx,hdN,hcase⟩:=Cg hp hrun epl ho' hat1
 have hag:=agree hp hrun inv.closed epl ho' hs hpre hat1 inv.oV inv.oU
 obtain⟨frS',hputS⟩:=Ft hput frS
 obtain⟨hW',hN'⟩:=settle (fr0:=fr0) ho' inv.oV inv.oU hputS hdN
 have hcl:AE ops.toList (fun i=>(listed.setIfInBounds x.i true).getD i false=true):=by
   intro i oi hi hoi ed hed hbd;rw[dz aT]at hi ⊢;rcases hi with hi|rfl;· exact .inl (inv.closed i oi hi hoi ed hed hbd)
   · rw[ho']at hoi;cases hoi;exact .inl (hpre ed hed hbd)
 have mk:∀ (ρ':Ren) (w':World) (v':Value),VR ρ' v v'→ρ.le ρ'→dG P ρ0 h0 w0 ρ' hT w'→(∀ i,ρ' i≠ρ i→i=h1.n∧eT E o.op=.alloc∧∃ k mk,dB ops.toList fr1 o=some true∧gQ E fr1 o=some (k,mk))→DR P B ρ' w' a.defers →
     FH P E call nt ops pl fr0 frN ρ0 h0 w0 B (listed.setIfInBounds x.i true) pre suf frT hT ρ' frS' (a.put o.dst v') w':=by
   intro ρ' w' v' r hle hst' hdiff hdr
   exact {
     pl:=inv.pl
     at_:=inv.at_
     aX:=fun y hy oy hoy hay=>(dz aT).2 (.inl (inv.aX y hy oy hoy hay))
     out:=fun y hy hh=>by
       rcases(dz aT).1 hh with hh|hh;· exact inv.out y hy hh
       · exact hp.nodup (A:=pre) (B:=suf) inv.pl (z:=x) (by rw[epre];simp) hy hh.symm
     closed:=hcl
     fr:=FR.put (inv.fr.mono hle) inv.Sr r hputS
     st:=hst'
     Sr:=by rw[sn];exact inv.Sr
     df:=by rw[put_defers];exact hdr
     oV:=fun j t hj=>hW' j t ((dz aT).1 hj)
     oU:=fun t hno=>hN' t fun j hj=>hno j ((dz aT).2 hj)
     tY:=by
       intro pre2 y m2 e2 hSy oy fry hy kk mkk hoy hky haty hwy hal;have hSy1:¬listed.getD y.i false=true:=fun hh=>hSy ((dz aT).2 (.inl hh));have hyx:y.i≠x.i:=fun hh=>hSy ((dz aT).2 (.inr hh));obtain⟨g1,g2,g3,g4⟩:=inv.tY pre2 y m2 e2 hSy1 oy fry hy kk mkk hoy hky haty hwy hal;refine⟨?_,g2,g3,g4⟩;cases hd:decide (ρ' hy.n=ρ hy.n) with
       | true=>rw[of_decide_eq_true hd];exact g1
       | false =>
         exfalso
         obtain⟨hid,hk,k2,mk2,hw2,hal2⟩:=hdiff _ (of_decide_eq_false hd)
         rw[epre]at e2
         rcases List.append_eq_append_iff.1 e2 with ⟨c,hc1,hc2⟩|⟨c,hc1,hc2⟩
         · cases c with
           | nil=>simp only[gy,pV]at hc2;exact hyx (by rw[hc2.1])
           | cons z c =>
             simp only[mo,pV]at hc2
             rw[hc1,← hc2.1]at haty
             have:=Gc ho' hk hat1 hw2 hal2 haty
             omega
         · cases c with
           | nil=>simp only[gy,pV]at hc2;exact hyx (by rw[hc2.1])
           | cons z c =>
             simp only[mo,pV]at hc2
             rw[hc1,← hc2.1]at hat1
             have:=Gc hoy hky haty hwy hal hat1
             omega }
 have hwS:dB ops.toList frS o=dB ops.toList fr1 o:=qH hag
 have vH:=nN (E:=E) hag
 unfold wpOpIn
 simp only[ho]
 rcases hcase with ⟨hw,rfl,rfl⟩|⟨hw,hopv⟩
 · rw[jU inv.fr (hwS.trans hw),if_neg an];exact⟨fun f _=>hF.fn f,k _ _ _ _ (mk ρ w undef (VR.undef ρ) (Ren.le_refl _) inv.st (fun i h=>absurd rfl h) inv.df)⟩
 · rw[jU inv.fr (hwS.trans hw),if_pos rfl];have rQ:=zL hopv;unfold jl at hopv;unfold j9 at ha;split at hopv
   · simp only[aY,bA]at hopv;obtain⟨u,e,rfl,rfl⟩:=hopv;rw[← xW vH]at e;rcases Jr hE inv.fr e w with ⟨v',n',hr,r⟩|⟨c,hoc,hq⟩;· exact pq hF rQ hr rfl (k _ _ _ _ (mk ρ _ v' r (Ren.le_refl _) (inv.st.trans (dG.draw inv.st.hr n')) (fun i h=>absurd rfl h) (inv.df.step (dG.draw inv.st.hr n'))))
     · exact Eu hE hF hoc inv.fr inv.st.hr hq fun v' w' r hs'=>k _ _ _ _ (mk ρ _ v' r (Ren.le_refl _) (inv.st.trans hs') (fun i h=>absurd rfl h) (inv.df.step hs'))
   · rename_i hk;simp only[aY,bA]at hopv;obtain⟨u,e,rfl,rfl⟩:=hopv;have hstay:=stay (pre1:=pre1) hp inv.closed ho' (Mx.2 hk) hs hw (fun frx2 hx2 e2 d hd=>by rw[hx1]at e2;cases e2;exact hdx d hd)
       m [] suf frx frT h1 hT (by rw[epl];simp) (fun y hy oy hoy hay=>inv.aX y (by rw[epre];simp[hy]) oy hoy hay) (by simpa using hx1) e
       (by obtain⟨f,hh,e1,e2⟩:=iy (xs:=[x]) (ys:=m) (by simpa using hat2);rw[hx1]at e1;cases e1;exact e2)
     rw[← qw vH]at hstay;obtain⟨v',hr,r⟩:=EP hE inv.fr inv.st.hr hstay;exact pq hF rQ hr rfl (k _ _ _ _ (mk ρ w v' r (Ren.le_refl _) inv.st (fun i h=>absurd rfl h) inv.df))
   · rename_i hk;simp only[aY,bA]at hopv;obtain⟨⟨kb,mkb⟩,e,rfl,rfl⟩:=hopv;obtain⟨g1,g2,g3,g4⟩:=inv.tY pre1 x m epre hs o fr1 h1 kb mkb ho' hk hat1 hw e;rw[← oW vH]at e;obtain⟨obj,mk',hr,hb,hd,hv⟩:=Cw hE inv.fr e;refine pq hF rQ (hr w) rfl (k _ _ _ _ (mk (ρ.Er h1.n (w.heap.size,0)) _ _ (hv _ _ _ (Ren.dD _ _ _)) (Ren.se _ g1) (dG.bind inv.st g4 g3 g1 g2 hb) (fun i hi=>?_) (inv.df.push _ _ _)));by_cases hin:i=h1.n;· rw[oW vH]at e;exact⟨hin,hk,kb,mkb,hw,e⟩
     · exact absurd (Ren.iG ρ _ hin) hi
   · rename_i hk;rw[hk]at ha;cases ha
theorem Sb (hE:bJ P E) (hF:J2 F) (hc:jD P E call) (hp:mf E mm ops.toList (cf ops.toList []) pl) (hrun:aJ E call nt ops.toList pl fr0 h0=some (frN,hN)) {listed:Array Bool}(hsz:listed.size=ops.size)
  {pre s:List Item}{frT:Fr}{hT:ak}{ρ:Ren}{frS:Fr}{a:Act}{w:World}{x:Item}(inv:FH P E call nt ops pl fr0 frN ρ0 h0 w0 B listed pre (x::s) frT hT ρ frS a w)
  {o:Oper}(ho:ops[x.i]?=some o) (hs:¬listed.getD x.i false=true) (hpre:∀ e∈o.after,Region.binds .any e=true→listed.getD e.on false=true)
  {Q:Exit→Act→World→Prop}{K:Act→World→Prop}(k:∀ frT' hT' ρ' frS' a' w',FH P E call nt ops pl fr0 frN ρ0 h0 w0 B (listed.setIfInBounds x.i true) (pre++[x]) s frT' hT' ρ' frS' a' w'→K a' w'):wpOpIn F n P ops Q x.i K a w:=by
 have aT:x.i<listed.size:=by rw[hsz];exact(fq.1 ho).1
 have ho':ops.toList[x.i]?=some o:=by rw[lj];exact ho
 obtain⟨frx,hx,v,hst,hx1,hrest,hn,hput,hdx,hdN,hcase⟩:=Cg hp hrun inv.pl ho' inv.at_
 have hag:=agree hp hrun inv.closed inv.pl ho' hs hpre inv.at_ inv.oV inv.oU
 obtain⟨frS',hputS⟩:=Ft hput frS
 obtain⟨hW',hN'⟩:=settle (fr0:=fr0) ho' inv.oV inv.oU hputS hdN
 have mk:∀ (ρ':Ren) (w':World) (v':Value),VR ρ' v v'→dG P ρ hT w ρ' hx w'→FH P E call nt ops pl fr0 frN ρ0 h0 w0 B (listed.setIfInBounds x.i true) (pre++[x]) s frx hx ρ' frS' (a.put o.dst v') w':=by intro ρ' w' v' r hst';exact {
   pl:=by rw[inv.pl];simp
   at_:=tH inv.at_ hx1
   aX:=fun y hy oy hoy hay=>(dz aT).2 (by
    rcases dV.1 hy with hy|hy;·exact .inl (inv.aX y hy oy hoy hay)
    ·exact .inr (by simp only[jC]at hy;rw[hy]))
   out:=fun y hy hh=>by
    rcases(dz aT).1 hh with hh|hh;·exact inv.out y (fU _ hy) hh
    ·exact hp.nodup (A:=pre++[x]) (B:=s) (by rw[inv.pl];simp) (z:=x) an hy hh.symm
   closed:=by
    intro i oi hi hoi ed hed hbd;rw[dz aT]at hi ⊢;rcases hi with hi|rfl;·exact .inl (inv.closed i oi hi hoi ed hed hbd)
    ·rw[ho']at hoi;cases hoi;exact .inl (hpre ed hed hbd)
   fr:=FR.put (inv.fr.mono hst'.le) inv.Sr r hputS
   st:=inv.st.trans hst'
   Sr:=by rw[sn];exact inv.Sr
   df:=by rw[put_defers];exact inv.df.step hst'
   oV:=fun j t hj=>hW' j t ((dz aT).1 hj)
   oU:=fun t hno=>hN' t fun j hj=>hno j ((dz aT).2 hj)
   tY:=by
    intro pre2 y m2 e2 hSy oy fry hy kk mkk hoy hky haty hwy hal;have hSy1:¬listed.getD y.i false=true:=fun hh=>hSy ((dz aT).2 (.inl hh));rcases zb m2 with rfl|⟨m',z,rfl⟩;·obtain⟨_,e3⟩:=mT e2 rfl;cases e3;exact absurd ((dz aT).2 (.inr rfl)) hSy
    ·have e3:pre++[x]=(pre2++y::m')++[z]:=by rw[e2];simp
     obtain⟨e4,_⟩:=mT e3 rfl;obtain⟨g1,g2,g3,g4⟩:=inv.tY pre2 y m' e4 hSy1 oy fry hy kk mkk hoy hky haty hwy hal;refine⟨?_,by rw[hst'.bM _ g4 g1];exact g2,g3,bX g4 hst'.n⟩;cases hh:ρ' hy.n with
     | none=>rfl
     | some q=>have:=hst'.new _ q hh g1;omega }
 have hwS:dB ops.toList frS o=dB ops.toList frT o:=qH hag
 unfold wpOpIn
 simp only[ho]
 rcases hcase with ⟨hw,rfl,rfl⟩|⟨hw,hopv⟩
 ·rw[jU inv.fr (hwS.trans hw),if_neg an];exact⟨fun f _=>hF.fn f,k _ _ _ _ _ _ (mk ρ w undef (VR.undef ρ) (dG.refl inv.st.hr))⟩
 ·rw[jU inv.fr (hwS.trans hw),if_pos rfl];rw[← Jc (nN (E:=E) hag)]at hopv;exact Rs hE hF hc inv.fr inv.st.hr hopv fun v' ρ' w' r hs'=>k _ _ _ _ _ _ (mk ρ' w' v' r hs')
theorem xD (hE:bJ P E) (hF:J2 F) (hc:jD P E call) (hp:mf E true ops.toList (cf ops.toList []) pl) (hrun:aJ E call nt ops.toList pl fr0 h0=some (frN,hN)) {Q:Exit→Act→World→Prop}
   (hk:∀ a' w',rJ B P E ρ0 h0 w0 nt frN hN a' w'→Q .normal a' w'):∀ (fuel:Nat) (listed:Array Bool) (pre suf:List Item) (frT:Fr) (hT:ak) (ρ:Ren) (frS:Fr) (a:Act) (w:World),
     listed.size=ops.size→listed.toList.count false=fuel→FH P E call nt ops pl fr0 frN ρ0 h0 w0 B listed pre suf frT hT ρ frS a w→wpAnyIn F n P .any ops Q fuel listed a w
 | 0,listed,pre,suf,frT,hT,ρ,frS,a,w,hsz,hcn,inv=>by
   have hnil:Region.ready .any ops listed=[]:=by
     rw[List.eq_nil_iff_forall_not_mem];intro i hi;obtain⟨hf,o,ho,_⟩:=mem_ready.1 hi;have aT:i<listed.size:=by rw[hsz];exact(fq.1 ho).1
     simp only[lr,sZ aT,lz]at hf;have:false∈listed.toList:=by rw[← hf];simp
     exact pe.1 hcn this
   exact⟨hnil,hk a w (finish hp hrun hsz hnil inv)⟩
 | fuel+1,listed,pre,suf,frT,hT,ρ,frS,a,w,hsz,hcn,inv=>by
   refine⟨fun hnil=>hk a w (finish hp hrun hsz hnil inv),fun i hi=>?_⟩;obtain⟨hf,o,ho,hpre⟩:=mem_ready.1 hi;have ho':ops.toList[i]?=some o:=by rw[lj];exact ho
   have aT:i<listed.size:=by rw[hsz];exact(fq.1 ho).1
   have hs:¬listed.getD i false=true:=by simp only[lr,sZ aT,lz]at hf ⊢;simp[hf]
   obtain⟨pre',suf',frT',hT',inv',hhead⟩:=advance hp hrun suf pre frT hT inv;obtain⟨p1,x,s1,epl,hxi⟩:=hp.pos ho';subst hxi;have hsz':(listed.setIfInBounds x.i true).size=ops.size:=by simp[hsz]
   have hcn':=count_set aT hf hcn;have hx:x∈pre'++suf':=by rw[← inv'.pl,epl];simp
   rcases dV.1 hx with hx|hx
   · obtain⟨q1,q2,eq⟩:=pG hx;cases ha:j9 E o with
     | true=>exact absurd (inv'.aX x hx o ho' ha) hs
     | false=>exact IV hE hF hp hrun hsz inv' eq ho hs ha hpre fun ρ' frS' a' w' inv2=>xD hE hF hc hp hrun hk fuel _ pre' suf' frT' hT' ρ' frS' a' w' hsz' hcn' inv2
   · rcases hhead with rfl|⟨y,s,oy,rfl,hoy,hya⟩;· cases hx
     · rcases cM.1 hx with rfl|hx;· rw[ho']at hoy;cases hoy;exact Sb hE hF hc hp hrun hsz inv' ho hs hpre fun frT2 hT2 ρ' frS' a' w' inv2=>xD hE hF hc hp hrun hk fuel _ _ s frT2 hT2 ρ' frS' a' w' hsz' hcn' inv2
       · exfalso;obtain⟨u1,u2,rfl⟩:=pG hx;obtain⟨ox,bx,hox,hbx,_,_,hacts,_⟩:=hp.at_ (pre'++y::u1) x u2 (by rw[inv'.pl];simp);have hbit:=hacts rfl y an oy hoy hya;rw[ho']at hox;cases hox;have:=bef inv'.closed y.i x.i o bx ho' hbx hpre hbit;exact inv'.out y eZ this
theorem Hb (hE:bJ P E) (hF:J2 F) (hc:jD P E call) {id:Nat}{ρ:Ren}{h h':ak}{fr fr':Fr}{a:Act}{w:World}{pl:List Item}(hpl:yK E ops.toList=some pl) (hrun:aJ E call nt ops.toList pl fr h=some (fr',h'))
   (hf:FR E ρ fr a) (hr:HR P ρ h w) (hnt:a.tmps.size=nt) (hd:DR P B ρ w a.defers) {Q:Exit→Act→World→Prop}(hk:∀ a' w',rJ B P E ρ h w nt fr' h' a' w'→Q .normal a' w'):(Code.region id ops true).wpIn F n P Q a w:=by
 refine wpIn_region_any hE.mixed ?_
 unfold yK at hpl
 simp only at hpl
 cases hok:D9 E true ops.toList (cf ops.toList []) (O3 E ops.toList (cf ops.toList [])) with
 | false=>rw[hok]at hpl;cases hpl
 | true =>
   rw[hok]at hpl
   simp only[cond_true,aS]at hpl
   subst hpl
   have hp:=planF hok
   have hnone:∀ i,¬(Array.replicate ops.size false).getD i false=true:=by intro i;simp only[lr,Array.getElem?_replicate];split<;>simp
   refine xD (ρ0:=ρ) (w0:=w) hE hF hc hp hrun hk ops.size (Array.replicate ops.size false) [] _ fr h ρ fr a _ an an {
     pl:=rfl
     at_:=rfl
     aX:=an
     out:=fun y _=>hnone _
     closed:=fun i o hi=>absurd hi (hnone i)
     fr:=hf
     st:=dG.draw hr _
     Sr:=hnt
     df:=hd.step (dG.draw hr _)
     oV:=fun i t hi=>absurd hi (hnone i)
     oU:=fun t _=>rfl
     tY:=by intro pre1 x m e;simp at e }
end
theorem T.pF {α:Type}(x y:α):∀ (n i:Nat) (t:T α),T.qX n (T.qX n t i x) i y=T.qX n t i y
 | 0,_,_=>rfl
 | n+1,i,.leaf=>by
   rw[T.wP,T.wP];by_cases h0:i=0;· simp[h0,T.jy]
   · by_cases h1:i%2=1;· simp[h0,h1,T.jy,T.pF x y n]
     · simp[h0,h1,T.jy,T.pF x y n]
 | n+1,i,.node l v r=>by
   rw[T.jy,T.jy];by_cases h0:i=0;· simp[h0,T.jy]
   · by_cases h1:i%2=1;· simp[h0,h1,T.jy,T.pF x y n]
     · simp[h0,h1,T.jy,T.pF x y n]
theorem T.set_set {α:Type}(t:T α) (i:Nat) (x y:α):(t.set i x).set i y=t.set i y:=T.pF x y _ i t
section
variable {P:Program}{F:Fence}{n:Nat}{Q:Exit→Act→World→Prop}{a:Act}{w:World}
def we (F:Fence) (n:Nat) (P:Program) (c:Code) (Q:Exit→Act→World→Prop):Nat→Act→World→Prop
 | 0,_,_=>False
 | m+1,a,w=>c.wpIn F n P (Exit.then (we F n P c Q m) Q) a w
theorem xM {c:Code}(m:Nat) (h:we F n P c Q m a w):(Code.loop c).wpIn F n P Q a w:=by
 intro b k cs hro hb hr;have key:∀ m a w,we F n P c Q m a w →
     ∃ e a' w',Q e a' w'∧ArrivesIn (Machine.fenced P F) P (lone (b.atR a (.code c::.inLoop c::k)) cs w) b k cs e a' w':=by
   intro m
   induction m with
   | zero=>intro a w h;exact h.elim
   | succ m ih =>
     intro a w h
     obtain⟨e,a₁,w₁,hq,harr⟩:=h b (.inLoop c::k) cs hro hb hr
     cases e with
     | normal =>
       obtain⟨e₂,a₂,w₂,hq₂,harr₂⟩:=ih a₁ w₁ hq
       exact⟨e₂,a₂,w₂,hq₂,.of_steps (StepsIn.trans harr (.one (fenced_calm hb hr rfl) stepR_inLoop)) harr₂⟩
     | exit id=>exact⟨_,a₁,w₁,hq,.pass (x:=.inLoop c) rfl (fun _ _=>.inl an) harr⟩
     | goto l=>exact⟨_,a₁,w₁,hq,.pass (x:=.inLoop c) rfl (fun _ _=>.inl an) harr⟩
     | ret=>exact⟨_,a₁,w₁,hq,.pass (x:=.inLoop c) rfl (fun _ _=>.inl an) harr⟩
     | panic ch=>exact⟨_,a₁,w₁,hq,.pass (x:=.inLoop c) rfl (fun _ _=>.inl an) harr⟩
     | outgrown=>exact⟨_,a₁,w₁,hq,.pass (x:=.inLoop c) rfl (fun _ _=>.inl an) harr⟩
 obtain⟨e,a',w',hq,harr⟩:=key m a w h;exact⟨e,a',w',hq,.of_steps (.one (fenced_calm hb hr rfl) stepR_loop) harr⟩
theorem jW {b:Frame}{k:List Go.Item}{cs:List Frame}{c:Code}:Go.step P (lone (b.atR a (.code (.scope c)::k)) cs w)=.next (lone (b.atR a (.code c::.inScope c::k)) cs w) :=
 step_lone_go (by simp[stepG,stepG.exec,Frame.atR])
theorem Br {b:Frame}{k:List Go.Item}{cs:List Frame}{c:Code}:Go.step P (lone (b.atR a (.inScope c::k)) cs w)=.next (lone (b.atR a k) cs w) :=
 step_lone_go (by simp[stepG,stepG.exec,Frame.atR])
theorem tX {c:Code}(h:c.wpIn F n P (Exit.noGoto Q) a w):(Code.scope c).wpIn F n P Q a w:=by
 intro b k cs hro hb hr;have h0:(lone (b.atR a (.code (.scope c)::k)) cs w).fenced P F:=fenced_calm hb hr rfl;obtain⟨e,a₁,w₁,hq,harr⟩:=h b (.inScope c::k) cs hro hb hr;cases e with
 | normal=>exact⟨.normal,a₁,w₁,hq,.head h0 jW (StepsIn.trans harr (.one (fenced_calm hb hr rfl) Br))⟩
 | exit id =>
   have hx:exitTo id (.inScope c::k)=exitTo id k:=by simp[exitTo]
   exact⟨.exit id,a₁,w₁,hq,fun k' hk=>.head h0 jW (harr.1 k' (by rw[hx];exact hk)),
     fun hr' hk=>let ⟨k₁,h1,h2⟩:=harr.2 hr' (by rw[hx];exact hk);⟨k₁,h1,.head h0 jW h2⟩⟩
 | goto l=>exact hq.elim
 | ret=>exact⟨_,a₁,w₁,hq,.of_steps (.one h0 jW) harr⟩
 | panic ch=>exact⟨_,a₁,w₁,hq,.of_steps (.one h0 jW) harr⟩
 | outgrown=>exact⟨_,a₁,w₁,hq,.of_steps (.one h0 jW) harr⟩
end
end Go.Ev
