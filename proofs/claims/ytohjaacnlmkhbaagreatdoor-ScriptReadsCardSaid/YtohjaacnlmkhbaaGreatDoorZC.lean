/- THE EVALUATOR: a deterministic reading of the program's code over an abstract heap, and that the model does what it says (3). Conditions: none beyond each theorem's own. -/
import Derived.Test.YtohjaacnlmkhbaaGreatDoorZB
import Derived.Calls
import Derived.Scope
import Derived.LoopN
import Derived.OrdersIn
import Derived.RangeFuncIn
import Derived.RangeFuncRecord
import Derived.RangeFuncCalls
import Derived.Laws.IdiomRangeMap
set_option linter.unusedSimpArgs false
set_option linter.unusedVariables false
namespace Go.Ev
section
variable {P:Program}{E:Env}{ρ:Ren}{h:Heap}{w:World}
def GR (E:Env) (ρ:Ren):Prop:=∀ g,g<E.ng→∃ c,ρ g=some (g,c)
theorem GR.mono {ρ':Ren}(hg:GR E ρ) (hle:ρ.le ρ'):GR E ρ':=fun g aB=>let ⟨c,e⟩:=hg g aB;⟨c,hle _ _ e⟩
theorem FR.mono {ρ':Ren}{fr:Fr}{a:Act}(hf:FR E ρ fr a) (hle:ρ.le ρ'):FR E ρ' fr a :=
 ⟨GR.mono hf.wx hle,fun t v e=>(hf.tmp t v e).mono hle⟩
structure yp (F:Fence):Prop where
 fn:∀ f,F.fn f
 depth:F.depth=none
 calls:∀ (n:Nat) (P:Program) (f:FuncId) (args:Array Value) (w:World) (R:Ending→World→Prop),Calls P f args w R→CallsIn F n P f args w R
 rounds:∀ (n:Nat) (P:Program) (l:Nat) (f:FuncId) (tmps:Array Value) (assign body:Code) (w:World) (R:Ending→World→Prop),RoundIn Fence.wide n P l f tmps assign body w R→RoundIn F n P l f tmps assign body w R
theorem Tk:yp Fence.wide:=⟨fun _=>trivial,rfl,fun _ _ _ _ _ _ h=>callsIn_wide.2 h,fun _ _ _ _ _ _ _ _ _ h=>h⟩
theorem DC (l:Nat):yp (Fence.wide.inRound l):=⟨fun _=>trivial,rfl,fun _ _ _ _ _ _ h=>CallsIn.inRound l (callsIn_wide.2 h),fun _ _ _ _ _ _ _ _ _ h=>h⟩
inductive FnR (ρ:Ren):Fn→Fn→Prop
 | func (f:FuncId):FnR ρ (.func f) (.func f)
 | yield {i b c:Nat}(h:ρ i=some (b,c)):FnR ρ (.yield i) (.yield b)
def rQ:Fn→Array Value→Sem Next
 | .func f,args=>callFunc f args
 | .yield l,args=>Instr.yield l args
 | _,_=>pure .skip
def Bt (P:Program) (ρ:Ren) (h:Heap) (w:World) (v:Value) (h':Heap) (e:Ending) (w':World):Prop :=
 ∃ v' ρ',e=.returned v'∧VR ρ' v v'∧bV P ρ h w ρ' h' w'
def Oz (P:Program) (ρ:Ren) (h:Heap) (w:World) (fn':Fn) (args':Array Value) (v:Value) (h':Heap):Prop :=
 N8 P ρ h w (rQ fn' args') v h' ∨
 (∃ f as,(rQ fn' args').run P w=.ok (.enter f as) w∧Calls P f as w (Bt P ρ h w v h')) ∨
 (∃ l f tmps assign body,(rQ fn' args').run P w=.ok (.round l f tmps assign body) w∧∀ n,RoundIn Fence.wide n P l f tmps assign body w (Bt P ρ h w v h'))
def dZ (P:Program) (E:Env) (call:Fn→List Value→Heap→Option (Value×Heap)):Prop :=
 ∀ fn args h v h',call fn args h=some (v,h')→∀ (ρ:Ren) (w:World) (fn':Fn) (args':Array Value),HR P ρ h w→GR E ρ→FnR ρ fn fn'→dp ρ args args'.toList→Oz P ρ h w fn' args' v h'
theorem pT {F:Fence}{n:Nat}{o:Oper}{a:Act}{s:Sem Next}{v:Value}{h':Heap}{K:Act→World→Prop}{Q:Exit→Act→World→Prop}
  (hok:N8 P ρ h w s v h') (k:∀ v' ρ' w',VR ρ' v v'→bV P ρ h w ρ' h' w'→K (a.put o.dst v') w'):o.uponIn F n P a K Q (s.run P w):=by
 obtain⟨n,v',ρ',w',hrun,hn,r,hs⟩:=hok
 rw[hrun]
 have:=k v' ρ' w' r hs
 cases n<;>simp[SQ]at hn<;>subst hn<;>exact this
theorem pH {F:Fence}{n:Nat}(hF:yp F) {o:Oper}{a:Act}{K:Act→World→Prop}{Q:Exit→Act→World→Prop}(hd:∀ c,o.op≠.defer c)
  (k:o.uponIn F n P a K Q ((execOp a.eval o).run P w)):o.wpIn F n P a w K Q:=by
 refine⟨fun f _=>hF.fn f,?_⟩
 rw[Oper.semAt_eq F.round a.eval o hd]
 exact k
theorem jH {F:Fence}{n:Nat}(hF:yp F) {o:Oper}{a:Act}{nx:Next}{v':Value}{w':World}{K:Act→World→Prop}{Q:Exit→Act→World→Prop}(hd:∀ c,o.op≠.defer c)
  (hrun:(execOp a.eval o).run P w=.ok nx w') (hn:SQ nx=some v') (k:K (a.put o.dst v') w'):o.wpIn F n P a w K Q:=by
 refine pH hF hd ?_
 rw[hrun]
 cases nx<;>simp[SQ]at hn<;>subst hn<;>exact k
theorem wG {fr:Fr}{a:Act}{c:Call}{ty:TypeId}{f:Fn}{args:List Value}(hf:FR E ρ fr a) (e:target E fr c=some (f,args)) :
   ∃ (fn':Fn) (args':Array Value),FnR ρ f fn'∧dp ρ args args'.toList∧∀ w:World,((resolve a.eval c ty).run P w).andThen (fun d w=>(invoke d.target d.args).run P w)=(rQ fn' args').run P w:=by
 unfold target at e
 split at e
 · cases e
 rename_i args0 hargs
 split at e
 · rename_i g hcal;have rargs:dp ρ args0 (c.args.map a.eval).toList:=by have:=Az hf hargs;simpa using this
   split at e
   · rename_i fn first cap hfv
     cases e;have r:=aP hf hfv;generalize hge:a.eval g=gv at r;cases r with
     | func _ _ _ first' cap' _ r1 r2 =>
       refine⟨.func fn,first'++c.args.map a.eval++cap',.func fn,?_,fun w=>?_⟩
       · simp only[Array.toList_append];exact(r1.append rargs).append r2
       · simp[resolve,hcal,hge,Deferred.ofValue,invoke,rQ]
   · rename_i l first cap hfv
     cases e;have r:=aP hf hfv;generalize hge:a.eval g=gv at r;cases r with
     | func _ _ _ _ _ hy _ _=>cases hy
     | @yield _ b _ hi =>
       refine⟨.yield b,c.args.map a.eval,.yield hi,rargs,fun w=>?_⟩
       simp[resolve,hcal,hge,Deferred.ofValue,invoke,rQ]
   · cases e
 · cases e
theorem uT {call:Fn→List Value→Heap→Option (Value×Heap)}{fr:Fr}{o:Oper}{p:Value×Heap}(e:fF E call fr o h=some p):∀ c,o.op≠.defer c:=by
 intro c hc;unfold fF at e;have hk:kindOf E o.op=.act:=by rw[hc];rfl
 rw[hk]at e;simp[hc,iw]at e
theorem bV.SX {w':World}(hr:HR P ρ h w) (hb:RowKit.Below w.heap.size w w'):bV P ρ h w ρ h w' where
 le:=Ren.le_refl _
 hr:={
  gT:=fun i b c e=>⟨(hr.gT i b c e).1,Nat.lt_of_lt_of_le (hr.gT i b c e).2 hb.size⟩
  ib:=fun i b c e=>by obtain⟨k,o,e1,e2,e3⟩:=hr.ib i b c e;exact⟨k,o,e1,by rw[hb.block b (hr.gT i b c e).2];exact e2,e3⟩
  inj:=hr.inj }
 n:=Nat.le_refl _
 new i x e e0:=by rw[e]at e0;cases e0
 h_ _ _ _:=rfl
 os:=hb.os
 tape:=hb.tape
 output:=hb.output
 size:=hb.size
 frame b aB _:=hb.block b aB
 uG i b c e _:=⟨i,c,e,.inl rfl⟩
 stays _ _ _ _:=rfl
theorem Cx (hE:aH P E) {F:Fence}{n:Nat}(hF:yp F) {fr:Fr}{a:Act}{o:Oper}{c:Call}{v:Value}(ho:o.op=.call c) (hf:FR E ρ fr a) (hr:HR P ρ h w) (e:lX E fr c=some v)
   {K:Act→World→Prop}{Q:Exit→Act→World→Prop}(k:∀ v' w',VR ρ v v'→bV P ρ h w ρ h w'→K (a.put o.dst v') w'):o.wpIn F n P a w K Q:=by
 refine pH hF (fun c' hc'=>by rw[ho]at hc';cases hc') ?_
 unfold lX at e
 split at e
 · rename_i f hcal;cases hq:E.qf f with
   | false=>rw[hq]at e;cases e
   | true =>
     rw[hq,cond_true]at e;split at e
     · rename_i l hl;have ht:target E fr c=some (.func f,l):=by unfold wk at hl;simp only[target,hl,hcal,ev];simp
       obtain⟨fn',args',rfn,rargs,hrun⟩:=wG (P:=P) (ty:=o.type) hf ht;have hex:(execOp a.eval o).run P w=(rQ fn' args').run P w:=by simp only[execOp,ho];rw[← hrun w];simp[Sem.run_bind]
       rw[hex];cases rfn;obtain⟨h1,h2⟩:=hE.qc f l v hq e ρ w args' rargs;have h1':(rQ (.func f) args').run P w=.ok (.enter f args') w:=h1;rw[h1'];refine⟨fun hdep=>(by rw[hF.depth]at hdep;cases hdep),CallsIn.mono (hF.calls _ _ _ _ _ _ h2) fun e w' hh=>?_⟩;obtain⟨v',rfl,r,hs⟩:=hh;exact k v' w' r (bV.SX hr hs)
     · cases e
 · cases e
theorem Ln (hE:aH P E) {F:Fence}{n:Nat}(hF:yp F) {call:Fn→List Value→Heap→Option (Value×Heap)}(hc:dZ P E call) {fr:Fr}{a:Act}{o:Oper}{v:Value}{h':Heap}
  (hf:FR E ρ fr a) (hr:HR P ρ h w) (e:fF E call fr o h=some (v,h')) {K:Act→World→Prop}{Q:Exit→Act→World→Prop}
  (k:∀ v' ρ' w',VR ρ' v v'→bV P ρ h w ρ' h' w'→K (a.put o.dst v') w'):o.wpIn F n P a w K Q:=by
 have oH:=uT e
 unfold fF at e
 split at e
 ·simp only[Option.map_eq_some_iff,Prod.mk.injEq]at e;obtain⟨u,e,rfl,rfl⟩:=e;rcases Hj hE hf e w with ⟨v',n,hrun,r⟩|⟨c,ho,hq⟩;·exact jH hF oH hrun rfl (k v' ρ _ r (bV.draw hr n))
  ·exact Cx hE hF ho hf hr hq fun v' w' r hs=>k v' ρ w' r hs
 ·simp only[Option.map_eq_some_iff,Prod.mk.injEq]at e;obtain⟨u,e,rfl,rfl⟩:=e;obtain⟨v',hrun,r⟩:=CV hE hf hr e;exact jH hF oH hrun rfl (k v' ρ w r (bV.refl hr))
 ·simp only[Option.map_eq_some_iff,Prod.mk.injEq]at e;obtain⟨⟨bk,mk⟩,e,rfl,rfl⟩:=e;obtain⟨obj,mk',hrun,hb,hd,hv⟩:=zz hE hf e;refine jH hF oH (hrun w) rfl (k _ (ρ.tK h.n (w.heap.size,0)) _ (hv _ _ _ (Ren.bh _ _ _)) ?_);exact bV.alloc hr hb rfl rfl rfl rfl
 ·refine pH hF oH ?_;split at e
  ·rename_i c ho;split at e;·exact pT (Hf hE hf hr e) k
   ·split at e
    ·rename_i f args ht;obtain⟨fn',args',rfn,rargs,hrun⟩:=wG (P:=P) (ty:=o.type) hf ht;have hex:(execOp a.eval o).run P w=(rQ fn' args').run P w:=by simp only[execOp,ho];rw[← hrun w];simp[Sem.run_bind]
     rw[hex];rcases hc f args h v h' e ρ w fn' args' hr hf.wx rfn rargs with hok|⟨g,as,h1,h2⟩|⟨l,g,tmps,as,bd,h1,h2⟩;·exact pT hok k
     ·rw[h1];refine⟨fun hdep=>(by rw[hF.depth]at hdep;cases hdep),CallsIn.mono (hF.calls _ _ _ _ _ _ h2) fun e w' hh=>?_⟩;obtain⟨v',ρ',rfl,r,hs⟩:=hh;exact k v' ρ' w' r hs
     ·rw[h1];refine⟨fun hdep=>(by rw[hF.depth]at hdep;cases hdep),RoundIn.mono (hF.rounds _ _ _ _ _ _ _ _ _ (h2 _)) fun e w' hh=>?_⟩;obtain⟨v',ρ',rfl,r,hs⟩:=hh;exact k v' ρ' w' r hs
    ·cases e
  ·exact pT (Hf hE hf hr e) k
theorem CM {a:Act}{d:Nat}{v:Value}(hd:d<a.tmps.size) (t:Nat):(a.put (some d) v).tmps.getD t undef=if d=t then v else a.tmps.getD t undef:=by
 simp only[Act.put,Array.getD_eq_getD_getElem?,Array.getElem?_setIfInBounds];by_cases h:d=t;·subst h;simp[hd]
 ·simp[h]
theorem kK (a:Act) (o:Option Tmp) (v:Value):(a.put o v).tmps.size=a.tmps.size:=by cases o<;>simp[Act.put]
theorem put_defers (a:Act) (o:Option Tmp) (v:Value):(a.put o v).defers=a.defers:=by cases o<;>simp[Act.put]
theorem FR.put {fr fr':Fr}{a:Act}{o:Oper}{v v':Value}{nt:Nat}(hf:FR E ρ fr a) (hnt:a.tmps.size=nt) (r:VR ρ v v') (e:put nt fr o v=some fr'):FR E ρ fr' (a.put o.dst v'):=by
 unfold Ev.put at e;split at e
 ·rename_i d hd;rw[blt_eq]at e;by_cases aB:d<nt
  ·simp only[aB,decide_true,cond_true]at e;cases e;refine⟨hf.wx,fun t u hu=>?_⟩;rw[T.ah]at hu;rw[hd,CM (by rw[hnt];exact aB)];by_cases h:d=t;·rw[if_pos h]at hu ⊢;cases hu;exact r
   ·rw[if_neg h]at hu ⊢;exact hf.tmp t u hu
  ·simp[aB]at e
 ·rename_i hd;cases e;rw[hd];exact hf
theorem ic {fr:Fr}{a:Act}{ops:Array Oper}{o:Oper}{b:Bool}(hf:FR E ρ fr a) (e:cz ops.toList fr o=some b) :
   Region.wanted o (yielded ops a.tmps)=b:=by
 unfold cz at e
 split at e
 · rename_i hg;cases e;simp[Region.wanted,hg]
 · rename_i j wnt hg;rw[bK,Array.getElem?_toList]at e;simp only[Region.wanted,hg,yielded];cases hd:(ops[j]?).bind (·.dst) with
   | none=>simp only[hd]at e;cases e;rfl
   | some d =>
     simp only[hd]at e;simp only[Option.bind_some];have hno:∀ v,VR ρ v (a.tmps.getD d undef)→(∀ b,v≠.bool b)→∀ b,a.tmps[d]?≠some (.bool b):=by intro v r hv b hb;rw[Array.getD_eq_getD_getElem?,hb]at r;simp only[Option.getD_some]at r;cases r;exact absurd rfl (hv _)
     split at e
     · rename_i b' hb;cases e;have ht:=hf.tmp d _ hb;simp only[Array.getD_eq_getD_getElem?]at ht;cases hx:a.tmps[d]? with
       | none=>rw[hx]at ht;cases ht
       | some u=>rw[hx]at ht;simp only[Option.getD_some]at ht;cases ht;cases b'<;>cases wnt<;>rfl
     · rename_i u hu hb;cases e;have hno:=hno _ (hf.tmp d u hb) (fun b' hb'=>hu b' hb');split;· rename_i b' hb';exact absurd hb' (hno b')
       · rfl
     · cases e
structure DR (P:Program) (B:Nat) (ρ:Ren) (w:World) (ds:List Deferred):Prop where
 nd:ds.Pairwise fun d d'=>∀ D,d={ target:=.collected D,args:=#[] }→d'≠{ target:=.collected D,args:=#[] }
 each:∀ d∈ds,(∃ D,d={ target:=.collected D,args:=#[] }∧B≤D∧w.heap[D]?=some (.deferred (some []))∧∀ i c,ρ i≠some (D,c)) ∨
  ∃ f cap args,d={ target:=.fn (.func f) cap,args:=args }∧NR P f
theorem DR.nil (P:Program) (B:Nat) (ρ:Ren) (w:World):DR P B ρ w []:=⟨.nil,fun d hd=>by cases hd⟩
theorem DR.step {B:Nat}{ρ':Ren}{h':Heap}{w':World}{ds:List Deferred}(hd:DR P B ρ w ds) (hs:bV P ρ h w ρ' h' w'):DR P B ρ' w' ds:=by
 refine⟨hd.nd,fun d hm=>?_⟩;rcases hd.each d hm with ⟨D,e,hB,hD,hi⟩|hh;·have aB:=(Array.getElem?_eq_some_iff.1 hD).1;refine .inl ⟨D,e,hB,by rw[hs.frame D aB fun i c e=>absurd e (hi i c)];exact hD,fun i c hh=>?_⟩;obtain⟨j,d',hj,_⟩:=hs.uG i D c hh aB;exact hi j d' hj
 ·exact .inr hh
theorem DR.lay {B:Nat}{ds:List Deferred}(hd:DR P B ρ w ds) {f:FuncId}(hf:NR P f) (cap args:Array Value):DR P B ρ w ({ target:=.fn (.func f) cap,args:=args }::ds):=by
 refine⟨.cons (fun d _ D e=>by cases e) hd.nd,fun d hm=>?_⟩;rcases List.mem_cons.1 hm with rfl|hm;·exact .inr ⟨f,cap,args,rfl,hf⟩
 ·exact hd.each d hm
def gw (B:Nat) (P:Program) (E:Env) (ρ:Ren) (h:Heap) (w:World) (nt:Nat) (fr':Fr) (h':Heap) (a':Act) (w':World):Prop :=
 ∃ ρ',FR E ρ' fr' a'∧bV P ρ h w ρ' h' w'∧a'.tmps.size=nt∧DR P B ρ' w' a'.defers
theorem DG (hE:aH P E) {B:Nat}{F:Fence}{n:Nat}(hF:yp F) {call:Fn→List Value→Heap→Option (Value×Heap)}(hc:dZ P E call) {ops:Array Oper}{i:Nat}{fr fr':Fr}{a:Act}{o:Oper}{h':Heap}{nt:Nat}
  (hi:ops[i]?=some o) (hf:FR E ρ fr a) (hr:HR P ρ h w) (hnt:a.tmps.size=nt) (hd:DR P B ρ w a.defers) (e:step E call nt ops.toList fr o h=some (fr',h')) {K:Act→World→Prop}{Q:Exit→Act→World→Prop}
  (k:∀ a' w',gw B P E ρ h w nt fr' h' a' w'→K a' w'):wpOpIn F n P ops Q i K a w:=by
 unfold step at e
 unfold wpOpIn
 simp only[hi]
 split at e
 ·cases e
 ·rename_i hw;simp only[Option.map_eq_some_iff,Prod.mk.injEq]at e;obtain⟨f,e,rfl,rfl⟩:=e;rw[ic hf hw,if_neg (by simp)];exact⟨fun f _=>hF.fn f,k _ _ ⟨ρ,FR.put hf hnt (VR.undef ρ) e,bV.refl hr,by rw[kK];exact hnt,by rw[put_defers];exact hd⟩⟩
 ·rename_i hw;rw[ic hf hw,if_pos rfl];split at e;·rename_i p hp;obtain⟨v,h2⟩:=p;simp only[Option.map_eq_some_iff,Prod.mk.injEq]at e;obtain⟨f,e,rfl,rfl⟩:=e;exact Ln hE hF hc hf hr hp fun v' ρ' w' r hs=>k _ _ ⟨ρ',FR.put (hf.mono hs.le) hnt r e,hs,by rw[kK];exact hnt,by rw[put_defers];exact hd.step hs⟩
  ·cases e
theorem gw.trans {B:Nat}{ρ':Ren}{nt:Nat}{fr':Fr}{h₁ h':Heap}{a':Act}{w₁ w':World}(hs:bV P ρ h w ρ' h₁ w₁) (b:gw B P E ρ' h₁ w₁ nt fr' h' a' w'):gw B P E ρ h w nt fr' h' a' w':=by obtain⟨ρ2,h1,h2,h3⟩:=b;exact⟨ρ2,h1,hs.trans h2,h3⟩
theorem wU (hE:aH P E) {B:Nat}{F:Fence}{n:Nat}(hF:yp F) {call:Fn→List Value→Heap→Option (Value×Heap)}(hc:dZ P E call) {ops:Array Oper}{nt:Nat}{Q:Exit→Act→World→Prop} :
   ∀ (l:List Oper) (j:Nat) (ρ:Ren) (fr fr':Fr) (a:Act) (h h':Heap) (w:World),(∀ i,l[i]?=ops[j+i]?)→FR E ρ fr a→HR P ρ h w→a.tmps.size=nt→DR P B ρ w a.defers →
     cu E call nt ops.toList l fr h=some (fr',h')→(∀ a' w',gw B P E ρ h w nt fr' h' a' w'→Q .normal a' w')→wpOpsIn F n P ops Q (List.range' j l.length) a w
 | [],j,ρ,fr,fr',a,h,h',w,_,hf,hr,hnt,hd,e,k=>by simp only[cu,Option.some.injEq,Prod.mk.injEq]at e;obtain⟨rfl,rfl⟩:=e;exact k a w ⟨ρ,hf,bV.refl hr,hnt,hd⟩
 | o::l,j,ρ,fr,fr',a,h,h',w,hl,hf,hr,hnt,hd,e,k=>by
   simp only[cu]at e;split at e;· rename_i fr1 h1 hst;rw[List.length_cons,List.range'_succ,wpOpsIn_cons];refine DG hE hF hc (by have:=hl 0;simpa using this.symm) hf hr hnt hd hst fun a' w' ha=>?_;obtain⟨ρ',hf',hs,hnt',hd'⟩:=ha;refine wU hE hF hc l (j+1) ρ' fr1 fr' a' h1 h' w' (fun i=>by have:=hl (i+1);simp only[List.getElem?_cons_succ]at this;rw[this];congr 1;omega) hf' hs.hr hnt' hd' e fun a2 w2 ha=>k a2 w2 (ha.trans hs)
   · cases e
theorem Kd:dZ P E fun _ _ _=>none:=fun fn args h v h' e=>by cases e
theorem zP {o:Oper}(h:fc o=true):∃ c,o.op=.defer c:=by
 unfold fc at h;split at h;·rename_i c hc;exact⟨c,hc⟩
 ·cases h
theorem Cr {fr:Fr}{a:Act}{c:Call}{t:TypeId}{g:FuncId}{args:List Value}(hf:FR E ρ fr a) (e:target E fr c=some (.func g,args)) :
   ∃ cap as,(resolve a.eval c t).run P w=.ok { target:=.fn (.func g) cap,args:=as } w:=by
 unfold target at e
 split at e
 · cases e
 · split at e
   · rename_i f hcal;split at e
     · rename_i g' first cap hv
       simp only[Option.some.injEq,Prod.mk.injEq,Fn.func.injEq]at e;obtain⟨rfl,_⟩:=e;have r:=aP hf hv;generalize hce:a.eval f=u at r;cases r with
       | func _ _ _ first' cap' _ r1 r2 =>
         refine⟨cap',first'++c.args.map a.eval,?_⟩
         simp only[resolve,hcal,hce,Deferred.ofValue]
         rfl
     · simp at e
     · cases e
   · cases e
theorem xY (hE:aH P E) {B:Nat}{F:Fence}{n:Nat}(hF:yp F) (hro:F.round=none) {ops:Array Oper}{nt:Nat}{Q:Exit→Act→World→Prop} :
   ∀ (l:List Oper) (j:Nat) (ρ:Ren) (fr fr':Fr) (a:Act) (h h':Heap) (w:World),(∀ i,l[i]?=ops[j+i]?)→FR E ρ fr a→HR P ρ h w→a.tmps.size=nt→DR P B ρ w a.defers →
     kF E nt ops.toList l fr h=some (fr',h')→(∀ a' w',gw B P E ρ h w nt fr' h' a' w'→Q .normal a' w')→wpOpsIn F n P ops Q (List.range' j l.length) a w
 | [],j,ρ,fr,fr',a,h,h',w,_,hf,hr,hnt,hd,e,k=>by simp only[kF,Option.some.injEq,Prod.mk.injEq]at e;obtain⟨rfl,rfl⟩:=e;exact k a w ⟨ρ,hf,bV.refl hr,hnt,hd⟩
 | o::l,j,ρ,fr,fr',a,h,h',w,hl,hf,hr,hnt,hd,e,k=>by
   simp only[kF]at e;split at e
   · rename_i fr1 h1 hst;rw[List.length_cons,List.range'_succ,wpOpsIn_cons];have hi:ops[j]?=some o:=by have:=hl 0;simpa using this.symm
     have next:∀ a' w',gw B P E ρ h w nt fr1 h1 a' w'→wpOpsIn F n P ops Q (List.range' (j+1) l.length) a' w':=fun a' w' ha=>by obtain⟨ρ',hf',hs,hnt',hd'⟩:=ha;exact xY hE hF hro l (j+1) ρ' fr1 fr' a' h1 h' w' (fun i=>by have:=hl (i+1);simp only[List.getElem?_cons_succ]at this;rw[this];congr 1;omega) hf' hs.hr hnt' hd' e fun a2 w2 ha=>k a2 w2 (ha.trans hs)
     cases hdf:fc o with
     | false =>
       rw[hdf]at hst
       exact DG hE hF Kd hi hf hr hnt hd hst next
     | true =>
       rw[hdf]at hst
       obtain⟨c,hc⟩:=zP hdf
       simp only[cond_true]at hst
       split at hst
       · rename_i hw;have hdo:uE E fr o=true:=by cases hh:uE E fr o with|true=>rfl|false=>rw[hh]at hst;cases hst
         rw[hdo]at hst;simp only[cond_true,Option.map_eq_some_iff,Prod.mk.injEq]at hst;obtain⟨f1,hput,rfl,rfl⟩:=hst;unfold uE at hdo;rw[hc]at hdo;simp only at hdo;split at hdo
         · rename_i g args htar;obtain⟨cap,as,hrun⟩:=Cr (P:=P) (w:=w) (t:=o.type) hf htar;unfold wpOpIn;simp only[hi];rw[ic hf hw,if_pos rfl];refine⟨fun f _=>hF.fn f,?_⟩;rw[hro,Oper.semAt_none];have:(execOp a.eval o).run P w=.ok (.defer { target:=.fn (.func g) cap,args:=as }) w:=by simp only[execOp,hc];simp[hrun]
           rw[this,Oper.uponIn_defer];refine next _ _ ⟨ρ,?_,bV.refl hr,?_,?_⟩
           · exact FR.put (a:={ a with defers:=_::a.defers }) ⟨hf.wx,hf.tmp⟩ hnt (VR.undef ρ) hput
           · rw[kK];exact hnt
           · rw[put_defers];exact hd.lay (hE.RH g hdo) cap as
         · cases hdo
       · cases hst
   · cases e
end
section
variable {E:Env}
def rowOf (acc:List Nat) (o:Oper):Nat:=o.after.toList.foldl (fun s e=>cond (Region.binds .any e) (s ||| 2 ^ e.on ||| (nth acc e.on).getD 0) s) 0
theorem yL (acc:List Nat) (j:Nat):∀ (es:List Edge) (s:Nat),(es.foldl (fun s e=>cond (Region.binds .any e) (s ||| 2 ^ e.on ||| (nth acc e.on).getD 0) s) s).testBit j=true →
   s.testBit j=true∨∃ e∈es,Region.binds .any e=true∧(j=e.on∨∃ b:Nat,acc[e.on]?=some b∧b.testBit j=true)
 | [],s,h=>.inl h
 | e::es,s,h=>by
   simp only[List.foldl_cons]at h;rcases yL acc j es _ h with h|⟨e',he,hb,hh⟩
   · cases hb:Region.binds .any e with
     | false=>rw[hb]at h;exact .inl h
     | true =>
       rw[hb]at h
       simp only[cond_true,Nat.testBit_or,Bool.or_eq_true]at h
       rcases h with (h|h)|h
       · exact .inl h
       · rw[Nat.testBit_two_pow]at h;exact .inr ⟨e,List.mem_cons_self,hb,.inl (by simpa using (of_decide_eq_true h).symm)⟩
       · rw[bK]at h;cases hx:acc[e.on]? with
         | none=>rw[hx]at h;simp at h
         | some b=>rw[hx]at h;exact .inr ⟨e,List.mem_cons_self,hb,.inr ⟨b,hx,h⟩⟩
   · exact .inr ⟨e',List.mem_cons_of_mem _ he,hb,hh⟩
theorem I0 {acc:List Nat}{o:Oper}{j:Nat}(h:(rowOf acc o).testBit j=true) :
  ∃ e∈o.after.toList,Region.binds .any e=true∧(j=e.on∨∃ b,acc[e.on]?=some b∧b.testBit j=true):=by
 rcases yL acc j _ _ h with h|h
 ·simp at h
 ·exact h
theorem m_:∀ (os:List Oper) (acc:List Nat),∃ r,aL os acc=acc++r
 | [],acc=>⟨[],by simp[aL]⟩
 | o::os,acc=>by obtain⟨r,h⟩:=m_ os (acc++[rowOf acc o]);exact⟨[rowOf acc o]++r,by rw[aL,← rowOf,h,List.append_assoc]⟩
theorem j0:∀ (os:List Oper) (acc:List Nat) (i:Nat),(aL os acc)[i]?=if i<acc.length then acc[i]? else (os[i-acc.length]?).map (rowOf ((aL os acc).take i))
 | [],acc,i=>by
   simp only[aL];split;· rfl
   · rename_i h;simp;omega
 | o::os,acc,i=>by
   have hb:aL (o::os) acc=aL os (acc++[rowOf acc o]):=by rw[aL,← rowOf]
   rw[hb,j0 os];by_cases h1:i<acc.length;· rw[if_pos (by simp;omega),if_pos h1,List.getElem?_append_left h1]
   · rw[if_neg h1];by_cases h2:i=acc.length;· subst h2;rw[if_pos (by simp)];obtain⟨r,hr⟩:=m_ os (acc++[rowOf acc o]);rw[hr];simp
     · rw[if_neg (by simp;omega)];have:i-acc.length=(i-(acc++[rowOf acc o]).length)+1:=by simp;omega
       rw[this];simp
def uI (l:List Oper) (S:Nat→Prop):Prop:=∀ i o,S i→l[i]?=some o→∀ e∈o.after,Region.binds .any e=true→S e.on
theorem Xf {l:List Oper}{S:Nat→Prop}(hS:uI l S) (j:Nat):∀ (i:Nat) (o:Oper) (b:Nat),l[i]?=some o→(aL l [])[i]?=some b →
   (∀ e∈o.after,Region.binds .any e=true→S e.on)→b.testBit j=true→S j:=by
 intro i
 induction i using Nat.strongRecOn with
 | _ i ih =>
   intro o b ho hb hpre hj
   rw[j0]at hb
   simp only[List.length_nil,Nat.not_lt_zero,if_false,Nat.sub_zero,ho,Option.map_some,Option.some.injEq]at hb
   subst hb
   obtain⟨e,he,hbd,hh⟩:=I0 hj
   have he:e∈o.after:=by simpa using he
   rcases hh with rfl|⟨b',hb',hj'⟩
   · exact hpre e he hbd
   · have aB:e.on<i:=by have:=(List.getElem?_eq_some_iff.1 hb').1;simp at this;omega
     rw[List.getElem?_take_of_lt aB]at hb';have hb2:=hb';rw[j0]at hb2;simp only[List.length_nil,Nat.not_lt_zero,if_false,Nat.sub_zero,Option.map_eq_some_iff]at hb2;obtain⟨o',ho',_⟩:=hb2;exact ih e.on aB o' b' ho' hb' (hS e.on o' (hpre e he hbd) ho') hj'
def wr (l:List Oper) (i t:Nat):Prop:=∃ o,l[i]?=some o∧o.dst=some t
theorem pR {o:Oper}{t:Nat}:writes o t=true↔o.dst=some t:=by
 unfold writes;cases o.dst with
 | none=>simp
 | some d=>simp[dK]
theorem Gh:∀ {l:List Oper},z_ l=true→∀ i j t,wr l i t→wr l j t→i=j
 | [],_,i,j,t,⟨o,h,_⟩,_=>by simp at h
 | o::os,h,i,j,t,⟨x,hx,hxd⟩,⟨y,hy,hyd⟩=>by
   simp only[z_,Bool.and_eq_true]at h;obtain⟨h1,h2⟩:=h;have key:∀ (z:Oper) (k:Nat),o.dst=some t→os[k]?=some z→z.dst=some t→False:=by intro z k ho hz hzd;rw[ho]at h1;simp only[List.all_eq_true]at h1;have:=h1 z (List.mem_of_getElem? hz);rw[pR.2 hzd]at this;cases this
   cases i with
   | zero=>cases j with
     | zero=>rfl
     | succ j=>simp at hx hy;subst hx;exact(key y j hxd hy hyd).elim
   | succ i=>cases j with
     | zero=>simp at hx hy;subst hy;exact(key x i hyd hx hxd).elim
     | succ j =>
       simp at hx hy
       exact congrArg (·+1) (Gh h2 i j t ⟨x,hx,hxd⟩ ⟨y,hy,hyd⟩)
structure gW (E:Env) (mm:Bool) (l:List Oper) (bs:List Nat) (pl:List Item):Prop where
 cov:∀ i,i<l.length→∃ x∈pl,x.i=i
 at_:∀ pre x suf,pl=pre++x::suf→∃ o b,l[x.i]?=some o∧bs[x.i]?=some b∧(∀ y∈pre,y.i≠x.i) ∧
  (∀ e∈o.after,Region.binds .any e=true→∃ y∈pre,y.i=e.on) ∧
  (mm=true→∀ y∈pre,∀ oy,l[y.i]?=some oy→eG E oy=true→b.testBit y.i=true) ∧
  (eG E o=true→∀ y∈pre,∀ oy,l[y.i]?=some oy→lL E oy=true→b.testBit y.i=true ∨
   (y.i∈x.again∧∀ by_,bs[y.i]?=some by_→∀ t∈looks l oy,∀ q,wr l q t→by_.testBit q=true∨∀ z∈pre,z.i≠q))
 once:∀ i j t,wr l i t→wr l j t→i=j
 Hq:∀ i o b t,l[i]?=some o→bs[i]?=some b→t∈looks l o→∀ q,wr l q t→i=q∨b.testBit q=true∨∃ bq,bs[q]?=some bq∧bq.testBit i=true
theorem Y_ {o:Oper}(h:eG E o=true):lL E o=false:=by unfold eG at h;unfold lL;cases hk:kindOf E o.op<;>rw[hk]at h<;>first|rfl|cases h
theorem AL {mm:Bool}{l:List Oper}{bs:List Nat}{x:Item}{suf:List Item}:∀ (pre:List Item) (done fQ:Nat) (rds:List Nat),lM E mm l bs (pre++x::suf) done fQ rds=true →
   ∃ o b DONE,l[x.i]?=some o∧bs[x.i]?=some b∧(∀ j,Nat.testBit DONE j=true↔(done.testBit j=true∨∃ y∈pre,y.i=j))∧DONE.testBit x.i=false ∧
   (∀ e∈o.after,Region.binds .any e=true→DONE.testBit e.on=true) ∧
   (∀ j,fQ.testBit j=true→b.testBit j=true)∧(mm=true→∀ y∈pre,∀ oy,l[y.i]?=some oy→eG E oy=true→b.testBit y.i=true) ∧
   (eG E o=true→(∀ r,(r∈rds∨∃ y∈pre,y.i=r∧∃ oy,l[y.i]?=some oy∧lL E oy=true)→b.testBit r=true∨(r∈x.again∧sM l bs DONE r=true)))
 | [],done,fQ,rds,h=>by
   simp only[List.nil_append,lM]at h;rw[bK,bK]at h;split at h
   · rename_i o b ho hb;simp only[Bool.and_eq_true,Bool.not_eq_true']at h;obtain⟨⟨⟨h1,h2⟩,h3⟩,h4⟩:=h;have h3:=Nat.eq_of_beq_eq_true h3;refine⟨o,b,done,ho,hb,fun j=>by simp,h1,?_,?_,by simp,?_⟩;· intro e he hbd;have:=List.all_eq_true.1 h2 e (by simpa using he);simpa[hbd]using this
     · intro j hj;have:=congrArg (fun n=>Nat.testBit n j) h3;simp only[Nat.testBit_and,hj,Bool.true_and]at this;exact this
     · intro ha r hr;simp only[ha,cond_true,Bool.and_eq_true]at h4;obtain⟨⟨h5,h6⟩,_⟩:=h4;rcases hr with hr|⟨y,hy,_⟩
       · have:=List.all_eq_true.1 h5 r hr;simp only[Bool.or_eq_true,List.contains_iff_mem]at this;rcases this with this|this;· exact .inl this
         · have h7:=List.all_eq_true.1 h6 r this;simp only[Bool.and_eq_true]at h7;exact .inr ⟨this,h7.2⟩
       · cases hy
   · cases h
 | y::pre,done,fQ,rds,h=>by
   simp only[List.cons_append,lM]at h;rw[bK,bK]at h;split at h
   · rename_i oy by_ hoy hby;simp only[Bool.and_eq_true]at h;obtain⟨_,h⟩:=h;cases ha:eG E oy with
     | true =>
       simp only[ha,cond_true,Bool.and_eq_true]at h;obtain⟨_,h⟩:=h;obtain⟨o,b,DONE,h1,h2,h3,h4,h5,h6,h7,h8⟩:=AL pre _ _ _ h;refine⟨o,b,DONE,h1,h2,fun j=>?_,h4,h5,fun j hj=>h6 j ?_,fun hmm z hz oz hoz haz=>?_,fun hao r hr=>h8 hao r ?_⟩
       · rw[h3,Nat.testBit_or,Nat.testBit_two_pow];simp only[Bool.or_eq_true,decide_eq_true_eq,List.mem_cons];constructor
         · rintro((h|h)|⟨z,hz,e⟩);· exact .inl h
           · exact .inr ⟨y,.inl rfl,h⟩
           · exact .inr ⟨z,.inr hz,e⟩
         · rintro(h|⟨z,rfl|hz,e⟩);· exact .inl (.inl h)
           · exact .inl (.inr e)
           · exact .inr ⟨z,hz,e⟩
       · cases mm;· exact hj
         · rw[cond_true,Nat.testBit_or,hj,Bool.true_or]
       · rcases List.mem_cons.1 hz with rfl|hz;· exact h6 _ (by rw[hmm,cond_true,Nat.testBit_or,Nat.testBit_two_pow];simp)
         · exact h7 hmm z hz oz hoz haz
       · rcases hr with hr|⟨z,hz,e,oz,hoz,hrz⟩;· exact .inl hr
         · rcases List.mem_cons.1 hz with rfl|hz;· rw[hoy]at hoz;cases hoz;rw[Y_ ha]at hrz;cases hrz
           · exact .inr ⟨z,hz,e,oz,hoz,hrz⟩
     | false =>
       simp only[ha,cond_false]at h;obtain⟨o,b,DONE,h1,h2,h3,h4,h5,h6,h7,h8⟩:=AL pre _ _ _ h;refine⟨o,b,DONE,h1,h2,fun j=>?_,h4,h5,h6,fun hmm z hz oz hoz haz=>?_,fun hao r hr=>h8 hao r ?_⟩
       · rw[h3,Nat.testBit_or,Nat.testBit_two_pow];simp only[Bool.or_eq_true,decide_eq_true_eq,List.mem_cons];constructor
         · rintro((h|h)|⟨z,hz,e⟩);· exact .inl h
           · exact .inr ⟨y,.inl rfl,h⟩
           · exact .inr ⟨z,.inr hz,e⟩
         · rintro(h|⟨z,rfl|hz,e⟩);· exact .inl (.inl h)
           · exact .inl (.inr e)
           · exact .inr ⟨z,hz,e⟩
       · rcases List.mem_cons.1 hz with rfl|hz;· rw[hoy]at hoz;cases hoz;rw[ha]at haz;cases haz
         · exact h7 hmm z hz oz hoz haz
       · rcases hr with hr|⟨z,hz,e,oz,hoz,hrz⟩;· left;cases lL E oy<;>simp[hr]
         · rcases List.mem_cons.1 hz with rfl|hz;· rw[hoy]at hoz;cases hoz;left;simp[hrz,e]
           · exact .inr ⟨z,hz,e,oz,hoz,hrz⟩
   · cases h
theorem Dh {mm:Bool}{l:List Oper}{bs:List Nat}:∀ (pl:List Item) (done fQ:Nat) (rds:List Nat),lM E mm l bs pl done fQ rds=true→∀ i,i<l.length→done.testBit i=true∨∃ x∈pl,x.i=i
 | [],done,fQ,rds,h,i,hi=>by simp only[lM,List.all_eq_true]at h;exact .inl (h i (List.mem_range.2 hi))
 | y::pl,done,fQ,rds,h,i,hi=>by
   simp only[lM]at h;rw[bK,bK]at h;split at h
   · simp only[Bool.and_eq_true]at h;obtain⟨_,h⟩:=h;have key:∀ fQ rds,lM E mm l bs pl (done ||| 2 ^ y.i) fQ rds=true→done.testBit i=true∨∃ x∈y::pl,x.i=i:=by
       intro fQ rds h;rcases Dh pl _ _ _ h i hi with h|⟨x,hx,e⟩
       · rw[Nat.testBit_or,Nat.testBit_two_pow]at h;simp only[Bool.or_eq_true,decide_eq_true_eq]at h;rcases h with h|h;· exact .inl h
         · exact .inr ⟨y,List.mem_cons_self,h⟩
       · exact .inr ⟨x,List.mem_cons_of_mem _ hx,e⟩
     rename_i oy _ _ _ _;cases ha:eG E oy with
     | true=>simp only[ha,cond_true,Bool.and_eq_true]at h;exact key _ _ h.2
     | false=>simp only[ha,cond_false]at h;exact key _ _ h
   · cases h
theorem GU {α β:Type}{l:List α}{r:List β}{i:Nat}{x:α}{y:β}(hx:l[i]?=some x) (hy:r[i]?=some y):(((x,y),i):(α×β)×Nat)∈(l.zip r).zipIdx:=by rw[List.mem_iff_getElem?];exact⟨i,by simp[List.getElem?_zipIdx,List.getElem?_zip_eq_some,hx,hy]⟩
theorem nc (l:List Oper) {i:Nat}{o:Oper}(h:l[i]?=some o):∃ b,(aL l [])[i]?=some b:=by rw[j0];simp[h]
theorem Uf {mm:Bool}{l:List Oper}{pl:List Item}(h:sg E mm l (aL l []) pl=true):gW E mm l (aL l []) pl:=by
 simp only[sg,Bool.and_eq_true]at h;obtain⟨⟨h1,h2⟩,h3⟩:=h;refine⟨fun i hi=>?_,?_,Gh h2,?_⟩
 ·rcases Dh pl _ _ _ h3 i hi with h|h;·simp at h
  ·exact h
 ·rintro pre x suf rfl;obtain⟨o,b,DONE,g1,g2,g3,g4,g5,g6,g7,g8⟩:=AL pre _ _ _ h3;have g3':∀ j,DONE.testBit j=true↔∃ y∈pre,y.i=j:=fun j=>by rw[g3];simp
  refine⟨o,b,g1,g2,fun y hy e=>?_,fun e he hb=>(g3' _).1 (g5 e he hb),g7,fun ha y hy oy hoy hr=>?_⟩;·have:=(g3' x.i).2 ⟨y,hy,e⟩;rw[g4]at this;cases this
  ·rcases g8 ha y.i (.inr ⟨y,hy,rfl,oy,hoy,hr⟩) with g|⟨ga,gb⟩;·exact .inl g
   ·refine .inr ⟨ga,fun by_ hby t ht q hq=>?_⟩;unfold sM at gb;rw[bK,bK,hoy,hby]at gb;simp only[List.all_eq_true]at gb;obtain⟨oq,hoq,hqd⟩:=hq;have hm:(oq,q)∈l.zipIdx:=by rw[List.mem_iff_getElem?];exact⟨q,by simp[List.getElem?_zipIdx,hoq]⟩
    have:=gb t ht (oq,q) hm;simp only[pR.2 hqd,Bool.not_true,Bool.false_or,Bool.or_eq_true,Bool.not_eq_true']at this;rcases this with g|g;·exact .inl g
    ·exact .inr fun z hz e=>by have:=(g3' q).2 ⟨z,hz,e⟩;rw[g]at this;cases this
 ·intro i o b t ho hb ht q hq;obtain⟨oq,hoq,hqd⟩:=hq;obtain⟨bq,hbq⟩:=nc l hoq;unfold FZ at h1;simp only[List.all_eq_true]at h1;have:=h1 _ (GU ho hb) t ht _ (GU hoq hbq);simp only[pR.2 hqd,Bool.not_true,Bool.false_or,Bool.or_eq_true]at this;rcases this with (g|g)|g;·exact .inl (Nat.eq_of_beq_eq_true g)
  ·exact .inr (.inl g)
  ·exact .inr (.inr ⟨bq,hbq,g⟩)
end
section
variable {E:Env}{fr fr':Fr}
theorem Pl {x:Operand}(h:∀ t,t∈Lj x→fr.get t=fr'.get t):ev E fr x=ev E fr' x:=by
 cases x with
 | tmp t=>simp only[ev,h t (by simp[Lj])]
 | _=>rfl
theorem jX {α β:Type}{f g:α→Option β}:∀ {l:List α},(∀ x∈l,f x=g x)→aA f l=aA g l
 | [],_=>rfl
 | x::l,h=>by simp only[aA];rw[h x List.mem_cons_self,jX fun y hy=>h y (List.mem_cons_of_mem _ hy)]
theorem kh {xs:Array Operand}(h:∀ x∈xs,ev E fr x=ev E fr' x):wk E fr xs=wk E fr' xs :=
 jX fun x hx=>h x (by simpa using hx)
theorem zp {ps:Array (Nat×Operand)}(h:∀ x∈ps.map (·.2),ev E fr x=ev E fr' x):VU E fr ps=VU E fr' ps :=
 jX fun p hp=>by show Option.map (p.1,·) (ev E fr p.2)=Option.map (p.1,·) (ev E fr' p.2);rw[h p.2 (Array.mem_map.2 ⟨p,by simpa using hp,rfl⟩)]
theorem sU {x:Option Operand}(h:∀ y,x=some y→ev E fr y=ev E fr' y):Fh E fr x=Fh E fr' x:=by
 cases x with
 | none=>rfl
 | some y=>simp only[Fh,h y rfl]
theorem AI {o:Oper}(h:∀ x∈o.op.operands,ev E fr x=ev E fr' x):cX E fr o=cX E fr' o:=by
 obtain⟨dst,op,type,pos,after,guard⟩:=o;cases op<;>simp only[Op.operands]at h<;>simp only[cX];case build t ps=>rw[zp fun x hx=>h x (by simpa using hx)]
 case makeFunc fn first cap=>rw[kh (xs:=first) fun x hx=>h x (by simp[hx]),kh (xs:=cap) fun x hx=>h x (by simp[hx])]
 case slice t x lo hi mx =>rw[sU (x:=lo) fun y hy=>h y (by subst hy;simp),sU (x:=hi) fun y hy=>h y (by subst hy;simp),sU (x:=mx) fun y hy=>h y (by subst hy;simp),h x (by simp)]
 case call c=>rw[kh (xs:=c.args) fun x hx=>h x (by simp[Call.operands];cases c.callee<;>simp[hx])]
 all_goals first|rfl|(simp_all;done)
theorem tS {o:Oper}(h:∀ x∈o.op.operands,ev E fr x=ev E fr' x):iq E fr o=iq E fr' o:=by
 have:nv E fr o=nv E fr' o:=by
  obtain⟨dst,op,type,pos,after,guard⟩:=o;cases op<;>simp only[Op.operands]at h<;>simp only[nv];case binOp op t x y g=>rw[h x (by simp),h y (by simp)]
  case call c=>simp only[lX];rw[kh (xs:=c.args) fun x hx=>h x (by simp[Call.operands];cases c.callee<;>simp[hx])]
 unfold iq;rw[this,AI h]
theorem mM {o:Oper}(h:∀ x∈o.op.operands,ev E fr x=ev E fr' x) (H:Heap):dP E fr o H=dP E fr' o H:=by
 obtain⟨dst,op,type,pos,after,guard⟩:=o;cases op<;>simp only[Op.operands]at h<;>simp only[dP];case call c=>rw[kh (xs:=c.args) fun x hx=>h x (by simp[Call.operands];cases c.callee<;>simp[hx])]
 all_goals first|rfl|(simp_all;done)
theorem lS {o:Oper}(h:∀ x∈o.op.operands,ev E fr x=ev E fr' x):eN E fr o=eN E fr' o:=by
 obtain⟨dst,op,type,pos,after,guard⟩:=o;cases op<;>simp only[Op.operands]at h<;>simp only[eN];case buildSlice t n ps=>rw[zp fun x hx=>h x (by simpa using hx)]
 case makeMap t r=>cases r with
   | none=>cases a_ E t<;>rfl
   | some x =>
     have hx:=h x (by simp)
     cases a_ E t with
     | none=>rfl
     | some d=>cases d<;>first|rfl|simp only[hx]
 all_goals first|rfl|(simp_all;done)
theorem Dd {o:Oper}(h:∀ x∈o.op.operands,ev E fr x=ev E fr' x) (H:Heap):iw E fr o H=iw E fr' o H:=by
 obtain⟨dst,op,type,pos,after,guard⟩:=o;cases op<;>simp only[Op.operands]at h<;>simp only[iw];case call c=>rw[kh (xs:=c.args) fun x hx=>h x (by simp[Call.operands];cases c.callee<;>simp[hx])]
 all_goals first|rfl|(simp_all;done)
theorem Af {c:Call}(h:∀ x∈c.operands,ev E fr x=ev E fr' x):target E fr c=target E fr' c:=by
 unfold target;rw[jX (f:=ev E fr) (g:=ev E fr') fun x hx=>h x (by simp[Call.operands];cases c.callee<;>simp at hx ⊢<;>simp[hx])];cases hc:c.callee with
 | value f=>simp only[h f (by simp[Call.operands,hc])]
 | _=>rfl
theorem Eb {o:Oper}(h:∀ x∈o.op.operands,ev E fr x=ev E fr' x) (call:Fn→List Value→Heap→Option (Value×Heap)) (H:Heap):fF E call fr o H=fF E call fr' o H:=by
 unfold fF;rw[tS h,mM h,lS h,Dd h];cases ho:o.op with
 | call c =>
   have ht:target E fr c=target E fr' c:=Af (by intro x hx;exact h x (by rw[ho];exact hx))
   simp only[ht]
 | _=>rfl
theorem kA {l:List Oper}{o:Oper}(h:∀ t∈looks l o,fr.get t=fr'.get t):∀ x∈o.op.operands,ev E fr x=ev E fr' x:=fun x hx =>
 Pl fun t ht=>h t (List.mem_append_right _ (List.mem_flatMap.2 ⟨x,by simpa using hx,ht⟩))
theorem mW {l:List Oper}{o:Oper}(h:∀ t∈looks l o,fr.get t=fr'.get t):cz l fr o=cz l fr' o:=by
 unfold cz;cases hg:o.guard with
 | none=>rfl
 | some p =>
   obtain⟨j,w⟩:=p
   simp only
   cases hd:(nth l j).bind (·.dst) with
   | none=>rfl
   | some d=>simp only[h d (List.mem_append_left _ (by simp[hg,hd]))]
theorem cE {h:Heap}{i:Nat}{k:fa}(hi:i<h.n):(af h k).b.get i=h.b.get i:=by rw[af,T.ar _ _ (by omega)]
theorem mZ {h:Heap}{a:Addr}{n:Nat}{l:List Value}(k:fa) (e:ax h a n=some l):ax (af h k) a n=some l:=by
 unfold ax at e ⊢;rw[aD]at e ⊢;by_cases hn:n=0;·rw[if_pos hn]at e ⊢;exact e
 ·rw[if_neg hn]at e ⊢;split at e;·cases e
  ·rw[blt_eq]at e ⊢;by_cases aB:a.block<h.n
   ·rw[cE aB];have:a.block<(af h k).n:=by simp[af];omega
    simp only[aB,this,decide_true,cond_true]at e ⊢;exact e
   ·simp[aB]at e
theorem tI {h:Heap}{m:Value}{r:List (Value×Value×Nat)×Nat}(k:fa) (e:bU h m=some r):bU (af h k) m=some r:=by
 unfold bU at e ⊢;split at e
 ·rename_i j;rw[blt_eq]at e ⊢;by_cases aB:j<h.n
  ·rw[cE aB];have:j<(af h k).n:=by simp[af];omega
   simp only[aB,this,decide_true,cond_true]at e ⊢;exact e
  ·simp[aB]at e
 ·cases e
theorem DL {h:Heap}{t:TypeId}{x v:Value}(k:fa) (e:loadAt E t x h=some v):loadAt E t x (af h k)=some v:=by
 unfold loadAt at e ⊢;split at e
 ·rename_i a i hi;have one:∀ d:TypeDesc,(match ax h a 1 with|some [v]=>some v|_=>none)=some v→(match ax (af h k) a 1 with|some [v]=>some v|_=>none)=some v:=by
   intro d e;cases hc:ax h a 1 with
   | none=>rw[hc]at e;cases e
   | some l=>rw[hc]at e;rw[mZ k hc];exact e
  have agg:(ax h a i.size).map (fun l=>Value.agg l.toArray)=some v→(ax (af h k) a i.size).map (fun l=>Value.agg l.toArray)=some v:=by intro e;simp only[Option.map_eq_some_iff]at e ⊢;obtain⟨l,hl,hv⟩:=e;exact⟨l,mZ k hl,hv⟩
  (try simp only[hi]);cases hd:i.desc with
  | struct fs=>rw[hd]at e;exact agg e
  | array n el=>rw[hd]at e;exact agg e
  | invalid=>rw[hd]at e;exact e
  | _=>rw[hd]at e;exact one .invalid e
 ·cases e
theorem Bk {h:Heap}{r:Nat}{es:List (Nat×Value×Value)}(k:fa) (e:dy h (.map (some r))=some es) :
   dy (af h k) (.map (some r))=some es∧bU h (.map (some r))=none∧bU (af h k) (.map (some r))=none:=by
 simp only[dy]at e
 cases hb:Nat.blt r h.n with
 | false=>rw[hb]at e;cases e
 | true =>
   rw[hb,cond_true]at e
   have aB:r<h.n:=by simpa[Nat.blt_eq]using hb
   have hg:(af h k).b.get r=h.b.get r:=cE aB
   have hb2:Nat.blt r (af h k).n=true:=by rw[Nat.blt_eq];simp only[af];omega
   split at e
   · rename_i es0 he;cases e;simp only[dy,bU,hb,hb2,hg,he,cond_true,and_self]
   · cases e
theorem A4 {h:Heap}{t:TypeId}{m x v:Value}{ok:Bool}(k:fa) (e:iy E t m x ok h=some v):iy E t m x ok (af h k)=some v:=by
 unfold iy at e ⊢;split at e
 · rename_i kt et hu;(try simp only[hu]);split at e;· cases e
   · rename_i d hd;(try simp only[hd]);cases hc:cI E 20 kt x with
     | false=>rw[hc]at e;cases e
     | true =>
       rw[hc]at e;simp only[cond_true]at e ⊢;cases m with
       | map r =>
         cases r with
         | none=>exact e
         | some r =>
           simp only at e ⊢
           cases hg:bU h (.map (some r)) with
           | none =>
             rw[hg]at e
             simp only[Option.map_none]at e
             cases hko:iT d with
             | false=>rw[hko]at e;cases e
             | true =>
               rw[hko]at e
               simp only[cond_true]at e
               cases hs:dy h (.map (some r)) with
               | none=>rw[hs]at e;cases e
               | some es =>
                 obtain⟨g1,_,g3⟩:=Bk k hs
                 rw[hs]at e
                 rw[g3]
                 simp only[Option.map_none,cond_true,g1]
                 exact e
           | some p=>rw[hg]at e;rw[tI k hg];exact e
       | _=>cases hko:iT d<;>simp[bU,dy,hko]at e
 · cases e
theorem vH {h:Heap}{s d:TypeId}{x v:Value}(k:fa) (e:ji E s d x h=some v):ji E s d x (af h k)=some v:=by
 unfold ji at e ⊢;split at e
 ·rename_i el hs hd;(try simp only[hs,hd]);split at e;·rename_i h1;(try simp only[h1]);exact e
  ·rename_i a len c h1;(try simp only[h1]);split at e;·rename_i l hl;rw[mZ k hl];exact e
   ·cases e
  ·cases e
 ·cases e
theorem Fy {h:Heap}{t:TypeId}{x v:Value}(k:fa) (e:yl E t x h=some v):yl E t x (af h k)=some v:=by
 unfold yl at e ⊢;split at e;·rename_i h1;(try simp only[h1]);exact e
 ·rename_i h1 hne;simp only[Option.map_eq_some_iff]at e;obtain⟨r,hr,rfl⟩:=e;rw[tI k hr];rfl
 ·cases e
theorem Cu {h:Heap}{o:Oper}{v:Value}(k:fa) (e:dP E fr o h=some v):dP E fr o (af h k)=some v:=by
 unfold dP at e ⊢;split at e
 ·rename_i ho;(try simp only[ho]);split at e;·rename_i hx;(try simp only[hx]);exact DL k e
  ·cases e
 ·rename_i ho;(try simp only[ho]);split at e;·rename_i hx hi;(try simp only[hx,hi]);exact A4 k e
  ·cases e
 ·rename_i ho;(try simp only[ho]);split at e;·rename_i hx;(try simp only[hx]);exact vH k e
  ·cases e
 ·rename_i c ho;(try simp only[ho]);split at e
  ·rename_i hb;(try simp only[hb]);split at e;·rename_i h1 h2;(try simp only[h1,h2]);exact Fy k e
   ·cases e
  ·cases e
 ·cases e
end
section
variable {mm:Bool}{P:Program}{E:Env}{call:Fn→List Value→Heap→Option (Value×Heap)}{nt:Nat}{l:List Oper}
theorem im {x:Item}{xs:List Item}{fr:Fr}{h:Heap}{r:Fr×Heap}(e:ay E call nt l (x::xs) fr h=some r) :
   ∃ o fr1 h1,l[x.i]?=some o∧step E call nt l fr o h=some (fr1,h1)∧h.n≤h1.n∧fW E l fr1 h1 x.again=true∧ay E call nt l xs fr1 h1=some r:=by
 simp only[ay]at e
 rw[bK]at e
 split at e
 · cases e
 · rename_i o ho;split at e
   · rename_i fr1 h1 hst;cases hc:(Nat.ble h.n h1.n&&fW E l fr1 h1 x.again) with
     | false=>rw[hc]at e;cases e
     | true =>rw[hc]at e;simp only[Bool.and_eq_true,ble_eq,decide_eq_true_eq]at hc;exact⟨o,fr1,h1,ho,hst,hc.1,hc.2,e⟩
   · cases e
theorem dX:∀ {xs ys:List Item}{fr:Fr}{h:Heap}{r:Fr×Heap},ay E call nt l (xs++ys) fr h=some r →
   ∃ fr1 h1,ay E call nt l xs fr h=some (fr1,h1)∧ay E call nt l ys fr1 h1=some r
 | [],ys,fr,h,r,e=>⟨fr,h,rfl,e⟩
 | x::xs,ys,fr,h,r,e=>by rw[List.cons_append]at e;obtain⟨o,fr1,h1,ho,hst,hn,hag,e⟩:=im e;obtain⟨fr2,h2,e1,e2⟩:=dX e;refine⟨fr2,h2,?_,e2⟩;simp only[ay,bK,ho,hst,ble_eq,hn,hag,decide_true,Bool.and_self,cond_true,e1]
theorem kn:∀ {xs ys:List Item}{fr fr1:Fr}{h h1:Heap}{r:Fr×Heap},ay E call nt l xs fr h=some (fr1,h1)→ay E call nt l ys fr1 h1=some r →
   ay E call nt l (xs++ys) fr h=some r
 | [],ys,fr,fr1,h,h1,r,e1,e2=>by simp only[ay,Option.some.injEq,Prod.mk.injEq]at e1;obtain⟨rfl,rfl⟩:=e1;exact e2
 | x::xs,ys,fr,fr1,h,h1,r,e1,e2=>by obtain⟨o,fr2,h2,ho,hst,hn,hag,e⟩:=im e1;rw[List.cons_append];simp only[ay,bK,ho,hst,ble_eq,hn,hag,decide_true,Bool.and_self,cond_true];exact kn e e2
theorem Lo:∀ {xs:List Item}{fr fr1:Fr}{h h1:Heap},ay E call nt l xs fr h=some (fr1,h1)→h.n≤h1.n
 | [],fr,fr1,h,h1,e=>by simp only[ay,Option.some.injEq,Prod.mk.injEq]at e;rw[e.2];exact Nat.le_refl _
 | x::xs,fr,fr1,h,h1,e=>by obtain⟨o,fr2,h2,ho,hst,hn,hag,e⟩:=im e;exact Nat.le_trans hn (Lo e)
theorem uh {fr fr1:Fr}{o:Oper}{v:Value}(e:put nt fr o v=some fr1) (t:Nat):fr1.get t=if o.dst=some t then some v else fr.get t:=by
 unfold put at e;split at e
 · rename_i d hd;cases hb:Nat.blt d nt with
   | false=>rw[hb]at e;cases e
   | true =>rw[hb]at e;cases e;rw[T.ah,hd];simp
 · rename_i hd;cases e;simp[hd]
theorem Dj {fr fr1:Fr}{o:Oper}{v:Value}(e:put nt fr o v=some fr1) (fr':Fr):∃ fr2,put nt fr' o v=some fr2:=by
 unfold put at e ⊢;split at e
 ·rename_i d hd;cases hb:Nat.blt d nt with
  | false=>rw[hb]at e;cases e
  | true=>exact⟨_,rfl⟩
 ·exact⟨_,rfl⟩
theorem nR {fr fr1:Fr}{h h1:Heap}{o:Oper}(e:step E call nt l fr o h=some (fr1,h1)) :
  ∃ v,put nt fr o v=some fr1∧((cz l fr o=some false∧v=undef∧h1=h)∨(cz l fr o=some true∧fF E call fr o h=some (v,h1))):=by
 unfold step at e
 split at e
 ·cases e
 ·rename_i hw;simp only[Option.map_eq_some_iff,Prod.mk.injEq]at e;obtain⟨f,e,rfl,rfl⟩:=e;exact⟨undef,e,.inl ⟨hw,rfl,rfl⟩⟩
 ·rename_i hw;split at e;·rename_i p hp;simp only[Option.map_eq_some_iff,Prod.mk.injEq]at e;obtain⟨f,e,rfl,rfl⟩:=e;exact⟨p.1,e,.inr ⟨hw,hp⟩⟩
  ·cases e
theorem iC {t:Nat}:∀ {xs:List Item}{fr fr1:Fr}{h h1:Heap},ay E call nt l xs fr h=some (fr1,h1)→(∀ y∈xs,¬wr l y.i t)→fr1.get t=fr.get t
 | [],fr,fr1,h,h1,e,_=>by simp only[ay,Option.some.injEq,Prod.mk.injEq]at e;rw[e.1]
 | x::xs,fr,fr1,h,h1,e,hno=>by obtain⟨o,fr2,h2,ho,hst,hn,hag,e⟩:=im e;rw[iC e fun y hy=>hno y (List.mem_cons_of_mem _ hy)];obtain⟨v,hp,_⟩:=nR hst;rw[uh hp,if_neg fun hd=>hno x List.mem_cons_self ⟨o,ho,hd⟩]
theorem vI {fr fr1:Fr}{h h1:Heap}{o:Oper}(e:step E call nt l fr o h=some (fr1,h1)) (ha:eG E o=false) :
  h1=h∨∃ k mk,kindOf E o.op=.alloc∧cz l fr o=some true∧eN E fr o=some (k,mk)∧h1=af h k:=by
 obtain⟨v,_,⟨_,_,rfl⟩|⟨hw,kR⟩⟩:=nR e
 ·exact .inl rfl
 ·unfold fF at kR;unfold eG at ha;split at kR;·simp only[Option.map_eq_some_iff,Prod.mk.injEq]at kR;obtain⟨_,_,_,rfl⟩:=kR;exact .inl rfl
  ·simp only[Option.map_eq_some_iff,Prod.mk.injEq]at kR;obtain⟨_,_,_,rfl⟩:=kR;exact .inl rfl
  ·rename_i hk;simp only[Option.map_eq_some_iff,Prod.mk.injEq]at kR;obtain⟨⟨k,mk⟩,hal,_,rfl⟩:=kR;exact .inr ⟨k,mk,hk,hw,hal,rfl⟩
  ·rename_i hk;rw[hk]at ha;cases ha
theorem x8 {fr:Fr}{h:Heap}{i:Nat}{o:Oper}:∀ {ag:List Nat},fW E l fr h ag=true→i∈ag→l[i]?=some o→cz l fr o=some true →
   ∃ v v',dP E fr o h=some v∧o.dst.bind fr.get=some v'∧v=v'
 | [],_,hi,_,_=>by cases hi
 | j::ag,e,hi,ho,hw=>by
   simp only[fW,Bool.and_eq_true]at e;rcases List.mem_cons.1 hi with rfl|hi
   · have e:=e.1;rw[bK,ho]at e;simp only[hw]at e;split at e;· rename_i v v' h1 h2;exact⟨v,v',h1,h2,gz _ _ _ e⟩
     · cases e
   · exact x8 e.2 hi ho hw
theorem H9 {o:Oper}:lL E o=true↔kindOf E o.op=.read:=by unfold lL;cases kindOf E o.op<;>simp
section
variable {pl:List Item}
theorem gW.nodup (hp:gW E mm l (aL l []) pl) {A B:List Item}{z y:Item}(e:pl=A++B) (hz:z∈A) (hy:y∈B):z.i≠y.i:=by obtain⟨s1,s2,rfl⟩:=List.append_of_mem hy;obtain⟨o,b,_,_,h,_⟩:=hp.at_ (A++s1) y s2 (by rw[e,List.append_assoc]);exact h z (List.mem_append_left _ hz)
theorem gW.Bf (hp:gW E mm l (aL l []) pl) {pre suf:List Item}{x:Item}{b q:Nat}(e:pl=pre++x::suf) (hb:(aL l [])[x.i]?=some b) (hq:b.testBit q=true):∃ y∈pre,y.i=q:=by obtain⟨o,b',ho,hb',_,hpre,_⟩:=hp.at_ pre x suf e;refine Xf (l:=l) (S:=fun j=>∃ y∈pre,y.i=j) ?_ q x.i o b ho hb hpre hq;rintro i oi ⟨y,hy,rfl⟩ hoi ed hed hbd;obtain⟨p1,p2,rfl⟩:=List.append_of_mem hy;obtain⟨o2,b2,ho2,hb2,_,hpre2,_⟩:=hp.at_ p1 y (p2++x::suf) (by rw[e,List.append_assoc];rfl);rw[hoi]at ho2;cases ho2;obtain⟨z,hz,e⟩:=hpre2 ed hed hbd;exact⟨z,List.mem_append_left _ hz,e⟩
theorem gW.pos (hp:gW E mm l (aL l []) pl) {i:Nat}{o:Oper}(ho:l[i]?=some o):∃ pre x suf,pl=pre++x::suf∧x.i=i:=by obtain⟨x,hx,e⟩:=hp.cov i (List.getElem?_eq_some_iff.1 ho).1;obtain⟨p,s,e2⟩:=List.append_of_mem hx;exact⟨p,x,s,e2,e⟩
theorem stay (hp:gW E mm l (aL l []) pl) {S:Nat→Prop}(hS:uI l S) {pre1:List Item}{x:Item}{o:Oper}(ho:l[x.i]?=some o) (hr:lL E o=true) (hs:¬S x.i)
   {fr1:Fr}{h1:Heap}{v:Value}(hw:cz l fr1 o=some true) (hpv:∀ frx hx,ay E call nt l [x] fr1 h1=some (frx,hx)→∀ d,o.dst=some d→frx.get d=some v) :
   ∀ (mid m1 rest:List Item) (frp frm:Fr) (hq hm:Heap),pl=pre1++(x::m1)++mid++rest→(∀ y∈mid,∀ oy,l[y.i]?=some oy→eG E oy=true→S y.i) →
     ay E call nt l (x::m1) fr1 h1=some (frp,hq)→dP E fr1 o hq=some v→ay E call nt l mid frp hq=some (frm,hm)→dP E fr1 o hm=some v
 | [],m1,rest,frp,frm,hq,hm,e,hacts,hat,hrd,hmid=>by simp only[ay,Option.some.injEq,Prod.mk.injEq]at hmid;rw[← hmid.2];exact hrd
 | y::mid,m1,rest,frp,frm,hq,hm,e,hacts,hat,hrd,hmid=>by
   obtain⟨oy,fry,hy,hoy,hst,hn,hag,hmid⟩:=im hmid;have hat':ay E call nt l (x::(m1++[y])) fr1 h1=some (fry,hy):=by
     have:ay E call nt l [y] frp hq=some (fry,hy):=by simp only[ay,bK,hoy,hst,ble_eq,hn,hag,decide_true,Bool.and_self,cond_true]
     exact kn hat this
   refine stay (pre1:=pre1) hp hS ho hr hs hw hpv mid (m1++[y]) rest fry frm hy hm (by rw[e];simp) (fun z hz=>hacts z (List.mem_cons_of_mem _ hz)) hat' ?_ hmid;cases ha:eG E oy with
   | false =>
     rcases vI hst ha with rfl|⟨k,mk,_,_,_,rfl⟩
     · exact hrd
     · exact Cu k hrd
   | true =>
     have hSy:=hacts y List.mem_cons_self oy hoy ha
     have epre:pl=(pre1++x::m1)++y::(mid++rest):=by rw[e];simp
     have ex:pl=pre1++x::(m1++y::(mid++rest)):=by rw[e];simp
     obtain⟨oy',by_,hoy',hby,_,hprey,_,hrr⟩:=hp.at_ _ y _ epre
     rw[hoy]at hoy';cases hoy'
     have hnb:¬by_.testBit x.i=true:=fun hb=>hs (Xf hS x.i y.i oy by_ hoy hby (hS y.i oy hSy hoy) hb)
     have hxm:x∈pre1++x::m1:=by simp
     rcases hrr ha x hxm o ho hr with hb|⟨hmem,hfine⟩
     · exact absurd hb hnb
     · obtain⟨_,bx,hox',hbx,hndx,_⟩:=hp.at_ _ x _ ex;have hag2:∀ t∈looks l o,fry.get t=fr1.get t:=by
         intro t ht;refine iC hat' fun z hz hw=>?_;have hzx:z∈x::m1∨z=y:=by
           rcases List.mem_cons.1 hz with rfl|hz;· exact .inl List.mem_cons_self
           · rcases List.mem_append.1 hz with hz|hz;· exact .inl (List.mem_cons_of_mem _ hz)
             · exact .inr (by simpa using hz)
         rcases hfine bx hbx t ht z.i hw with hb|hb
         · obtain⟨u,hu,hue⟩:=hp.Bf ex hbx hb;have:z∈x::(m1++y::(mid++rest)):=by
             rcases hzx with hz|rfl
             · rcases List.mem_cons.1 hz with rfl|hz;· exact List.mem_cons_self
               · simp[hz]
             · simp
           exact hp.nodup ex hu this hue
         · rcases hzx with hz|rfl;· exact hb z (List.mem_append_right _ hz) rfl
           · rcases hp.Hq x.i o bx t ho hbx ht z.i hw with h2|h2|⟨bq,hbq,h2⟩;· exact hb x hxm h2
             · obtain⟨u,hu,hue⟩:=hp.Bf ex hbx h2;exact hb u (List.mem_append_left _ hu) hue
             · rw[hby]at hbq;cases hbq;exact hnb h2
       have hwy:cz l fry o=some true:=by rw[mW hag2];exact hw
       obtain⟨v1,v2,hv1,hv2,rfl⟩:=x8 hag hmem ho hwy;have hd:v1=v:=by
         cases hdst:o.dst with
         | none=>rw[hdst]at hv2;cases hv2
         | some d =>
           rw[hdst]at hv2
           simp only[Option.bind_some]at hv2
           have:ay E call nt l ([x]++(m1++[y])) fr1 h1=some (fry,hy):=hat'
           obtain⟨frx,hx,e1,e2⟩:=dX this
           rw[iC e2 fun z hz hw=>?_,hpv frx hx e1 d hdst]at hv2
           · exact(Option.some.inj hv2).symm
           · have:=hp.once _ _ _ hw ⟨o,ho,hdst⟩;have hz2:z∈m1++y::(mid++rest):=by
               rcases List.mem_append.1 hz with hz|hz;· simp[hz]
               · simp at hz;simp[hz]
             exact hp.nodup (A:=pre1++[x]) (B:=m1++y::(mid++rest)) (by rw[ex];simp) (z:=x) (by simp) hz2 this.symm
       subst hd;rw[← mM (kA hag2)];exact hv1
variable {fr0 frN:Fr}{h0 hN:Heap}
theorem agree (hp:gW E mm l (aL l []) pl) (hrun:ay E call nt l pl fr0 h0=some (frN,hN)) {S:Nat→Prop}(hS:uI l S) {pre1 suf1:List Item}{x:Item}{o:Oper}(e:pl=pre1++x::suf1) (ho:l[x.i]?=some o) (hs:¬S x.i)
  (hpre:∀ e∈o.after,Region.binds .any e=true→S e.on) {fr1:Fr}{h1:Heap}(hat:ay E call nt l pre1 fr0 h0=some (fr1,h1)) {frS:Fr}
  (hW:∀ i t,S i→wr l i t→frS.get t=frN.get t) (hN':∀ t,(∀ i,S i→¬wr l i t)→frS.get t=fr0.get t) :
  ∀ t∈looks l o,frS.get t=fr1.get t:=by
 intro t ht
 obtain⟨o',b,ho',hb,oH,_⟩:=hp.at_ pre1 x suf1 e
 rw[ho]at ho';cases ho'
 have hrest:ay E call nt l (x::suf1) fr1 h1=some (frN,hN):=by rw[e]at hrun;obtain⟨f,hh,e1,e2⟩:=dX hrun;rw[hat]at e1;cases e1;exact e2
 by_cases hq:∃ q,wr l q t
 ·obtain⟨q,hq⟩:=hq;rcases hp.Hq x.i o b t ho hb ht q hq with rfl|hbq|⟨bq,hbq,hbit⟩;·rw[hN' t fun i hi hw=>hs (hp.once _ _ _ hw hq▸hi)];rw[iC hat fun y hy hw=>oH y hy (hp.once _ _ _ hw hq)]
  ·have hSq:S q:=Xf hS q x.i o b ho hb hpre hbq;rw[hW q t hSq hq];obtain⟨z,hz,hzq⟩:=hp.Bf e hb hbq;exact iC hrest fun y hy hw=>hp.nodup e hz hy (hzq.trans (hp.once _ _ _ hq hw))
  ·obtain⟨oq,hoq,_⟩:=id hq;have hSq:¬S q:=fun hSq=>hs (Xf hS x.i q oq bq hoq hbq (hS q oq hSq hoq) hbit);rw[hN' t fun i hi hw=>hSq (hp.once _ _ _ hw hq▸hi)];rw[iC hat fun y hy hw=>?_];have:=hp.once _ _ _ hw hq;subst this;obtain⟨p1,p2,rfl⟩:=List.append_of_mem hy;obtain⟨z,hz,hzq⟩:=hp.Bf (pre:=p1) (suf:=p2++x::suf1) (by rw[e,List.append_assoc];rfl) hbq hbit;exact oH z (List.mem_append_left _ hz) hzq
 ·rw[hN' t fun i _ hw=>hq ⟨i,hw⟩];rw[iC hat fun y _ hw=>hq ⟨_,hw⟩]
end
end
section
variable {mm:Bool}{P:Program}{E:Env}{call:Fn→List Value→Heap→Option (Value×Heap)}{nt:Nat}{l:List Oper}
structure Inv (P:Program) (E:Env) (call:Fn→List Value→Heap→Option (Value×Heap)) (nt:Nat) (l:List Oper) (pl:List Item) (fr0 frN:Fr) (ρ0:Ren) (h0:Heap) (w0:World)
  (B:Nat) (S:Nat→Prop) (pre suf:List Item) (frT:Fr) (hT:Heap) (ρ:Ren) (frS:Fr) (a:Act) (w:World):Prop where
 pl:pl=pre++suf
 at_:ay E call nt l pre fr0 h0=some (frT,hT)
 fQ:∀ y∈pre,∀ o,l[y.i]?=some o→eG E o=true→S y.i
 out:∀ y∈suf,¬S y.i
 closed:uI l S
 fr:FR E ρ frS a
 st:bV P ρ0 h0 w0 ρ hT w
 xx:a.tmps.size=nt
 df:DR P B ρ w a.defers
 jf:∀ i t,S i→wr l i t→frS.get t=frN.get t
 jj:∀ t,(∀ i,S i→¬wr l i t)→frS.get t=fr0.get t
 mJ:∀ pre1 x m,pre=pre1++x::m→¬S x.i→∀ o fr1 h1 k mk,l[x.i]?=some o→kindOf E o.op=.alloc→ay E call nt l pre1 fr0 h0=some (fr1,h1)→cz l fr1 o=some true →
  eN E fr1 o=some (k,mk)→ρ h1.n=none∧hT.b.get h1.n=some k∧h0.n≤h1.n∧h1.n<hT.n
theorem bV.grow {ρ:Ren}{h:Heap}{w:World}(hr:HR P ρ h w) (k:fa):bV P ρ h w ρ (af h k) w where
 le:=Ren.le_refl _
 hr:=hr.grow k
 n:=by simp[af]
 new i x e e0:=by rw[e]at e0;cases e0
 h_ i hi _:=cE hi
 os:=rfl
 tape:=rfl
 output:=rfl
 size:=Nat.le_refl _
 frame _ _ _:=rfl
 uG i b c e _:=⟨i,c,e,.inl rfl⟩
 stays i x e:=by have:=(hr.gT i x.1 x.2 e).1;intro _;rw[cE this]
theorem bV.bind {ρ0 ρ:Ren}{h0 h:Heap}{w0 w:World}(hs:bV P ρ0 h0 w0 ρ h w) {i c:Nat}{k:fa}{o:Obj}(hi:i<h.n) (h0i:h0.n≤i) (hn:ρ i=none) (hk:h.b.get i=some k) (hb:BR P ρ c k o) :
  bV P ρ0 h0 w0 (ρ.tK i (w.heap.size,c)) h { w with heap:=w.heap.push o } where
 le:=Ren.le_trans hs.le (Ren.lQ _ hn)
 hr:=hs.hr.bind hi hn hk hb rfl
 n:=hs.n
 new j x e e0:=by
  by_cases hj:j=i;·omega
  ·rw[Ren.cC ρ _ hj]at e;exact hs.new j x e e0
 h_:=hs.h_
 os:=hs.os
 tape:=hs.tape
 output:=hs.output
 size:=by have:=hs.size;simp;omega
 frame b hb hno:=by show (w.heap.push o)[b]?=_;rw[Array.getElem?_push,if_neg (by have:=hs.size;omega)];exact hs.frame b hb hno
 uG j b d e aB:=by
  by_cases hj:j=i;·subst hj;rw[Ren.bh]at e;cases e;have:=hs.size;omega
  ·rw[Ren.cC ρ _ hj]at e;exact hs.uG j b d e aB
 stays:=hs.stays
theorem settle {fr0 frN:Fr}{S:Nat→Prop}{frS frS':Fr}{i:Nat}{o:Oper}{v:Value}(ho:l[i]?=some o) (hW:∀ i t,S i→wr l i t→frS.get t=frN.get t)
  (hN':∀ t,(∀ i,S i→¬wr l i t)→frS.get t=fr0.get t) (hput:put nt frS o v=some frS') (hc:∀ d,o.dst=some d→frN.get d=some v) :
  (∀ j t,(S j∨j=i)→wr l j t→frS'.get t=frN.get t)∧(∀ t,(∀ j,(S j∨j=i)→¬wr l j t)→frS'.get t=fr0.get t):=by
 constructor
 ·intro j t hj hw;rw[uh hput];by_cases hd:o.dst=some t;·rw[if_pos hd,hc t hd]
  ·rw[if_neg hd];rcases hj with hj|rfl;·exact hW j t hj hw
   ·obtain⟨o',ho',hd'⟩:=hw;rw[ho]at ho';cases ho';exact absurd hd' hd
 ·intro t hno;rw[uh hput,if_neg fun hd=>hno i (.inr rfl) ⟨o,ho,hd⟩];exact hN' t fun j hj=>hno j (.inl hj)
section
variable {pl:List Item}{fr0 frN:Fr}{ρ0:Ren}{h0 hN:Heap}{w0:World}
theorem advance {B:Nat}(hp:gW E mm l (aL l []) pl) (hrun:ay E call nt l pl fr0 h0=some (frN,hN)) {S:Nat→Prop}{ρ:Ren}{frS:Fr}{a:Act}{w:World}:∀ (suf pre:List Item) (frT:Fr) (hT:Heap),Inv P E call nt l pl fr0 frN ρ0 h0 w0 B S pre suf frT hT ρ frS a w →
   ∃ pre' suf' frT' hT',Inv P E call nt l pl fr0 frN ρ0 h0 w0 B S pre' suf' frT' hT' ρ frS a w∧(suf'=[]∨∃ x s o,suf'=x::s∧l[x.i]?=some o∧eG E o=true)
 | [],pre,frT,hT,inv=>⟨pre,[],frT,hT,inv,.inl rfl⟩
 | x::s,pre,frT,hT,inv=>by
   obtain⟨o,b,ho,hb,_⟩:=hp.at_ pre x s inv.pl;cases ha:eG E o with
   | true=>exact⟨pre,x::s,frT,hT,inv,.inr ⟨x,s,o,rfl,ho,ha⟩⟩
   | false =>
     have hrest:ay E call nt l (x::s) frT hT=some (frN,hN):=by have:=hrun;rw[inv.pl]at this;obtain⟨f,hh,e1,e2⟩:=dX this;rw[inv.at_]at e1;cases e1;exact e2
     obtain⟨o',fr1,h1,ho',hst,hn,hag,hrest⟩:=im hrest
     rw[ho]at ho';cases ho'
     have hx1:ay E call nt l [x] frT hT=some (fr1,h1):=by simp only[ay,bK,ho,hst,ble_eq,hn,hag,decide_true,Bool.and_self,cond_true]
     have hq:=vI hst ha
     refine advance hp hrun s (pre++[x]) fr1 h1 {
       pl:=by rw[inv.pl];simp
       at_:=kn inv.at_ hx1
       fQ:=fun y hy oy hoy hay=>?_
       out:=fun y hy=>inv.out y (List.mem_cons_of_mem _ hy)
       closed:=inv.closed
       fr:=inv.fr
       st:=?_
       xx:=inv.xx
       df:=inv.df
       jf:=inv.jf
       jj:=inv.jj
       mJ:=?_ }
     · rcases List.mem_append.1 hy with hy|hy;· exact inv.fQ y hy oy hoy hay
       · simp only[List.mem_singleton]at hy;subst hy;rw[ho]at hoy;cases hoy;rw[ha]at hay;cases hay
     · rcases hq with rfl|⟨k,mk,_,_,_,rfl⟩;· exact inv.st
       · exact inv.st.trans (bV.grow inv.st.hr k)
     · intro pre1 y m e hSy oy fry hy k mk hoy hky haty hwy hal;rcases List.eq_nil_or_concat m with rfl|⟨m',z,rfl⟩
       · have:=List.append_inj' e rfl;obtain⟨rfl,e2⟩:=this;cases e2;rw[inv.at_]at haty;cases haty;rw[ho]at hoy;cases hoy;rcases hq with h1e|⟨k',mk',_,_,hal',rfl⟩;·
           exfalso
           obtain⟨v,_,⟨hw,_⟩|⟨hw,kR⟩⟩:=nR hst
           · rw[hwy]at hw;cases hw
           · unfold fF at kR;rw[hky]at kR;simp only[hal,Option.map_some,Option.some.injEq,Prod.mk.injEq]at kR;have:=congrArg Heap.n kR.2;rw[h1e]at this;simp[af]at this
         · rw[hal]at hal';cases hal';exact⟨inv.st.hr.fresh,by simp[af,T.ah],inv.st.n,by simp[af]⟩
       · have e3:pre++[x]=(pre1++y::m')++[z]:=by rw[e];simp
         obtain⟨e4,_⟩:=List.append_inj' e3 rfl;obtain⟨g1,g2,g3,g4⟩:=inv.mJ pre1 y m' e4 hSy oy fry hy k mk hoy hky haty hwy hal;rcases hq with rfl|⟨k',mk',_,_,_,rfl⟩;· exact⟨g1,g2,g3,g4⟩
         · exact⟨g1,by rw[cE g4];exact g2,g3,by simp[af];omega⟩
theorem yC (hp:gW E mm l (aL l []) pl) (hrun:ay E call nt l pl fr0 h0=some (frN,hN)) {pre suf:List Item}{x:Item}{o:Oper}{fr1:Fr}{h1:Heap}(e:pl=pre++x::suf) (ho:l[x.i]?=some o) (hat:ay E call nt l pre fr0 h0=some (fr1,h1)) :
   ∃ frx hx v,step E call nt l fr1 o h1=some (frx,hx)∧ay E call nt l [x] fr1 h1=some (frx,hx)∧ay E call nt l suf frx hx=some (frN,hN)∧h1.n≤hx.n∧put nt fr1 o v=some frx∧(∀ d,o.dst=some d→frx.get d=some v)∧(∀ d,o.dst=some d→frN.get d=some v) ∧
     ((cz l fr1 o=some false∧v=undef∧hx=h1)∨(cz l fr1 o=some true∧fF E call fr1 o h1=some (v,hx))):=by
 have hrest:ay E call nt l (x::suf) fr1 h1=some (frN,hN):=by have:=hrun;rw[e]at this;obtain⟨f,hh,e1,e2⟩:=dX this;rw[hat]at e1;cases e1;exact e2
 obtain⟨o',frx,hx,ho',hst,hn,hag,hrest⟩:=im hrest
 rw[ho]at ho';cases ho'
 have hx1:ay E call nt l [x] fr1 h1=some (frx,hx):=by simp only[ay,bK,ho,hst,ble_eq,hn,hag,decide_true,Bool.and_self,cond_true]
 obtain⟨v,hput,hcase⟩:=nR hst
 have hd:∀ d,o.dst=some d→frx.get d=some v:=fun d hd=>by rw[uh hput,if_pos hd]
 refine⟨frx,hx,v,hst,hx1,hrest,hn,hput,hd,fun d hdd=>?_,hcase⟩
 rw[iC hrest fun y hy hw=>?_,hd d hdd]
 have:=hp.once _ _ _ hw ⟨o,ho,hdd⟩
 exact hp.nodup (A:=pre++[x]) (B:=suf) (by rw[e];simp) (z:=x) (by simp) hy this.symm
end
end
section
variable {mm:Bool}{P:Program}{E:Env}{F:Fence}{n:Nat}{call:Fn→List Value→Heap→Option (Value×Heap)}{nt:Nat}{ops:Array Oper}
variable {pl:List Item}{fr0 frN:Fr}{ρ0:Ren}{h0 hN:Heap}{w0:World}{B:Nat}
abbrev xP (P:Program) (E:Env) (call:Fn→List Value→Heap→Option (Value×Heap)) (nt:Nat) (ops:Array Oper) (pl:List Item) (fr0 frN:Fr) (ρ0:Ren) (h0:Heap) (w0:World) (B:Nat) (listed:Array Bool) :=
 Inv P E call nt ops.toList pl fr0 frN ρ0 h0 w0 B (fun i=>listed.getD i false=true)
theorem DR.push {ρ:Ren}{w:World}{ds:List Deferred}(hd:DR P B ρ w ds) (i c:Nat) (o:Obj):DR P B (ρ.tK i (w.heap.size,c)) { w with heap:=w.heap.push o } ds:=by
 refine⟨hd.nd,fun d hm=>?_⟩;rcases hd.each d hm with ⟨D,e,hB,hD,hi⟩|hh
 ·have aB:=(Array.getElem?_eq_some_iff.1 hD).1;refine .inl ⟨D,e,hB,?_,fun j c' hh=>?_⟩;·show (w.heap.push o)[D]?=_;rw[Array.getElem?_push,if_neg (by omega)];exact hD
  ·by_cases hj:j=i;·subst hj;rw[Ren.bh]at hh;cases hh;omega
   ·rw[Ren.cC ρ _ hj]at hh;exact hi j c' hh
 ·exact .inr hh
theorem cK {listed:Array Bool}{i j:Nat}(hi:i<listed.size):((listed.setIfInBounds i true).getD j false=true)↔(listed.getD j false=true∨j=i):=by
 simp only[Array.getD_eq_getD_getElem?,Array.getElem?_setIfInBounds];by_cases h:i=j;·subst h;simp[hi]
 ·simp[h,Ne.symm h]
theorem count_set {listed:Array Bool}{i n:Nat}(hi:i<listed.size) (hf:listed.getD i true=false) (hc:listed.toList.count false=n+1):(listed.setIfInBounds i true).toList.count false=n:=by
 have hg:listed.toList[i]'(by simpa using hi)=false:=by simp only[Array.getD_eq_getD_getElem?,Array.getElem?_eq_getElem hi,Option.getD_some]at hf;simpa using hf
 rw[Array.toList_setIfInBounds,List.count_set (by simpa using hi),hg];simp[hc]
theorem px (hp:gW E mm ops.toList (aL ops.toList []) pl) {listed:Array Bool}(hsz:listed.size=ops.size) (h:Region.ready .any ops listed=[]) :
   ∀ (suf pre:List Item),pl=pre++suf→(∀ y∈pre,listed.getD y.i false=true)→∀ y∈pl,listed.getD y.i false=true
 | [],pre,e,hh,y,hy=>by rw[e,List.append_nil]at hy;exact hh y hy
 | x::s,pre,e,hh,y,hy=>by
   obtain⟨o,b,ho,_,_,hpre,_⟩:=hp.at_ pre x s e;refine px hp hsz h s (pre++[x]) (by rw[e];simp) (fun z hz=>?_) y hy;rcases List.mem_append.1 hz with hz|hz;· exact hh z hz
   · simp only[List.mem_singleton]at hz;subst hz;rw[Array.getElem?_toList]at ho;have aB:z.i<listed.size:=by rw[hsz];exact(Array.getElem?_eq_some_iff.1 ho).1
     by_cases hf:listed.getD z.i true=false;· have:z.i∈Region.ready .any ops listed:=mem_ready.2 ⟨hf,o,ho,fun ed hed hbd=>by obtain⟨u,hu,hue⟩:=hpre ed hed hbd;rw[← hue];exact hh u hu⟩;rw[h]at this;cases this
     · simp only[Array.getD_eq_getD_getElem?,Array.getElem?_eq_getElem aB,Option.getD_some,Bool.not_eq_false]at hf ⊢;exact hf
theorem finish (hp:gW E mm ops.toList (aL ops.toList []) pl) (hrun:ay E call nt ops.toList pl fr0 h0=some (frN,hN)) {listed:Array Bool}(hsz:listed.size=ops.size) (h:Region.ready .any ops listed=[])
   {pre suf:List Item}{frT:Fr}{hT:Heap}{ρ:Ren}{frS:Fr}{a:Act}{w:World}(inv:xP P E call nt ops pl fr0 frN ρ0 h0 w0 B listed pre suf frT hT ρ frS a w) :
   gw B P E ρ0 h0 w0 nt frN hN a w:=by
 have hall:=px hp hsz h pl [] rfl (by simp)
 have hsuf:suf=[]:=by
   cases hs:suf with
   | nil=>rfl
   | cons x s =>
     have:=inv.out x (by rw[hs];exact List.mem_cons_self)
     exact absurd (hall x (by rw[inv.pl,hs];simp)) this
 subst hsuf
 have hpl:pl=pre:=by rw[inv.pl];simp
 have hat:=inv.at_
 rw[← hpl,hrun]at hat
 cases hat
 refine⟨ρ,⟨inv.fr.wx,fun t=>?_⟩,inv.st,inv.xx,inv.df⟩
 have:frS.get t=frN.get t:=by
   by_cases hq:∃ q,wr ops.toList q t;· obtain⟨q,hq⟩:=hq;obtain⟨oq,hoq,_⟩:=id hq;obtain⟨x,hx,rfl⟩:=hp.cov q (List.getElem?_eq_some_iff.1 hoq).1;exact inv.jf _ t (hall x hx) hq
   · rw[inv.jj t fun i _ hw=>hq ⟨i,hw⟩,iC hrun fun y _ hw=>hq ⟨_,hw⟩]
 rw[← this]
 exact inv.fr.tmp t
theorem DF {l:List Oper}{pre2 m3:List Item}{y:Item}{oy:Oper}{fr0 fr2 fr3:Fr}{h0 h2 h3:Heap}{k:fa}{mk:Nat→Value}(hoy:l[y.i]?=some oy) (hky:kindOf E oy.op=.alloc)
  (hat:ay E call nt l pre2 fr0 h0=some (fr2,h2)) (hw:cz l fr2 oy=some true) (hal:eN E fr2 oy=some (k,mk)) (hat3:ay E call nt l (pre2++y::m3) fr0 h0=some (fr3,h3)):h2.n<h3.n:=by
 obtain⟨f,hh,e1,e2⟩:=dX hat3
 rw[hat]at e1;cases e1
 obtain⟨o,frx,hx,ho,hst,hn,hag,e2⟩:=im e2
 rw[hoy]at ho;cases ho
 have:=Lo e2
 obtain⟨v,_,⟨hw',_⟩|⟨_,kR⟩⟩:=nR hst
 ·rw[hw]at hw';cases hw'
 ·unfold fF at kR;rw[hky]at kR;simp only[hal,Option.map_some,Option.some.injEq,Prod.mk.injEq]at kR;have h4:=congrArg Heap.n kR.2;simp[af]at h4;omega
theorem wH (hE:aH P E) (hF:yp F) (hp:gW E mm ops.toList (aL ops.toList []) pl) (hrun:ay E call nt ops.toList pl fr0 h0=some (frN,hN)) {listed:Array Bool}(hsz:listed.size=ops.size)
   {pre suf:List Item}{frT:Fr}{hT:Heap}{ρ:Ren}{frS:Fr}{a:Act}{w:World}(inv:xP P E call nt ops pl fr0 frN ρ0 h0 w0 B listed pre suf frT hT ρ frS a w)
   {pre1 m:List Item}{x:Item}{o:Oper}(epre:pre=pre1++x::m) (ho:ops[x.i]?=some o) (hs:¬listed.getD x.i false=true) (ha:eG E o=false) (hpre:∀ e∈o.after,Region.binds .any e=true→listed.getD e.on false=true)
   {Q:Exit→Act→World→Prop}{K:Act→World→Prop}(k:∀ ρ' frS' a' w',xP P E call nt ops pl fr0 frN ρ0 h0 w0 B (listed.setIfInBounds x.i true) pre suf frT hT ρ' frS' a' w'→K a' w'):wpOpIn F n P ops Q x.i K a w:=by
 have aB:x.i<listed.size:=by rw[hsz];exact(Array.getElem?_eq_some_iff.1 ho).1
 have ho':ops.toList[x.i]?=some o:=by rw[Array.getElem?_toList];exact ho
 have epl:pl=pre1++x::(m++suf):=by rw[inv.pl,epre];simp
 obtain⟨fr1,h1,hat1,hat2⟩:∃ fr1 h1,ay E call nt ops.toList pre1 fr0 h0=some (fr1,h1)∧ay E call nt ops.toList (x::m) fr1 h1=some (frT,hT):=by have:=inv.at_;rw[epre]at this;exact dX this
 obtain⟨frx,hx,v,hst,hx1,hrest,hn,hput,hdx,hdN,hcase⟩:=yC hp hrun epl ho' hat1
 have hag:=agree hp hrun inv.closed epl ho' hs hpre hat1 inv.jf inv.jj
 obtain⟨frS',hputS⟩:=Dj hput frS
 obtain⟨hW',hN'⟩:=settle (fr0:=fr0) ho' inv.jf inv.jj hputS hdN
 have hcl:uI ops.toList (fun i=>(listed.setIfInBounds x.i true).getD i false=true):=by
   intro i oi hi hoi ed hed hbd;rw[cK aB]at hi ⊢;rcases hi with hi|rfl;· exact .inl (inv.closed i oi hi hoi ed hed hbd)
   · rw[ho']at hoi;cases hoi;exact .inl (hpre ed hed hbd)
 have mk:∀ (ρ':Ren) (w':World) (v':Value),VR ρ' v v'→ρ.le ρ'→bV P ρ0 h0 w0 ρ' hT w'→(∀ i,ρ' i≠ρ i→i=h1.n∧kindOf E o.op=.alloc∧∃ k mk,cz ops.toList fr1 o=some true∧eN E fr1 o=some (k,mk))→DR P B ρ' w' a.defers →
     xP P E call nt ops pl fr0 frN ρ0 h0 w0 B (listed.setIfInBounds x.i true) pre suf frT hT ρ' frS' (a.put o.dst v') w':=by
   intro ρ' w' v' r hle hst' hdiff hdr
   exact {
     pl:=inv.pl
     at_:=inv.at_
     fQ:=fun y hy oy hoy hay=>(cK aB).2 (.inl (inv.fQ y hy oy hoy hay))
     out:=fun y hy hh=>by
       rcases(cK aB).1 hh with hh|hh;· exact inv.out y hy hh
       · exact hp.nodup (A:=pre) (B:=suf) inv.pl (z:=x) (by rw[epre];simp) hy hh.symm
     closed:=hcl
     fr:=FR.put (inv.fr.mono hle) inv.xx r hputS
     st:=hst'
     xx:=by rw[kK];exact inv.xx
     df:=by rw[put_defers];exact hdr
     jf:=fun j t hj=>hW' j t ((cK aB).1 hj)
     jj:=fun t hno=>hN' t fun j hj=>hno j ((cK aB).2 hj)
     mJ:=by
       intro pre2 y m2 e2 hSy oy fry hy kk mkk hoy hky haty hwy hal;have hSy1:¬listed.getD y.i false=true:=fun hh=>hSy ((cK aB).2 (.inl hh));have hyx:y.i≠x.i:=fun hh=>hSy ((cK aB).2 (.inr hh));obtain⟨g1,g2,g3,g4⟩:=inv.mJ pre2 y m2 e2 hSy1 oy fry hy kk mkk hoy hky haty hwy hal;refine⟨?_,g2,g3,g4⟩;cases hd:decide (ρ' hy.n=ρ hy.n) with
       | true=>rw[of_decide_eq_true hd];exact g1
       | false =>
         exfalso
         obtain⟨hid,hk,k2,mk2,hw2,hal2⟩:=hdiff _ (of_decide_eq_false hd)
         rw[epre]at e2
         rcases List.append_eq_append_iff.1 e2 with ⟨c,hc1,hc2⟩|⟨c,hc1,hc2⟩
         · cases c with
           | nil=>simp only[List.nil_append,List.cons.injEq]at hc2;exact hyx (by rw[hc2.1])
           | cons z c =>
             simp only[List.cons_append,List.cons.injEq]at hc2
             rw[hc1,← hc2.1]at haty
             have:=DF ho' hk hat1 hw2 hal2 haty
             omega
         · cases c with
           | nil=>simp only[List.nil_append,List.cons.injEq]at hc2;exact hyx (by rw[hc2.1])
           | cons z c =>
             simp only[List.cons_append,List.cons.injEq]at hc2
             rw[hc1,← hc2.1]at hat1
             have:=DF hoy hky haty hwy hal hat1
             omega }
 have hwS:cz ops.toList frS o=cz ops.toList fr1 o:=mW hag
 have kR:=kA (E:=E) hag
 unfold wpOpIn
 simp only[ho]
 rcases hcase with ⟨hw,rfl,rfl⟩|⟨hw,hopv⟩
 · rw[ic inv.fr (hwS.trans hw),if_neg (by simp)];exact⟨fun f _=>hF.fn f,k _ _ _ _ (mk ρ w undef (VR.undef ρ) (Ren.le_refl _) inv.st (fun i h=>absurd rfl h) inv.df)⟩
 · rw[ic inv.fr (hwS.trans hw),if_pos rfl];have oH:=uT hopv;unfold fF at hopv;unfold eG at ha;split at hopv
   · simp only[Option.map_eq_some_iff,Prod.mk.injEq]at hopv;obtain⟨u,e,rfl,rfl⟩:=hopv;rw[← tS kR]at e;rcases Hj hE inv.fr e w with ⟨v',n',hr,r⟩|⟨c,hoc,hq⟩;· exact jH hF oH hr rfl (k _ _ _ _ (mk ρ _ v' r (Ren.le_refl _) (inv.st.trans (bV.draw inv.st.hr n')) (fun i h=>absurd rfl h) (inv.df.step (bV.draw inv.st.hr n'))))
     · exact Cx hE hF hoc inv.fr inv.st.hr hq fun v' w' r hs'=>k _ _ _ _ (mk ρ _ v' r (Ren.le_refl _) (inv.st.trans hs') (fun i h=>absurd rfl h) (inv.df.step hs'))
   · rename_i hk;simp only[Option.map_eq_some_iff,Prod.mk.injEq]at hopv;obtain⟨u,e,rfl,rfl⟩:=hopv;have hstay:=stay (pre1:=pre1) hp inv.closed ho' (H9.2 hk) hs hw (fun frx2 hx2 e2 d hd=>by rw[hx1]at e2;cases e2;exact hdx d hd)
       m [] suf frx frT h1 hT (by rw[epl];simp) (fun y hy oy hoy hay=>inv.fQ y (by rw[epre];simp[hy]) oy hoy hay) (by simpa using hx1) e
       (by obtain⟨f,hh,e1,e2⟩:=dX (xs:=[x]) (ys:=m) (by simpa using hat2);rw[hx1]at e1;cases e1;exact e2)
     rw[← mM kR]at hstay;obtain⟨v',hr,r⟩:=CV hE inv.fr inv.st.hr hstay;exact jH hF oH hr rfl (k _ _ _ _ (mk ρ w v' r (Ren.le_refl _) inv.st (fun i h=>absurd rfl h) inv.df))
   · rename_i hk;simp only[Option.map_eq_some_iff,Prod.mk.injEq]at hopv;obtain⟨⟨kb,mkb⟩,e,rfl,rfl⟩:=hopv;obtain⟨g1,g2,g3,g4⟩:=inv.mJ pre1 x m epre hs o fr1 h1 kb mkb ho' hk hat1 hw e;rw[← lS kR]at e;obtain⟨obj,mk',hr,hb,hd,hv⟩:=zz hE inv.fr e;refine jH hF oH (hr w) rfl (k _ _ _ _ (mk (ρ.tK h1.n (w.heap.size,0)) _ _ (hv _ _ _ (Ren.bh _ _ _)) (Ren.lQ _ g1) (bV.bind inv.st g4 g3 g1 g2 hb) (fun i hi=>?_) (inv.df.push _ _ _)));by_cases hin:i=h1.n;· rw[lS kR]at e;exact⟨hin,hk,kb,mkb,hw,e⟩
     · exact absurd (Ren.cC ρ _ hin) hi
   · rename_i hk;rw[hk]at ha;cases ha
theorem vZ (hE:aH P E) (hF:yp F) (hc:dZ P E call) (hp:gW E mm ops.toList (aL ops.toList []) pl) (hrun:ay E call nt ops.toList pl fr0 h0=some (frN,hN)) {listed:Array Bool}(hsz:listed.size=ops.size)
  {pre s:List Item}{frT:Fr}{hT:Heap}{ρ:Ren}{frS:Fr}{a:Act}{w:World}{x:Item}(inv:xP P E call nt ops pl fr0 frN ρ0 h0 w0 B listed pre (x::s) frT hT ρ frS a w)
  {o:Oper}(ho:ops[x.i]?=some o) (hs:¬listed.getD x.i false=true) (hpre:∀ e∈o.after,Region.binds .any e=true→listed.getD e.on false=true)
  {Q:Exit→Act→World→Prop}{K:Act→World→Prop}(k:∀ frT' hT' ρ' frS' a' w',xP P E call nt ops pl fr0 frN ρ0 h0 w0 B (listed.setIfInBounds x.i true) (pre++[x]) s frT' hT' ρ' frS' a' w'→K a' w'):wpOpIn F n P ops Q x.i K a w:=by
 have aB:x.i<listed.size:=by rw[hsz];exact(Array.getElem?_eq_some_iff.1 ho).1
 have ho':ops.toList[x.i]?=some o:=by rw[Array.getElem?_toList];exact ho
 obtain⟨frx,hx,v,hst,hx1,hrest,hn,hput,hdx,hdN,hcase⟩:=yC hp hrun inv.pl ho' inv.at_
 have hag:=agree hp hrun inv.closed inv.pl ho' hs hpre inv.at_ inv.jf inv.jj
 obtain⟨frS',hputS⟩:=Dj hput frS
 obtain⟨hW',hN'⟩:=settle (fr0:=fr0) ho' inv.jf inv.jj hputS hdN
 have mk:∀ (ρ':Ren) (w':World) (v':Value),VR ρ' v v'→bV P ρ hT w ρ' hx w'→xP P E call nt ops pl fr0 frN ρ0 h0 w0 B (listed.setIfInBounds x.i true) (pre++[x]) s frx hx ρ' frS' (a.put o.dst v') w':=by intro ρ' w' v' r hst';exact {
   pl:=by rw[inv.pl];simp
   at_:=kn inv.at_ hx1
   fQ:=fun y hy oy hoy hay=>(cK aB).2 (by
    rcases List.mem_append.1 hy with hy|hy;·exact .inl (inv.fQ y hy oy hoy hay)
    ·exact .inr (by simp only[List.mem_singleton]at hy;rw[hy]))
   out:=fun y hy hh=>by
    rcases(cK aB).1 hh with hh|hh;·exact inv.out y (List.mem_cons_of_mem _ hy) hh
    ·exact hp.nodup (A:=pre++[x]) (B:=s) (by rw[inv.pl];simp) (z:=x) (by simp) hy hh.symm
   closed:=by
    intro i oi hi hoi ed hed hbd;rw[cK aB]at hi ⊢;rcases hi with hi|rfl;·exact .inl (inv.closed i oi hi hoi ed hed hbd)
    ·rw[ho']at hoi;cases hoi;exact .inl (hpre ed hed hbd)
   fr:=FR.put (inv.fr.mono hst'.le) inv.xx r hputS
   st:=inv.st.trans hst'
   xx:=by rw[kK];exact inv.xx
   df:=by rw[put_defers];exact inv.df.step hst'
   jf:=fun j t hj=>hW' j t ((cK aB).1 hj)
   jj:=fun t hno=>hN' t fun j hj=>hno j ((cK aB).2 hj)
   mJ:=by
    intro pre2 y m2 e2 hSy oy fry hy kk mkk hoy hky haty hwy hal;have hSy1:¬listed.getD y.i false=true:=fun hh=>hSy ((cK aB).2 (.inl hh));rcases List.eq_nil_or_concat m2 with rfl|⟨m',z,rfl⟩;·obtain⟨_,e3⟩:=List.append_inj' e2 rfl;cases e3;exact absurd ((cK aB).2 (.inr rfl)) hSy
    ·have e3:pre++[x]=(pre2++y::m')++[z]:=by rw[e2];simp
     obtain⟨e4,_⟩:=List.append_inj' e3 rfl;obtain⟨g1,g2,g3,g4⟩:=inv.mJ pre2 y m' e4 hSy1 oy fry hy kk mkk hoy hky haty hwy hal;refine⟨?_,by rw[hst'.h_ _ g4 g1];exact g2,g3,Nat.lt_of_lt_of_le g4 hst'.n⟩;cases hh:ρ' hy.n with
     | none=>rfl
     | some q=>have:=hst'.new _ q hh g1;omega }
 have hwS:cz ops.toList frS o=cz ops.toList frT o:=mW hag
 unfold wpOpIn
 simp only[ho]
 rcases hcase with ⟨hw,rfl,rfl⟩|⟨hw,hopv⟩
 ·rw[ic inv.fr (hwS.trans hw),if_neg (by simp)];exact⟨fun f _=>hF.fn f,k _ _ _ _ _ _ (mk ρ w undef (VR.undef ρ) (bV.refl inv.st.hr))⟩
 ·rw[ic inv.fr (hwS.trans hw),if_pos rfl];rw[← Eb (kA (E:=E) hag)]at hopv;exact Ln hE hF hc inv.fr inv.st.hr hopv fun v' ρ' w' r hs'=>k _ _ _ _ _ _ (mk ρ' w' v' r hs')
theorem rZ (hE:aH P E) (hF:yp F) (hc:dZ P E call) (hp:gW E true ops.toList (aL ops.toList []) pl) (hrun:ay E call nt ops.toList pl fr0 h0=some (frN,hN)) {Q:Exit→Act→World→Prop}
   (hk:∀ a' w',gw B P E ρ0 h0 w0 nt frN hN a' w'→Q .normal a' w'):∀ (fuel:Nat) (listed:Array Bool) (pre suf:List Item) (frT:Fr) (hT:Heap) (ρ:Ren) (frS:Fr) (a:Act) (w:World),
     listed.size=ops.size→listed.toList.count false=fuel→xP P E call nt ops pl fr0 frN ρ0 h0 w0 B listed pre suf frT hT ρ frS a w→wpAnyIn F n P .any ops Q fuel listed a w
 | 0,listed,pre,suf,frT,hT,ρ,frS,a,w,hsz,hcn,inv=>by
   have hnil:Region.ready .any ops listed=[]:=by
     rw[List.eq_nil_iff_forall_not_mem];intro i hi;obtain⟨hf,o,ho,_⟩:=mem_ready.1 hi;have aB:i<listed.size:=by rw[hsz];exact(Array.getElem?_eq_some_iff.1 ho).1
     simp only[Array.getD_eq_getD_getElem?,Array.getElem?_eq_getElem aB,Option.getD_some]at hf;have:false∈listed.toList:=by rw[← hf];simp
     exact List.count_eq_zero.1 hcn this
   exact⟨hnil,hk a w (finish hp hrun hsz hnil inv)⟩
 | fuel+1,listed,pre,suf,frT,hT,ρ,frS,a,w,hsz,hcn,inv=>by
   refine⟨fun hnil=>hk a w (finish hp hrun hsz hnil inv),fun i hi=>?_⟩;obtain⟨hf,o,ho,hpre⟩:=mem_ready.1 hi;have ho':ops.toList[i]?=some o:=by rw[Array.getElem?_toList];exact ho
   have aB:i<listed.size:=by rw[hsz];exact(Array.getElem?_eq_some_iff.1 ho).1
   have hs:¬listed.getD i false=true:=by simp only[Array.getD_eq_getD_getElem?,Array.getElem?_eq_getElem aB,Option.getD_some]at hf ⊢;simp[hf]
   obtain⟨pre',suf',frT',hT',inv',hhead⟩:=advance hp hrun suf pre frT hT inv;obtain⟨p1,x,s1,epl,hxi⟩:=hp.pos ho';subst hxi;have hsz':(listed.setIfInBounds x.i true).size=ops.size:=by simp[hsz]
   have hcn':=count_set aB hf hcn;have hx:x∈pre'++suf':=by rw[← inv'.pl,epl];simp
   rcases List.mem_append.1 hx with hx|hx
   · obtain⟨q1,q2,eq⟩:=List.append_of_mem hx;cases ha:eG E o with
     | true=>exact absurd (inv'.fQ x hx o ho' ha) hs
     | false=>exact wH hE hF hp hrun hsz inv' eq ho hs ha hpre fun ρ' frS' a' w' inv2=>rZ hE hF hc hp hrun hk fuel _ pre' suf' frT' hT' ρ' frS' a' w' hsz' hcn' inv2
   · rcases hhead with rfl|⟨y,s,oy,rfl,hoy,hya⟩;· cases hx
     · rcases List.mem_cons.1 hx with rfl|hx;· rw[ho']at hoy;cases hoy;exact vZ hE hF hc hp hrun hsz inv' ho hs hpre fun frT2 hT2 ρ' frS' a' w' inv2=>rZ hE hF hc hp hrun hk fuel _ _ s frT2 hT2 ρ' frS' a' w' hsz' hcn' inv2
       · exfalso;obtain⟨u1,u2,rfl⟩:=List.append_of_mem hx;obtain⟨ox,bx,hox,hbx,_,_,hacts,_⟩:=hp.at_ (pre'++y::u1) x u2 (by rw[inv'.pl];simp);have hbit:=hacts rfl y (by simp) oy hoy hya;rw[ho']at hox;cases hox;have:=Xf inv'.closed y.i x.i o bx ho' hbx hpre hbit;exact inv'.out y List.mem_cons_self this
theorem DW (hE:aH P E) (hF:yp F) (hc:dZ P E call) {id:Nat}{ρ:Ren}{h h':Heap}{fr fr':Fr}{a:Act}{w:World}{pl:List Item}(hpl:ug E ops.toList=some pl) (hrun:ay E call nt ops.toList pl fr h=some (fr',h'))
   (hf:FR E ρ fr a) (hr:HR P ρ h w) (hnt:a.tmps.size=nt) (hd:DR P B ρ w a.defers) {Q:Exit→Act→World→Prop}(hk:∀ a' w',gw B P E ρ h w nt fr' h' a' w'→Q .normal a' w'):(Code.region id ops true).wpIn F n P Q a w:=by
 refine wpIn_region_any hE.mixed ?_
 unfold ug at hpl
 simp only at hpl
 cases hok:sg E true ops.toList (aL ops.toList []) (My E ops.toList (aL ops.toList [])) with
 | false=>rw[hok]at hpl;cases hpl
 | true =>
   rw[hok]at hpl
   simp only[cond_true,Option.some.injEq]at hpl
   subst hpl
   have hp:=Uf hok
   have hnone:∀ i,¬(Array.replicate ops.size false).getD i false=true:=by intro i;simp only[Array.getD_eq_getD_getElem?,Array.getElem?_replicate];split<;>simp
   refine rZ (ρ0:=ρ) (w0:=w) hE hF hc hp hrun hk ops.size (Array.replicate ops.size false) [] _ fr h ρ fr a _ (by simp) (by simp) {
     pl:=rfl
     at_:=rfl
     fQ:=by simp
     out:=fun y _=>hnone _
     closed:=fun i o hi=>absurd hi (hnone i)
     fr:=hf
     st:=bV.draw hr _
     xx:=hnt
     df:=hd.step (bV.draw hr _)
     jf:=fun i t hi=>absurd hi (hnone i)
     jj:=fun t _=>rfl
     mJ:=by intro pre1 x m e;simp at e }
end
theorem T.ma {α:Type}(x y:α):∀ (n i:Nat) (t:T α),T.nD n (T.nD n t i x) i y=T.nD n t i y
 | 0,_,_=>rfl
 | n+1,i,.leaf=>by
   rw[T.s5,T.s5];by_cases h0:i=0;· simp[h0,T.gH]
   · by_cases h1:i%2=1;· simp[h0,h1,T.gH,T.ma x y n]
     · simp[h0,h1,T.gH,T.ma x y n]
 | n+1,i,.node l v r=>by
   rw[T.gH,T.gH];by_cases h0:i=0;· simp[h0,T.gH]
   · by_cases h1:i%2=1;· simp[h0,h1,T.gH,T.ma x y n]
     · simp[h0,h1,T.gH,T.ma x y n]
theorem T.set_set {α:Type}(t:T α) (i:Nat) (x y:α):(t.set i x).set i y=t.set i y:=T.ma x y _ i t
theorem dB {c:Nat}{k v:Value}(e:Nat×Value×Value) (es:List (Nat×Value×Value)) :
  pb c k v (e::es)=if e.1<c then (pb c k v es).map (e::·) else if c=e.1 then none else some ((c,k,v)::e::es):=by
 simp only[pb,F7,Gw]
 by_cases h1:e.1<c
 ·simp[h1]
 ·by_cases h2:c=e.1;·simp[h1,h2]
  ·simp[h1,h2]
theorem zh {c1 c2:Nat}{k1 v1 k2 v2:Value}:∀ {es e1 e2:List (Nat×Value×Value)},pb c1 k1 v1 es=some e1→pb c2 k2 v2 e1=some e2 →
   ∃ e3,pb c2 k2 v2 es=some e3∧pb c1 k1 v1 e3=some e2
 | [],e1,e2,h1,h2=>by
   simp only[pb,Option.some.injEq]at h1;subst h1;rw[dB]at h2;refine⟨[(c2,k2,v2)],rfl,?_⟩;rw[dB];simp only[pb,Option.map_some]at h2 ⊢;by_cases a:c1<c2;· rw[if_pos a]at h2;cases h2;rw[if_neg (by omega),if_neg (by omega)]
   · rw[if_neg a]at h2;by_cases b:c2=c1;· rw[if_pos b]at h2;cases h2
     · rw[if_neg b]at h2;cases h2;rw[if_pos (by omega)]
 | e::es,e1,e2,h1,h2=>by
   rw[dB]at h1;by_cases a:e.1<c1
   · rw[if_pos a]at h1;simp only[Option.map_eq_some_iff]at h1;obtain⟨q,hq,rfl⟩:=h1;rw[dB]at h2;by_cases b:e.1<c2;· rw[if_pos b]at h2;simp only[Option.map_eq_some_iff]at h2;obtain⟨q2,hq2,rfl⟩:=h2;obtain⟨e3,g1,g2⟩:=zh hq hq2;exact⟨e::e3,by rw[dB,if_pos b,g1];rfl,by rw[dB,if_pos a,g2];rfl⟩
     · rw[if_neg b]at h2;by_cases d:c2=e.1;· rw[if_pos d]at h2;cases h2
       · rw[if_neg d]at h2;cases h2;refine⟨(c2,k2,v2)::e::es,by rw[dB,if_neg b,if_neg d],?_⟩;rw[dB,if_pos (by simp only;omega),dB,if_pos a,hq];rfl
   · rw[if_neg a]at h1;by_cases b:c1=e.1;· rw[if_pos b]at h1;cases h1
     · rw[if_neg b]at h1;cases h1;rw[dB]at h2;by_cases d:c1<c2
       · rw[if_pos (by simpa using d)]at h2;simp only[Option.map_eq_some_iff]at h2;obtain⟨q,hq,rfl⟩:=h2;refine⟨q,hq,?_⟩;rw[dB]at hq;by_cases f:e.1<c2;· rw[if_pos f]at hq;simp only[Option.map_eq_some_iff]at hq;obtain⟨q2,hq2,rfl⟩:=hq;rw[dB,if_neg a,if_neg b]
         · rw[if_neg f]at hq;by_cases g:c2=e.1;· rw[if_pos g]at hq;cases hq
           · rw[if_neg g]at hq;cases hq;rw[dB,if_neg (by simp only;omega),if_neg (by simp only;omega)]
       · rw[if_neg (by simpa using d)]at h2;by_cases f:c2=c1;· rw[if_pos (by simpa using f)]at h2;cases h2
         · rw[if_neg (by simpa using f)]at h2;cases h2;refine⟨(c2,k2,v2)::e::es,by rw[dB,if_neg (by omega),if_neg (by omega)],?_⟩;rw[dB,if_pos (by simp only;omega),dB,if_neg a,if_neg b];rfl
theorem C3 {d:TypeDesc}{x y:Value}{b:Bool}(h:eH d x y=some b):eH d y x=some b:=by
 unfold eH at h;split at h
 ·rename_i k a k' b';by_cases hk:k=k';·subst hk;simp only[decide_true,cond_true,Option.some.injEq]at h;simp only[eH,decide_true,cond_true,Option.some.injEq];rw[← h];exact Bool.beq_comm
  ·simp[hk]at h
 ·cases h;simp only[eH,eqStr,Option.some.injEq];exact Bool.beq_comm
 ·cases h;simp only[eH,Option.some.injEq];exact Bool.beq_comm
 ·cases h
theorem uZ {d:TypeDesc}{k v:Value}{es r:List (Nat×Value×Value)}{c:Nat}(hk:MI k=some c) (hs:pb c k v es=some r) (ha:∀ x∈es,eH d k x.2.1=some false):pC d k v es=some r:=by have:es.all (fun x=>Ci (eH d k x.2.1))=true:=List.all_eq_true.2 fun x hx=>Dn.2 (ha x hx);simp only[pC,hk,this,cond_true,hs]
theorem Jk {d:TypeDesc}{k1 v1 k2 v2:Value}{es e1 e2:List (Nat×Value×Value)}(h1:pC d k1 v1 es=some e1) (h2:pC d k2 v2 e1=some e2) :
  ∃ e3,pC d k2 v2 es=some e3∧pC d k1 v1 e3=some e2:=by
 obtain⟨c1,a1,b1,f1⟩:=s7 h1
 obtain⟨c2,a2,b2,f2⟩:=s7 h2
 obtain⟨e3,g1,g2⟩:=zh b1 b2
 refine⟨e3,uZ a2 g1 fun x hx=>f2 x ((kS b1 x).2 (.inr hx)),uZ a1 g2 fun x hx=>?_⟩
 rcases(kS g1 x).1 hx with rfl|hx
 ·exact C3 (f2 _ ((kS b1 _).2 (.inl rfl)))
 ·exact f1 x hx
section
variable {P:Program}{E:Env}{F:Fence}{n:Nat}{call:Fn→List Value→Heap→Option (Value×Heap)}{nt:Nat}{l:List Oper}
def nU (E:Env) (l:List Oper) (fr:Fr) (t r:Nat) (x:Item):Prop :=
 (∀ i∈x.again,pF l i=true)∧∃ o m k v,l[x.i]?=some o∧o.op=.insert t m k v∧o.guard=none∧o.dst=none∧ev E fr m=some (.map (some r))
theorem rG {fr:Fr}{t r:Nat}{x:Item}(h:nU E l fr t r x):∃ o,l[x.i]?=some o∧eG E o=true∧o.dst=none:=by obtain⟨_,o,m,k,v,ho,kR,_,hd,_⟩:=h;exact⟨o,ho,by simp[eG,kindOf,kR],hd⟩
def Xa (E:Env) (t:Nat):TypeDesc:=match a_ E t with|some (.map kt _)=>(a_ E kt).getD .invalid|_=>.invalid
def qB (H:Heap) (r:Nat) (es:List (Nat×Value×Value)):Heap:={ H with b:=H.b.set r (.smap es) }
theorem gu {H:Heap}{r:Nat}{es:List (Nat×Value×Value)}(h:dy H (.map (some r))=some es):r<H.n∧H.b.get r=some (.smap es):=by
 simp only[dy]at h;cases hb:Nat.blt r H.n with
 | false=>rw[hb]at h;cases h
 | true =>
   rw[hb,cond_true]at h
   refine⟨by simpa[Nat.blt_eq]using hb,?_⟩
   split at h
   · rename_i es0 he;cases h;exact he
   · cases h
theorem j1 {H:Heap}{r:Nat}{es:List (Nat×Value×Value)}(h:r<H.n):dy (qB H r es) (.map (some r))=some es:=by
 have:Nat.blt r H.n=true:=by rw[Nat.blt_eq];exact h
 simp only[dy,qB,this,cond_true,T.get_set_same]
theorem Ie (H:Heap) (r:Nat) (a b:List (Nat×Value×Value)):qB (qB H r a) r b=qB H r b:=by simp only[qB,T.set_set]
theorem zQ {H:Heap}{r:Nat}{es es0:List (Nat×Value×Value)}(h:H.b.get r=some (.smap es0)) (a:Addr) (n:Nat):ax (qB H r es) a n=ax H a n:=by
 unfold ax qB;simp only[T.ah];by_cases hr:r=a.block;·rw[if_pos hr,← hr,h]
 ·rw[if_neg hr]
theorem Dy {H:Heap}{r:Nat}{es es0:List (Nat×Value×Value)}(h:H.b.get r=some (.smap es0)) (t:TypeId) (x:Value):loadAt E t x (qB H r es)=loadAt E t x H:=by unfold loadAt;simp only[zQ h]
theorem mr {fr:Fr}{H:Heap}{r:Nat}{es es0:List (Nat×Value×Value)}(h:H.b.get r=some (.smap es0)):∀ (ag:List Nat),(∀ i∈ag,pF l i=true)→fW E l fr (qB H r es) ag=fW E l fr H ag
 | [],_=>rfl
 | i::ag,hag=>by
   have ih:=mr (fr:=fr) (es:=es) h ag fun j hj=>hag j (List.mem_cons_of_mem _ hj);have h1:=hag i List.mem_cons_self;simp only[fW,ih];unfold pF at h1;cases ho:nth l i with
   | none=>rfl
   | some o =>
     rw[ho]at h1
     simp only at h1
     unfold L0 at h1
     split at h1
     · rename_i t a kR;simp only[dP,kR,Dy h]
     · cases h1
theorem rN {fr:Fr}{t r:Nat}{x:Item}(h:nU E l fr t r x) {o:Oper}(ho:l[x.i]?=some o) :
   ∃ D:Option (Value×Value),∀ {H:Heap}{es:List (Nat×Value×Value)},dy H (.map (some r))=some es →
     step E call nt l fr o H=D.bind fun p=>(pC (Xa E t) p.1 p.2 es).map fun es1=>(fr,qB H r es1):=by
 obtain⟨_,o',m,k,v,ho',kR,hg,hd,hm⟩:=h
 rw[ho]at ho';cases ho'
 have key:∀ H,step E call nt l fr o H=match ev E fr k,ev E fr v with
     | some kk,some vv=>(cG E t (.map (some r)) kk vv H).map fun h=>(fr,h)
     | _,_=>none:=by
   intro H
   simp only[step,cz,hg,fF,kindOf,kR,iw,hm]
   cases ev E fr k with
   | none=>rfl
   | some kk =>
     cases ev E fr v with
     | none=>rfl
     | some vv =>
       simp only
       cases cG E t (.map (some r)) kk vv H with
       | none=>rfl
       | some h=>simp only[Option.map_some,put,hd]
 cases hk:ev E fr k with
 | none=>exact⟨none,fun {H es} hs=>by rw[key,hk];rfl⟩
 | some kk =>
   cases hv:ev E fr v with
   | none=>exact⟨none,fun {H es} hs=>by rw[key,hk,hv];rfl⟩
   | some vv =>
     cases hu:a_ E t with
     | none=>exact⟨none,fun {H es} hs=>by rw[key,hk,hv];simp only[cG,hu];rfl⟩
     | some d0 =>
       by_cases hmap:∃ kt et,d0=.map kt et
       · obtain⟨kt,et,rfl⟩:=hmap;cases hkt:a_ E kt with
         | none=>exact⟨none,fun {H es} hs=>by rw[key,hk,hv];simp only[cG,hu,hkt];rfl⟩
         | some d =>
           cases hc:(iT d&&cI E 20 kt kk) with
           | false =>
             refine⟨none,fun {H es} hs=>?_⟩
             obtain⟨g1,g2⟩:=gu hs
             have hgm:bU H (.map (some r))=none:=by simp only[bU,g2];cases Nat.blt r H.n<;>rfl
             rw[key,hk,hv];simp only[cG,hu,hkt,hgm,hc,cond_false];rfl
           | true =>
             refine⟨some (kk,vv),fun {H es} hs=>?_⟩
             obtain⟨g1,g2⟩:=gu hs
             have hgm:bU H (.map (some r))=none:=by simp only[bU,g2];cases Nat.blt r H.n<;>rfl
             rw[key,hk,hv]
             have zR:Xa E t=d:=by simp only[Xa,hu,hkt,Option.getD_some]
             simp only[cG,hu,hkt,hgm,hc,cond_true,hs,zR,Option.bind_some,Option.map_map]
             rfl
       · refine⟨none,fun {H es} hs=>?_⟩;rw[key,hk,hv];have:cG E t (.map (some r)) kk vv H=none:=by
           unfold cG;rw[hu];split;· rename_i kt et r' e1 e2;exact absurd ⟨_,_,by cases e1;rfl⟩ hmap
           · rfl
         simp only[this];rfl
theorem jz {fr:Fr}{t r:Nat}{x:Item}(h:nU E l fr t r x) {xs:List Item}{H:Heap}{es:List (Nat×Value×Value)}(hs:dy H (.map (some r))=some es) {R:Fr×Heap}
   {o:Oper}(ho:l[x.i]?=some o) {D:Option (Value×Value)}
   (hD:∀ {H:Heap}{es:List (Nat×Value×Value)},dy H (.map (some r))=some es→step E call nt l fr o H=D.bind fun p=>(pC (Xa E t) p.1 p.2 es).map fun es1=>(fr,qB H r es1)) :
   ay E call nt l (x::xs) fr H=some R↔∃ p es1,D=some p∧pC (Xa E t) p.1 p.2 es=some es1∧fW E l fr H x.again=true∧ay E call nt l xs fr (qB H r es1)=some R:=by
 have hag:=fun es1=>mr (E:=E) (l:=l) (fr:=fr) (es:=es1) (gu hs).2 x.again h.1
 simp only[ay,bK,ho,hD hs]
 cases D with
 | none=>simp
 | some p =>
   simp only[Option.bind_some,Option.some.injEq]
   cases hsa:pC (Xa E t) p.1 p.2 es with
   | none=>simp[hsa]
   | some es1 =>
     have hn:Nat.ble H.n (qB H r es1).n=true:=by rw[Nat.ble_eq];exact Nat.le_refl _
     simp only[Option.map_some,hn,hag,Bool.true_and]
     constructor
     · intro h;cases ha:fW E l fr H x.again with
       | false=>rw[ha]at h;cases h
       | true=>rw[ha]at h;exact⟨p,es1,rfl,hsa,rfl,h⟩
     · rintro⟨p',es',rfl,hsa',ha,h⟩;rw[hsa]at hsa';cases hsa';rw[ha];exact h
theorem Oo {fr:Fr}{t r:Nat}{z x:Item}(hz:nU E l fr t r z) (hx:nU E l fr t r x) {B:List Item}{H:Heap}{es:List (Nat×Value×Value)}(hs:dy H (.map (some r))=some es) {R:Fr×Heap}
  (e:ay E call nt l (z::x::B) fr H=some R):ay E call nt l (x::z::B) fr H=some R:=by
 obtain⟨oz,hoz,-,-⟩:=rG hz
 obtain⟨ox,hox,-,-⟩:=rG hx
 obtain⟨Dz,hDz⟩:=rN (call:=call) (nt:=nt) hz hoz
 obtain⟨Dx,hDx⟩:=rN (call:=call) (nt:=nt) hx hox
 obtain⟨aB,_⟩:=gu hs
 obtain⟨p,es1,h1,h2,a1,h3⟩:=(jz hz hs hoz hDz).1 e
 obtain⟨q,es2,h4,h5,a2,h6⟩:=(jz hx (j1 aB) hox hDx).1 h3
 obtain⟨es3,g1,g2⟩:=Jk h2 h5
 have hgs:=(gu hs).2
 rw[mr hgs _ hx.1]at a2
 refine(jz hx hs hox hDx).2 ⟨q,es3,h4,g1,a2,(jz hz (j1 aB) hoz hDz).2 ⟨p,es2,h1,g2,by rw[mr hgs _ hz.1];exact a1,?_⟩⟩
 rw[Ie]at h6 ⊢
 exact h6
theorem yU {fr:Fr}{t r:Nat}:∀ {A B:List Item}{H:Heap}{R:Fr×Heap},(∀ x∈A,nU E l fr t r x)→iB H r=true→ay E call nt l (A++B) fr H=some R →
   ∃ H',ay E call nt l A fr H=some (fr,H')∧iB H' r=true∧ay E call nt l B fr H'=some R
 | [],B,H,R,_,hs,e=>⟨H,rfl,hs,e⟩
 | x::A,B,H,R,hA,hs,e=>by
   have hx:=hA x List.mem_cons_self;unfold iB at hs;split at hs;· rename_i es hs0;obtain⟨o,ho,-,-⟩:=rG hx;obtain⟨D,hD⟩:=rN (call:=call) (nt:=nt) hx ho;obtain⟨aB,_⟩:=gu hs0;obtain⟨p,es1,h1,h2,a1,h3⟩:=(jz hx hs0 ho hD).1 e;obtain⟨H',g1,g2,g3⟩:=yU (A:=A) (B:=B) (fun y hy=>hA y (List.mem_cons_of_mem _ hy)) (by unfold iB;rw[j1 aB]) h3;exact⟨H',(jz hx hs0 ho hD).2 ⟨p,es1,h1,h2,a1,g1⟩,g2,g3⟩
   · cases hs
theorem xX {fr:Fr}{t r:Nat}{x:Item}(hx:nU E l fr t r x):∀ {A B:List Item}{H:Heap}{R:Fr×Heap},(∀ y∈A,nU E l fr t r y)→iB H r=true→ay E call nt l (A++x::B) fr H=some R →
   ay E call nt l (x::(A++B)) fr H=some R
 | [],B,H,R,_,_,e=>e
 | z::A,B,H,R,hA,hs,e=>by
   have hz:=hA z List.mem_cons_self;have hs2:=hs;unfold iB at hs;split at hs;· rename_i es hs0;obtain⟨o,ho,-,-⟩:=rG hz;obtain⟨D,hD⟩:=rN (call:=call) (nt:=nt) hz ho;obtain⟨aB,_⟩:=gu hs0;obtain⟨p,es1,h1,h2,a1,h3⟩:=(jz hz hs0 ho hD).1 e;have h4:=xX hx (A:=A) (B:=B) (fun y hy=>hA y (List.mem_cons_of_mem _ hy)) (by unfold iB;rw[j1 aB]) h3;exact Oo hz hx hs0 ((jz hz hs0 ho hD).2 ⟨p,es1,h1,h2,a1,h4⟩)
   · cases hs
theorem oV {α:Type}{P Q pre suf:List α}{y:α}(e:P++Q=pre++y::suf):(∃ s,P=pre++y::s)∨∃ p,pre=P++p∧Q=p++y::suf:=by
 rcases List.append_eq_append_iff.1 e with ⟨c,h1,h2⟩|⟨c,h1,h2⟩;· exact .inr ⟨c,h1,h2⟩
 · cases c with
   | nil=>exact .inr ⟨[],by simpa using h1.symm,by simpa using h2.symm⟩
   | cons z c =>
     simp only[List.cons_append,List.cons.injEq]at h2
     obtain⟨rfl,_⟩:=h2
     exact .inl ⟨c,h1⟩
theorem V9 {bs:List Nat}{P A B:List Item}{x:Item}{o:Oper}(hp:gW E false l bs (P++(A++x::B))) (ho:l[x.i]?=some o) (ha:eG E o=true) (hd:o.dst=none)
   (hdep:∀ e∈o.after,Region.binds .any e=true→∃ y∈P,y.i=e.on):gW E false l bs (P++(x::(A++B))) where
 cov i hi:=by
   obtain⟨y,hy,e⟩:=hp.cov i hi;refine⟨y,?_,e⟩;simp only[List.mem_append,List.mem_cons]at hy ⊢;rcases hy with h|h|h|h;· exact .inl h
   · exact .inr (.inr (.inl h))
   · exact .inr (.inl h)
   · exact .inr (.inr (.inr h))
 at_ pre y suf e:=by
   rcases oV e with ⟨s,hs⟩|⟨p,hs,e'⟩;· exact hp.at_ pre y (s++(A++x::B)) (by rw[hs];simp)
   · subst hs;clear e;have e:=e';clear e';cases p with
     | nil =>
       simp only[List.nil_append,List.cons.injEq]at e;obtain⟨rfl,rfl⟩:=e;obtain⟨o',b,g1,g2,g3,g4,g5,g6⟩:=hp.at_ (P++A) x B (by simp);rw[ho]at g1;cases g1;simp only[List.append_nil];refine⟨o,b,ho,g2,fun z hz=>g3 z (List.mem_append_left _ hz),hdep,fun h=>(by cases h),fun _ z hz oz hoz hr=>?_⟩;rcases g6 ha z (List.mem_append_left _ hz) oz hoz hr with g|⟨g,f⟩;· exact .inl g
       · refine .inr ⟨g,fun by_ hb t ht q hq=>?_⟩;rcases f by_ hb t ht q hq with f|f;· exact .inl f
         · exact .inr fun u hu=>f u (List.mem_append_left _ hu)
     | cons z p =>
       simp only[List.cons_append,List.cons.injEq]at e;obtain⟨rfl,e⟩:=e;have hxb:=hp.at_ (P++A) x B (by simp);rcases oV e with ⟨s,hs⟩|⟨p2,hs,e2⟩
       · obtain⟨oy,b,g1,g2,g3,g4,g5,g6⟩:=hp.at_ (P++p) y (s++x::B) (by rw[hs];simp);refine⟨oy,b,g1,g2,fun z hz=>?_,fun e he hb=>?_,fun h=>(by cases h),fun hay z hz oz hoz hr=>?_⟩
         · simp only[List.mem_append,List.mem_cons]at hz;rcases hz with h|rfl|h;· exact g3 z (List.mem_append_left _ h)
           · obtain⟨_,_,_,_,f,_⟩:=hxb;exact fun ee=>f y (by rw[hs];simp) ee.symm
           · exact g3 z (List.mem_append_right _ h)
         · obtain⟨u,hu,e⟩:=g4 e he hb;refine⟨u,?_,e⟩;simp only[List.mem_append,List.mem_cons]at hu ⊢;rcases hu with h|h;· exact .inl h
           · exact .inr (.inr h)
         · have hz2:z∈P++p:=by
             simp only[List.mem_append,List.mem_cons]at hz ⊢;rcases hz with h|rfl|h;· exact .inl h
             · rw[ho]at hoz;cases hoz;rw[Y_ ha]at hr;cases hr
             · exact .inr h
           rcases g6 hay z hz2 oz hoz hr with g|⟨g,f⟩;· exact .inl g
           · refine .inr ⟨g,fun by_ hb t ht q hq=>?_⟩;rcases f by_ hb t ht q hq with f|f;· exact .inl f
             · refine .inr fun u hu=>?_;simp only[List.mem_append,List.mem_cons]at hu;rcases hu with h|rfl|h;· exact f u (List.mem_append_left _ h)
               · intro ee;obtain⟨oq,hoq,hqd⟩:=hq;rw[← ee,ho]at hoq;cases hoq;rw[hd]at hqd;cases hqd
               · exact f u (List.mem_append_right _ h)
       · subst hs;subst e2;obtain⟨oy,b,g1,g2,g3,g4,g5,g6⟩:=hp.at_ (P++(A++x::p2)) y suf (by simp);have hm:∀ z,z∈P++(A++x::p2)↔z∈P++x::(A++p2):=by
           intro z;simp only[List.mem_append,List.mem_cons];constructor
           · rintro(h|h|h|h);· exact .inl h
             · exact .inr (.inr (.inl h))
             · exact .inr (.inl h)
             · exact .inr (.inr (.inr h))
           · rintro(h|h|h|h);· exact .inl h
             · exact .inr (.inr (.inl h))
             · exact .inr (.inl h)
             · exact .inr (.inr (.inr h))
         refine⟨oy,b,g1,g2,fun z hz=>g3 z ((hm z).2 hz),fun e he hb=>?_,fun h=>(by cases h),fun hay z hz oz hoz hr=>?_⟩;· obtain⟨u,hu,e⟩:=g4 e he hb;exact⟨u,(hm u).1 hu,e⟩
         · rcases g6 hay z ((hm z).2 hz) oz hoz hr with g|⟨g,f⟩;· exact .inl g
           · refine .inr ⟨g,fun by_ hb t ht q hq=>?_⟩;rcases f by_ hb t ht q hq with f|f;· exact .inl f
             · exact .inr fun u hu=>f u ((hm u).2 hu)
 once:=hp.once
 Hq:=hp.Hq
end
section
variable {P:Program}{E:Env}{F:Fence}{n:Nat}{call:Fn→List Value→Heap→Option (Value×Heap)}{nt:Nat}{ops:Array Oper}
variable {fr0 frN fr1:Fr}{ρ0:Ren}{h0 hN h1:Heap}{w0:World}{B:Nat}{t r:Nat}{q z:List Item}
theorem mT (hE:aH P E) (hF:yp F) (hc:dZ P E call) {Q:Exit→Act→World→Prop}
   (hk:∀ a' w',gw B P E ρ0 h0 w0 nt frN hN a' w'→Q .normal a' w') (hq:∀ x∈q,∀ o,ops.toList[x.i]?=some o→eG E o=false) (hrq:ay E call nt ops.toList q fr0 h0=some (fr1,h1)) (hs1:iB h1 r=true) (hz:∀ x∈z,∀ o,ops.toList[x.i]?=some o→eG E o=false) :
   ∀ (fuel:Nat) (listed:Array Bool) (I pre suf:List Item) (frT:Fr) (hT:Heap) (ρ:Ren) (frS:Fr) (a:Act) (w:World),(∀ x∈I,nU E ops.toList fr1 t r x)→(∀ x∈z,∀ b,(aL ops.toList [])[x.i]?=some b→∀ y∈I,b.testBit y.i=true)→gW E false ops.toList (aL ops.toList []) (q++(I++z)) →
     ay E call nt ops.toList (q++(I++z)) fr0 h0=some (frN,hN) →
     listed.size=ops.size→listed.toList.count false=fuel→xP P E call nt ops (q++(I++z)) fr0 frN ρ0 h0 w0 B listed pre suf frT hT ρ frS a w→wpAnyIn F n P .any ops Q fuel listed a w
 | 0,listed,I,pre,suf,frT,hT,ρ,frS,a,w,hI,hb,hp,hrun,hsz,hcn,inv=>by
   have hnil:Region.ready .any ops listed=[]:=by
     rw[List.eq_nil_iff_forall_not_mem];intro i hi;obtain⟨hf,o,ho,_⟩:=mem_ready.1 hi;have aB:i<listed.size:=by rw[hsz];exact(Array.getElem?_eq_some_iff.1 ho).1
     simp only[Array.getD_eq_getD_getElem?,Array.getElem?_eq_getElem aB,Option.getD_some]at hf;have:false∈listed.toList:=by rw[← hf];simp
     exact List.count_eq_zero.1 hcn this
   exact⟨hnil,hk a w (finish hp hrun hsz hnil inv)⟩
 | fuel+1,listed,I,pre,suf,frT,hT,ρ,frS,a,w,hI,hb,hp,hrun,hsz,hcn,inv=>by
   refine⟨fun hnil=>hk a w (finish hp hrun hsz hnil inv),fun i hi=>?_⟩;obtain⟨hf,o,ho,hpre⟩:=mem_ready.1 hi;have ho':ops.toList[i]?=some o:=by rw[Array.getElem?_toList];exact ho
   have aB:i<listed.size:=by rw[hsz];exact(Array.getElem?_eq_some_iff.1 ho).1
   have hs:¬listed.getD i false=true:=by simp only[Array.getD_eq_getD_getElem?,Array.getElem?_eq_getElem aB,Option.getD_some]at hf ⊢;simp[hf]
   obtain⟨pre',suf',frT',hT',inv',hhead⟩:=advance hp hrun suf pre frT hT inv;obtain⟨p1,x,s1,epl,hxi⟩:=hp.pos ho';subst hxi;have hsz':(listed.setIfInBounds x.i true).size=ops.size:=by simp[hsz]
   have hcn':=count_set aB hf hcn;have hx:x∈pre'++suf':=by rw[← inv'.pl,epl];simp
   rcases List.mem_append.1 hx with hx|hx
   · obtain⟨q1,q2,eq⟩:=List.append_of_mem hx;cases ha:eG E o with
     | true=>exact absurd (inv'.fQ x hx o ho' ha) hs
     | false=>exact wH hE hF hp hrun hsz inv' eq ho hs ha hpre fun ρ' frS' a' w' inv2=>mT hE hF hc hk hq hrq hs1 hz fuel _ I pre' suf' frT' hT' ρ' frS' a' w' hI hb hp hrun hsz' hcn' inv2
   · rcases hhead with rfl|⟨y,s,oy,rfl,hoy,hya⟩;· cases hx
     · rcases List.mem_cons.1 hx with rfl|hx;· rw[ho']at hoy;cases hoy;exact vZ hE hF hc hp hrun hsz inv' ho hs hpre fun frT2 hT2 ρ' frS' a' w' inv2=>mT hE hF hc hk hq hrq hs1 hz fuel _ I _ s frT2 hT2 ρ' frS' a' w' hI hb hp hrun hsz' hcn' inv2
       · rcases oV inv'.pl with ⟨s9,hs2⟩|⟨p9,hpre',e9⟩;· have:=hq y (by rw[hs2];simp) oy hoy;rw[hya]at this;cases this
         obtain⟨s0,eI⟩:∃ s0,I=p9++y::s0:=by
           rcases oV e9 with h|⟨p8,_,e8⟩;· exact h
           · have:=hz y (by rw[e8];simp) oy hoy;rw[hya]at this;cases this
         have es:s=s0++z:=by
           rw[eI]at e9;have e7:p9++(y::(s0++z))=p9++y::s:=by rw[← e9];simp
           have:=List.append_cancel_left e7;simp only[List.cons.injEq,true_and]at this;exact this.symm
         subst es;have hnx:x∉z:=fun hxz=>by obtain⟨bx,hbx⟩:=nc ops.toList ho';have h1:=hb x hxz bx hbx y (by rw[eI];simp);exact inv'.out y (by simp) (Xf inv'.closed y.i x.i o bx ho' hbx hpre h1)
         have hx:x∈s0:=by
           rcases List.mem_append.1 hx with h|h;· exact h
           · exact absurd h hnx
         obtain⟨u1,u2,rfl⟩:=List.append_of_mem hx;subst hpre';subst eI;have hx':nU E ops.toList fr1 t r x:=hI x (by simp);obtain⟨ox,hox,hxa,hxd⟩:=rG hx';rw[ho']at hox;cases hox;have hat:=inv'.at_;obtain⟨f1,H1,e1,e2⟩:=dX hat;rw[hrq]at e1;cases e1;obtain⟨H',g1,g2,g3⟩:=yU (call:=call) (nt:=nt) (A:=p9) (B:=[]) (fun z hz=>hI z (by simp[hz])) hs1 (by simpa using e2);simp only[ay,Option.some.injEq,Prod.mk.injEq]at g3;obtain⟨rfl,rfl⟩:=g3;have hrest:ay E call nt ops.toList (y::(u1++x::(u2++z))) fr1 H'=some (frN,hN):=by
           have h0:=hrun;have e6:q++((p9++y::(u1++x::u2))++z)=(q++p9)++(y::(u1++x::(u2++z))):=by simp
           rw[e6]at h0;obtain⟨f,hh,a1,a2⟩:=dX h0;rw[hat]at a1;cases a1;exact a2
         have hnew:=xX hx' (A:=y::u1) (B:=u2++z) (fun z hz=>hI z (by
           rcases List.mem_cons.1 hz with rfl|hz;· simp
           · simp[hz])) g2 hrest
         have hp2:gW E false ops.toList (aL ops.toList []) ((q++p9)++(x::((y::u1)++(u2++z)))):=by
           refine V9 (A:=y::u1) (B:=u2++z) (by simpa using hp) ho' hxa hxd fun e he hbd=>?_;obtain⟨o3,b3,g31,_,_,g34,_,_⟩:=hp.at_ (q++p9++y::u1) x (u2++z) (by simp);rw[ho']at g31;cases g31;obtain⟨z',hz',ez⟩:=g34 e he hbd;rcases List.mem_append.1 hz' with hz'|hz';· exact⟨z',hz',ez⟩
           · refine absurd (hpre e he hbd) ?_;rw[← ez];refine inv'.out z' ?_;rcases List.mem_cons.1 hz' with rfl|hz';· simp
             · simp[hz']
         have hrun2:ay E call nt ops.toList ((q++p9)++(x::((y::u1)++(u2++z)))) fr0 h0=some (frN,hN):=kn hat hnew;have hm:∀ v,v∈p9++(x::((y::u1)++u2))→v∈p9++y::(u1++x::u2):=fun v hv=>by
           simp only[List.mem_append,List.mem_cons]at hv ⊢;rcases hv with h|h|(h|h)|h;· exact .inl h
           · exact .inr (.inr (.inr (.inl h)))
           · exact .inr (.inl h)
           · exact .inr (.inr (.inl h))
           · exact .inr (.inr (.inr (.inr h)))
         have e5:(q++p9)++(x::((y::u1)++(u2++z)))=q++((p9++(x::((y::u1)++u2)))++z):=by simp
         rw[e5]at hp2 hrun2;have inv2:xP P E call nt ops (q++((p9++(x::((y::u1)++u2)))++z)) fr0 frN ρ0 h0 w0 B listed (q++p9) (x::((y::u1)++(u2++z))) fr1 H' ρ frS a w:={
           pl:=by simp
           at_:=inv'.at_
           fQ:=inv'.fQ
           out:=fun v hv=>inv'.out v (by
             simp only[List.mem_append,List.mem_cons]at hv ⊢;rcases hv with h|(h|h)|h|h;· exact .inr (.inl (.inr (.inl h)))
             · exact .inl h
             · exact .inr (.inl (.inl h))
             · exact .inr (.inl (.inr (.inr h)))
             · exact .inr (.inr h))
           closed:=inv'.closed
           fr:=inv'.fr
           st:=inv'.st
           xx:=inv'.xx
           df:=inv'.df
           jf:=inv'.jf
           jj:=inv'.jj
           mJ:=inv'.mJ }
         exact vZ hE hF hc hp2 hrun2 hsz inv2 ho hs hpre fun frT2 hT2 ρ' frS' a' w' inv3=>mT hE hF hc hk hq hrq hs1 hz fuel _ _ _ _ frT2 hT2 ρ' frS' a' w' (fun v hv=>hI v (hm v hv)) (fun v hv b hb' w' hw'=>hb v hv b hb' w' (hm w' hw')) hp2 hrun2 hsz' hcn' inv3
theorem pw {l:List Oper}{q A Z:List Item}(h:mh E l=some (q,A,Z)) :
   gW E false l (aL l []) (q++(A++Z))∧(∀ x∈q,∀ o,l[x.i]?=some o→eG E o=false)∧(∀ x∈A,(∀ i∈x.again,pF l i=true)∧∃ o,l[x.i]?=some o∧PV o=true) ∧
     (∀ x∈Z,∀ o,l[x.i]?=some o→eG E o=false)∧∀ x∈Z,∀ b,(aL l [])[x.i]?=some b→∀ y∈A,b.testBit y.i=true:=by
 unfold mh at h
 simp only at h
 generalize ((tu l).filter fun x=>!ld E l x).filter (fun x=>!je (aL l []) ((tu l).filter (ld E l)) x)=q0 at h
 generalize ((tu l).filter fun x=>!ld E l x).filter (je (aL l []) ((tu l).filter (ld E l)))=z0 at h
 generalize ((tu l).filter (ld E l)).map (yY l (aL l []) q0)=a0 at h
 cases hc:(sg E false l (aL l []) (q0++(a0++z0))&&a0.all (Mo l)&&a0.all (fun x=>x.again.all (pF l))&&q0.all (fun x=>!ld E l x)&&z0.all (fun x=>!ld E l x&&je (aL l []) a0 x)) with
 | false=>rw[hc]at h;cases h
 | true =>
   rw[hc]at h
   simp only[cond_true,Option.some.injEq,Prod.mk.injEq]at h
   obtain⟨rfl,rfl,rfl⟩:=h
   simp only[Bool.and_eq_true]at hc
   obtain⟨⟨⟨⟨c1,c2⟩,c3⟩,c4⟩,c5⟩:=hc
   have quiet:∀ x:Item,(!ld E l x)=true→∀ o,l[x.i]?=some o→eG E o=false:=fun x this o ho=>by unfold ld at this;rw[bK,ho]at this;simpa using this
   refine⟨Uf c1,fun x hx=>quiet x (List.all_eq_true.1 c4 x hx),fun x hx=>⟨fun i hi=>List.all_eq_true.1 (List.all_eq_true.1 c3 x hx) i hi,?_⟩,fun x hx=>?_,fun x hx b hb y hy=>?_⟩
   · have:=List.all_eq_true.1 c2 x hx;unfold Mo at this;rw[bK]at this;cases ho:l[x.i]? with
     | none=>rw[ho]at this;cases this
     | some o=>rw[ho]at this;exact⟨o,rfl,this⟩
   · have:=List.all_eq_true.1 c5 x hx;simp only[Bool.and_eq_true]at this;exact quiet x this.1
   · have:=List.all_eq_true.1 c5 x hx;simp only[Bool.and_eq_true]at this;have:=this.2;unfold je at this;rw[bK,hb]at this;exact List.all_eq_true.1 this y hy
theorem B9 {l:List Oper}{q A Z:List Item}{fr:Fr}{h:Heap}(hp:mh E l=some (q,A,Z)) (hs:nY E l fr h A=true):∃ t r,iB h r=true∧∀ x∈A,nU E l fr t r x:=by
 obtain⟨_,_,hA,_⟩:=pw hp;unfold nY at hs;split at hs;·cases hs
 ·split at hs
  ·rename_i t r _;simp only[Bool.and_eq_true]at hs;refine⟨t,r,hs.1,fun x hx=>?_⟩;obtain⟨hag,o,ho,hi⟩:=hA x hx;have:=List.all_eq_true.1 hs.2 x hx;rw[bK,ho]at this;simp only at this;unfold Ef at this;split at this
   ·rename_i t' m k v kR;simp only[Bool.and_eq_true]at this;obtain⟨ht,hm⟩:=this;have ht:=Nat.eq_of_beq_eq_true ht;subst ht;unfold PV at hi;split at hi
    ·rename_i hop2 hg hd;rw[kR]at hop2;split at hm;·rename_i r' hev;have hr:=Nat.eq_of_beq_eq_true hm;subst hr;exact⟨hag,o,m,k,v,ho,kR,hg,hd,hev⟩
     ·cases hm
    ·cases hi
   ·cases this
  ·cases hs
theorem Bw (hE:aH P E) (hF:yp F) (hc:dZ P E call) {id:Nat}{ρ:Ren}{h h1 h':Heap}{fr fr1 fr':Fr}{a:Act}{w:World}{q A Z:List Item}(hpl:mh E ops.toList=some (q,A,Z))
  (hrq:ay E call nt ops.toList q fr h=some (fr1,h1)) (hall:nY E ops.toList fr1 h1 A=true) (hrA:ay E call nt ops.toList (A++Z) fr1 h1=some (fr',h'))
  (hf:FR E ρ fr a) (hr:HR P ρ h w) (hnt:a.tmps.size=nt) (hd:DR P B ρ w a.defers) {Q:Exit→Act→World→Prop}(hk:∀ a' w',gw B P E ρ h w nt fr' h' a' w'→Q .normal a' w'):(Code.region id ops true).wpIn F n P Q a w:=by
 refine wpIn_region_any hE.mixed ?_
 obtain⟨hp,hqq,_,hzz,hbb⟩:=pw hpl
 obtain⟨t,r,hs1,hI⟩:=B9 hpl hall
 have hnone:∀ i,¬(Array.replicate ops.size false).getD i false=true:=by intro i;simp only[Array.getD_eq_getD_getElem?,Array.getElem?_replicate];split<;>simp
 refine mT (ρ0:=ρ) (w0:=w) hE hF hc hk hqq hrq hs1 hzz ops.size (Array.replicate ops.size false) A [] _ fr h ρ fr a _ hI hbb hp (kn hrq hrA) (by simp) (by simp) {
  pl:=rfl
  at_:=rfl
  fQ:=by simp
  out:=fun y _=>hnone _
  closed:=fun i o hi=>absurd hi (hnone i)
  fr:=hf
  st:=bV.draw hr _
  xx:=hnt
  df:=hd.step (bV.draw hr _)
  jf:=fun i t hi=>absurd hi (hnone i)
  jj:=fun t _=>rfl
  mJ:=by intro pre1 x m e;simp at e }
end
theorem VR.sy {ρ:Ren}{a:Addr}{n c:Nat}{x:Value}(h:VR ρ (.slice (some a) n c) x) :
  (∃ b d c',ρ a.block=some (b,d)∧a.spot=none∧x=.slice (some ⟨b,a.off,none⟩) n c'∧((c<cY∧c'=c)∨(c=cY∧n<cY∧n≤c'∧(a.off=0→c'=d))))∨(n=0∧c=fY∧∃ a' c',x=.slice (some a') 0 c'):=by
 generalize hv:Value.slice (some a) n c=v at h
 cases h with
 | slice off len cap hi hc=>cases hv;exact .inl ⟨_,_,_,hi,rfl,rfl,.inl ⟨hc,rfl⟩⟩
 | dG off len cap hi hn hl h0=>cases hv;exact .inl ⟨_,_,_,hi,rfl,rfl,.inr ⟨rfl,hn,hl,h0⟩⟩
 | ey a a' cap=>cases hv;exact .inr ⟨rfl,rfl,_,_,rfl⟩
 | _=>cases hv
theorem VR.CK {ρ:Ren}{a:Addr}{n c:Nat}{b d c':Nat}(hi:ρ a.block=some (b,d)) (hs:a.spot=none) (h:(c<cY∧c'=c)∨(c=cY∧n<cY∧n≤c'∧(a.off=0→c'=d))):VR ρ (.slice (some a) n c) (.slice (some ⟨b,a.off,none⟩) n c'):=by
 obtain⟨i,o,s⟩:=a;simp only at hs;subst hs;rcases h with ⟨hc,rfl⟩|⟨rfl,h1,h2,h3⟩;·exact .slice _ _ _ hi hc
 ·exact .dG _ _ _ hi h1 h2 h3
mutual
theorem VR.back {ρ ρ':Ren}(hle:ρ.le ρ'):∀ {v v0 v':Value},VR ρ v v0→VR ρ' v v'→VR ρ v v'
 | _,_,_,.bool b,h=>by cases h;exact .bool b
 | _,_,_,.int k n,h=>by cases h;exact .int k n
 | _,_,_,.float k n,h=>by cases h;exact .float k n
 | _,_,_,.tV n h0 hn,h=>by cases h;rename_i m h1 h2;exact .tV m h1 h2
 | _,_,_,.string s,h=>by cases h;exact .string s
 | _,_,_,.pZ,h=>by cases h;exact .pZ
 | _,_,_,.ptr off hi,h=>by
   cases h with
   | ptr _ hi'=>have:=hle _ _ hi;rw[this]at hi';cases hi';exact .ptr off hi
 | _,_,_,.fl n c hc,h=>by cases h;exact .fl n c hc
 | _,_,_,.slice off len cap hi hc,h=>by
   rcases h.sy with ⟨b,d,c',e1,e2,rfl,e3⟩|⟨_,e2,_⟩;· have:=hle _ _ hi;simp only at e1;rw[this]at e1;cases e1;exact VR.CK hi rfl e3
   · have:fY<cY:=e2▸hc;exact absurd this (by decide)
 | _,_,_,.dG off len cap hi hn hl h0,h=>by
   rcases h.sy with ⟨b,d,c',e1,e2,rfl,e3⟩|⟨_,e2,_⟩;· have:=hle _ _ hi;simp only at e1;rw[this]at e1;cases e1;exact VR.CK hi rfl e3
   · exact absurd e2 (by decide)
 | _,_,_,.ey a a' cap,h=>by
   rcases h.sy with ⟨b,d,c',e1,e2,rfl,e3⟩|⟨_,_,a2,c2,rfl⟩
   · rcases e3 with ⟨e3,_⟩|⟨e3,_⟩;· exact absurd e3 (by decide)
     · exact absurd e3 (by decide)
   · exact .ey _ _ _
 | _,_,_,.sI,h=>by cases h;exact .sI
 | _,_,_,.map hi,h=>by
   cases h with
   | map hi'=>have:=hle _ _ hi;rw[this]at hi';cases hi';exact .map hi
 | _,_,_,.nilFunc,h=>by cases h;exact .nilFunc
 | _,_,_,.func fn xs ys xs0 ys0 hy h1 h2,h=>by
   cases h with
   | func _ _ _ xs' ys' _ g1 g2=>exact .func fn _ _ _ _ hy (dp.back hle h1 g1) (dp.back hle h2 g2)
   | yield _=>cases hy
 | _,_,_,.yield hi,h=>by
   cases h with
   | func _ _ _ _ _ hy _ _=>cases hy
   | yield hi'=>have:=hle _ _ hi;rw[this]at hi';cases hi';exact .yield hi
 | _,_,_,.nilIface,h=>by cases h;exact .nilIface
 | _,_,_,.iface t v v0 hv,h=>by
   cases h with
   | iface _ _ v' g=>exact .iface t _ _ (VR.back hle hv g)
 | _,_,_,.agg xs xs0 h0,h=>by
   cases h with
   | agg _ xs' g=>exact .agg _ _ (dp.back hle h0 g)
 | _,_,_,.tuple xs xs0 h0,h=>by
   cases h with
   | tuple _ xs' g=>exact .tuple _ _ (dp.back hle h0 g)
theorem dp.back {ρ ρ':Ren}(hle:ρ.le ρ'):∀ {l l0 l':List Value},dp ρ l l0→dp ρ' l l'→dp ρ l l'
 | _,_,_,.nil,h=>by cases h;exact .nil
 | _,_,_,.cons h t,g=>by
   cases g with
   | cons h' t'=>exact .cons (VR.back hle h h') (dp.back hle t t')
end
theorem MR.back {ρ ρ':Ren}(hle:ρ.le ρ'):∀ {es:List (Value×Value×Nat)}{l0 l':List MapEntry},MR ρ es l0→MR ρ' es l'→MR ρ es l'
 | _,_,_,.nil,h=>by cases h;exact .nil
 | _,_,_,.cons hk hv t,h=>by
   cases h with
   | cons hk' hv' t'=>exact .cons (VR.back hle hk hk') (VR.back hle hv hv') (MR.back hle t t')
def Sp:fa→Prop
 | .loop ..=>False
 | _=>True
theorem BR.back {P:Program}{ρ ρ':Ren}(hle:ρ.le ρ') {c:Nat}{k:fa}{o o':Obj}(h:BR P ρ c k o) (g:BR P ρ' c k o'):BR P ρ c k o':=by
 cases k with
 | cells cs e x =>
   cases h with
   | cells _ xs _ _ h1 h2 =>
     cases g with
     | cells _ ys _ _ g1 g2 =>
       refine .cells _ _ _ _ (fun i v hv=>?_) g2
       obtain⟨v0,_,r⟩:=h1 i v hv
       obtain⟨v',e,r'⟩:=g1 i v hv
       exact⟨v',e,VR.back hle r r'⟩
 | dead=>exact .dead _
 | map es n =>
   cases h with
   | map _ _ _ h1=>cases g with
     | map _ es' _ g1=>exact .map _ _ _ (MR.back hle h1 g1)
 | aO s n=>cases g;exact .aO _ _
 | dY m a l n =>
   cases m with
   | none=>cases g;exact .vW _ _ _
   | some i =>
     cases h with
     | dY hi _ _ _=>cases g with
       | dY hi' _ _ _=>have:=hle _ _ hi;rw[this]at hi';cases hi';exact .dY hi _ _ _
 | loop st pd fr n ps asg bd =>
   generalize hkk:fa.loop st pd fr n ps asg bd=kk at h g
   cases g with
   | loop fr2 r2 g1 =>
     refine .loop fr2 r2 fun t v hv=>?_
     generalize hk2:fa.loop r2.state r2.pending fr2 r2.tmps.size r2.params.toList r2.assign r2.body=k2 at h
     cases h with
     | loop fr1 r1 h1 =>
       simp only[fa.loop.injEq]at hk2
       obtain⟨_,_,e,_⟩:=hk2
       subst e
       exact VR.back hle (h1 t v hv) (g1 t v hv)
     | _=>cases hk2
   | _=>cases hkk
 | ro f =>
   cases h with
   | ro _ _ h1=>cases g with
     | ro _ _ g1 =>
       refine .ro _ _ fun i v hv=>?_
       obtain⟨_,_,_,v0,_,_,r⟩:=h1 i v hv
       obtain⟨xs,e,f',v',e1,e2,r'⟩:=g1 i v hv
       exact⟨xs,e,f',v',e1,e2,VR.back hle r r'⟩
 | smap es =>
   cases h with
   | smap _ _ _ h1=>cases g with
     | smap _ es' n g1 =>
       have key:∀ x∈es,∃ k0 v0,VR ρ x.2.1 k0∧VR ρ x.2.2 v0:=fun x hx=>let ⟨e,_,a,b⟩:=h1.2 x hx;⟨_,_,a,b⟩
       refine .smap _ _ _ ⟨fun e he=>?_,fun x hx=>?_⟩
       · obtain⟨x,hx,a,b⟩:=g1.1 e he;obtain⟨_,_,a0,b0⟩:=key x hx;exact⟨x,hx,VR.back hle a0 a,VR.back hle b0 b⟩
       · obtain⟨e,he,a,b⟩:=g1.2 x hx;obtain⟨_,_,a0,b0⟩:=key x hx;exact⟨e,he,VR.back hle a0 a,VR.back hle b0 b⟩
 | iW m b ck =>
   cases h with
   | iW hi _ _ _ _ _=>cases g with
     | iW hi' since seen _ _ hb=>have:=hle _ _ hi;rw[this]at hi';cases hi';exact .iW hi _ _ _ _ hb
theorem yI:∀ {a b:List (Value×Value×Nat)},Bg a b=true→a=b
 | [],[],_=>rfl
 | [],_::_,h=>by cases h
 | _::_,[],h=>by cases h
 | (k,v,n)::l,(k',v',n')::l',h=>by simp only[Bg,Bool.and_eq_true]at h;obtain⟨⟨⟨h1,h2⟩,h3⟩,h4⟩:=h;rw[gz _ _ _ h1,gz _ _ _ h2,Nat.eq_of_beq_eq_true h3,yI h4]
theorem yk:∀ {a b:List (Nat×Value×Value)},zM a b=true→a=b
 | [],[],_=>rfl
 | [],_::_,h=>by cases h
 | _::_,[],h=>by cases h
 | (n,k,v)::l,(n',k',v')::l',h=>by simp only[zM,Bool.and_eq_true]at h;obtain⟨⟨⟨h3,h1⟩,h2⟩,h4⟩:=h;rw[gz _ _ _ h1,gz _ _ _ h2,Nat.eq_of_beq_eq_true h3,yk h4]
theorem xf {k k3:Option fa}(h:uC k k3=true):(k3=k∨Ev.soft k)∧∀ q,k=some q→Sp q:=by
 unfold uC at h;split at h;·simp only[Bool.and_eq_true]at h;obtain⟨⟨h1,h2⟩,h3⟩:=h;refine⟨.inl ?_,fun q hq=>by cases hq;trivial⟩;rw[Nat.eq_of_beq_eq_true h1,eq_of_beq h2,vL (fun a b=>gz 50 a b) _ _ h3]
 ·simp only[Bool.and_eq_true]at h;refine⟨.inl ?_,fun q hq=>by cases hq;trivial⟩;rw[Nat.eq_of_beq_eq_true h.1,yI h.2]
 ·refine⟨.inl ?_,fun q hq=>by cases hq;trivial⟩;rw[yk h]
 ·simp only[Bool.and_eq_true]at h;refine⟨.inl ?_,fun q hq=>by cases hq;trivial⟩;rw[mA h.1,Nat.eq_of_beq_eq_true h.2]
 ·exact⟨.inr (.inl rfl),fun q hq=>by cases hq;trivial⟩
 ·exact⟨.inr (.inr (.inl ⟨_,rfl⟩)),fun q hq=>by cases hq;trivial⟩
 ·exact⟨.inr (.inr (.inr ⟨_,_,_,rfl⟩)),fun q hq=>by cases hq;trivial⟩
 ·cases h
section
variable {P:Program}{E:Env}{ρ:Ren}{h:Heap}{w:World}
theorem BB (w:World) {n:Nat}(h:n≠0):∃ j d,j<n∧(choose (.mapNext n)).run P w=.ok j { w with drawn:=d }:=by
 by_cases hf:n≤1;·exact⟨0,w.drawn,by omega,by simp[choose,Sem.run,Question.forced,hf]⟩
 ·exact⟨_,w.drawn+1,Nat.mod_lt _ (by omega),by simp only[choose,Sem.run,Question.forced,decide_eq_true_eq,hf,if_false,Question.cut];rfl⟩
theorem LB {rb mb c:Nat}{seen:Array Nat}{es':Array MapEntry}{ty:TypeId}(h1:w.heap[rb]?=some (.mapIter (some mb) c seen c)) (h2:w.heap[mb]?=some (.map es' c)) (hs:∀ e∈es'.toList,e.born<c) :
  (∃ d,(Instr.next (.pointer (some ⟨rb,0,none⟩)) false ty).run P w=.ok (.tuple #[.bool false]) { w with drawn:=d }∧∀ e∈es'.toList,e.born∈seen.toList) ∨
  ∃ d e,e∈es'.toList∧e.born∉seen.toList∧(Instr.next (.pointer (some ⟨rb,0,none⟩)) false ty).run P w=.ok (.tuple #[.bool true,e.key,e.val]) { w with drawn:=d,heap:=w.heap.setIfInBounds rb (.mapIter (some mb) c (seen.push e.born) c) }:=by
 have hg:=jk (P:=P) h1 (by simp)
 have hcond:=next_test_false seen es' c c hs (Nat.le_refl _)
 have hleft:∀ x∈(es'.filter fun e=>!seen.contains e.born).toList,x∈es'.toList∧x.born∉seen.toList:=fun x hx=>by simp only[Array.toList_filter,List.mem_filter]at hx;exact⟨hx.1,by simpa using hx.2⟩
 simp only[Instr.next,Sem.run_bind,hg,run_getObj_map h2,Result.andThen_ok,hcond,Bool.false_eq_true,if_false]
 have hall:(es'.filter fun e=>!seen.contains e.born)=#[]→∀ e∈es'.toList,e.born∈seen.toList:=fun h0 e he=>by have:=congrArg Array.toList h0;simp only[Array.toList_filter,List.filter_eq_nil_iff]at this;have:=this e he;simpa using this
 generalize (es'.filter fun e=>!seen.contains e.born)=L at hleft hall ⊢
 have e1:L.filter (fun x=>decide (x.born<c))=L:=Array.filter_eq_self.2 (fun x hx=>by simpa using hs x (hleft x (by simpa using hx)).1)
 have e2:L.filter (fun x=>decide (x.born≥c))=#[]:=by rw[Array.filter_eq_empty_iff];intro x hx;have:=hs x (hleft x (by simpa using hx)).1;simp;omega
 simp only[e1,e2,Array.append_empty]
 by_cases h0:L.size=0
 ·left;have:L=#[]:=Array.eq_empty_of_size_eq_zero h0;subst this;refine⟨w.drawn,?_,hall rfl⟩;simp[choose,Sem.run,Question.forced]
 ·right;have hne:L.isEmpty=false:=by simp[Array.isEmpty,h0]
  obtain⟨j,d,hj,hrun⟩:=BB (P:=P) w h0;obtain⟨m1,m2⟩:=hleft L[j] (by simp);refine⟨d,L[j],m1,m2,?_⟩;have hset:=xj (P:=P) (w:={ w with drawn:=d }) (b:=rb) (o':=.mapIter (some mb) c (seen.push L[j].born) c) h1 (by simp);simp only[hne,Bool.false_eq_true,if_false,Array.empty_append,Array.size_map,hrun,Result.andThen_ok,Array.getElem?_map,Array.getElem?_eq_getElem hj,Option.map_some,Sem.run_bind,hset,Sem.run_pure]
theorem HR.dead (hr:HR P ρ h w) (r:Nat):HR P ρ (bX h r .dead) w where
 gT:=hr.gT
 ib i b c e:=by
  obtain⟨k,o,e1,e2,e3⟩:=hr.ib i b c e;by_cases hi:r=i;·subst hi;exact⟨.dead,o,T.get_set_same _ _ _,e2,.dead o⟩
  ·exact⟨k,o,by simp only[bX];rw[T.ar _ _ hi];exact e1,e2,e3⟩
 inj i j b c d e e' hn:=by
  have h_:∀ j,h.b.get j=some .dead→(bX h r .dead).b.get j=some .dead:=by
   intro j e;by_cases hj:r=j;·subst hj;exact T.get_set_same _ _ _
   ·simp only[bX];rw[T.ar _ _ hj];exact e
  exact(hr.inj i j b c d e e' hn).imp (h_ i) (h_ j)
theorem aG {i r:Nat}{k:fa}(hi:i≠r):(bX h r k).b.get i=h.b.get i:=by simp only[bX];exact T.ar _ _ (Ne.symm hi)
theorem kV {r:Nat}{k:fa}:(bX h r k).b.get r=some k:=T.get_set_same _ _ _
theorem HR.iter {r rb cr:Nat}(hr:HR P ρ (bX h r .dead) w) {k:fa}{o:Obj}{w':World}(hρ:ρ r=some (rb,cr)) (hb:BR P ρ cr k o) (hsz:w'.heap.size=w.heap.size) (ho:w'.heap[rb]?=some o) (hne:∀ j,j≠rb→w'.heap[j]?=w.heap[j]?)
  (hu:∀ i c,ρ i=some (rb,c)→i≠r→h.b.get i=some .dead):HR P ρ (bX h r k) w' where
 gT i b c e:=by rw[hsz];exact hr.gT i b c e
 ib i b c e:=by
  by_cases hi:i=r;·subst hi;rw[hρ]at e;cases e;exact⟨k,o,kV,ho,hb⟩
  ·obtain⟨k',o',e1,e2,e3⟩:=hr.ib i b c e;rw[aG hi]at e1;rw[aG hi];by_cases hbb:b=rb;·subst hbb;have:=hu i c e hi;rw[this]at e1;cases e1;exact⟨.dead,o,this,ho,.dead o⟩
   ·exact⟨k',o',e1,by rw[hne b hbb];exact e2,e3⟩
 inj i j b c d e e' hn:=by
  by_cases hi:i=r;·subst hi;rw[hρ]at e;cases e;right;rw[aG (Ne.symm hn)];exact hu j d e' (Ne.symm hn)
  ·by_cases hj:j=r;·subst hj;rw[hρ]at e';cases e';left;rw[aG hi];exact hu i c e hi
   ·have:=hr.inj i j b c d e e' hn;rw[aG hi,aG hj]at this ⊢;exact this
end
end Go.Ev
