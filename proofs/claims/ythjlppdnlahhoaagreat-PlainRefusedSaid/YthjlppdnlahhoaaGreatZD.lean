/- THE EVALUATOR: a deterministic reading of the program's code over an abstract heap, and that the model does what it says (4). Conditions: none beyond each theorem's own. -/
import Derived.Test.YthjlppdnlahhoaaGreatZC
import Derived.RangeFuncLeaves
import Derived.RangeFuncNested
import Derived.ProofKit
import Derived.Laws.Externs
set_option linter.unusedSimpArgs false
set_option linter.unusedVariables false
namespace Go.Ev
section
variable {P:Program}{E:Env}
def toExit:Ex→Exit
 | .normal=>.normal
 | .exit id=>.exit id
 | .ret=>.ret
section
variable {call:Fn→List Value→ak→Option (Value×ak)}{nt:Nat}
def RdR (F:Fence) (ρ:Ren):Option Nat→Prop
 | none=>F.round=none
 | some l=>∃ b c,ρ l=some (b,c)∧F.round=some b
theorem RdR.mono {F:Fence}{ρ ρ':Ren}{rd:Option Nat}(h:RdR F ρ rd) (hle:ρ.le ρ'):RdR F ρ' rd:=by
 cases rd with
 | none=>exact h
 | some l=>obtain⟨b,c,h1,h2⟩:=h;exact⟨b,c,hle _ _ h1,h2⟩
def uJ (P:Program) (E:Env) (call:Fn→List Value→ak→Option (Value×ak)):Prop :=
 ∀ f args h v h',call (.func f) args h=some (v,h')→E.ext f args h=none→∀ (ρ:Ren) (w:World) (args':Array Value),HR P ρ h w→GR E ρ→eW ρ args args'.toList →
   (callFunc f args').run P w=.ok (.enter f args') w∧Calls P f args' w (Gq P ρ h w v h')
theorem dG.Xj {ρ:Ren}{h:ak}{w:World}(hr:HR P ρ h w) (o:Obj):dG P ρ h w ρ h (w.alloc o) where
 le:=Ren.le_refl _
 hr:={
  gG:=fun i b c e=>by have:=hr.gG i b c e;exact⟨this.1,by simp;omega⟩
  rj:=fun i b c e=>by obtain⟨k,o',e1,e2,e3⟩:=hr.rj i b c e;have aT:=(hr.gG i b c e).2;refine⟨k,o',e1,?_,e3⟩;show (w.heap.push o)[b]?=_;rw[mV,if_neg ah];exact e2
  inj:=hr.inj }
 n:=aQ _
 new i x e e0:=by rw[e]at e0;cases e0
 bM _ _ _:=rfl
 os:=rfl
 tape:=rfl
 output:=rfl
 size:=an
 frame b hb _:=by show (w.heap.push o)[b]?=_;rw[mV,if_neg ah]
 Fe i b c e _:=⟨i,c,e,.inl rfl⟩
 stays _ _ _ _:=rfl
theorem DR.mark {B:Nat}{ρ:Ren}{h:ak}{w:World}{ds:List Deferred}(hr:HR P ρ h w) (hd:DR P B ρ w ds) (hB:B≤w.heap.size) :
  DR P B ρ (w.alloc (.deferred (some []))) ({ target:=.collected w.heap.size,args:=#[] }::ds):=by
 have hst:=hd.step (dG.Xj hr (.deferred (some [])))
 refine⟨.cons (fun d hm D' e1 e2=>?_) hd.nd,fun d hm=>?_⟩
 ·rw[e2]at hm;rcases hd.each _ hm with ⟨D,e,_,hD,_⟩|⟨f,cap,args,e,_⟩;·have aT:=(fq.1 hD).1;injection e with e3 _;injection e3 with e4;injection e1 with e5 _;injection e5 with e6;omega
  ·cases e
 ·rcases cM.1 hm with rfl|hm;·exact .inl ⟨_,rfl,hB,World.alloc_heap_new _ _,fun i c e=>by have:=(hr.gG _ _ _ e).2;omega⟩
  ·exact hst.each d hm
theorem EW {ρ:Ren}{h:ak}{w:World}{i l:Nat}{c:Nat}{fr fr':Fr}{ex:Ex}{h':ak}(hr:HR P ρ h w) (hl:ρ i=some (l,c)) (e:tg h i fr=some (ex,fr',h')) :
   fr'=fr∧∃ jump w',(Instr.endLoop l).run P w=.ok jump w'∧dG P ρ h w ρ h' w' ∧
     ((jump=none∧ex=.normal)∨(jump=some .ret∧ex=.ret)∨∃ id,jump=some (.exit id)∧ex=.exit id):=by
 have aT:=(hr.gG _ _ _ hl).1
 obtain⟨k,o,k1,k2,k3⟩:=hr.rj _ _ _ hl
 unfold tg at e
 simp only[oY,blt_eq,aT,decide_true,cond_true,k1]at e
 cases k3 with
 | loop fr0 r0 hfr0 =>
   have hsz:=(fq.1 k2).1
   have fin:r0.state≠.busy→dG P ρ h w ρ (qV h i (.loop .exhausted r0.pending fr0 r0.tmps.size r0.params.toList r0.assign r0.body)) (w.putObj l (.loop { r0 with state:=.exhausted })):=fun _ =>
     dG.write hr hl k1 (by simp[soft]) (BR.loop (P:=P) (c:=c) fr0 { r0 with state:=.exhausted } hfr0) an (World.putObj_heap_same hsz) (fun j hj=>World.putObj_heap_other hj) rfl rfl rfl
   have run:=fun hb=>run_endLoop (P:=P) k2 hb
   obtain⟨st,tY,fnn,tmps,prms,asg,bdy,dfs⟩:=r0
   simp only at e fin run
   cases st with
   | busy=>cases e
   | _ =>
     have fin:=fin an
     have run:=run an
     cases tY with
     | none =>
       simp only[aS,bA]at e
       obtain⟨rfl,rfl,rfl⟩:=e
       exact⟨rfl,_,_,run,fin,.inl ⟨rfl,rfl⟩⟩
     | some p =>
       cases p with
       | ret =>
         simp only[aS,bA]at e
         obtain⟨rfl,rfl,rfl⟩:=e
         exact⟨rfl,_,_,run,fin,.inr (.inl ⟨rfl,rfl⟩)⟩
       | exit id =>
         simp only[aS,bA]at e
         obtain⟨rfl,rfl,rfl⟩:=e
         exact⟨rfl,_,_,run,fin,.inr (.inr ⟨id,rfl,rfl⟩)⟩
       | _=>cases e
 | _=>simp at e
theorem ik (hE:bJ P E) {B:Nat}{F:Fence}{n:Nat}(hF:J2 F) (rd:Option Nat) (hc:jD P E call) (hcs:uJ P E call):∀ (c:Code) (ρ:Ren) (h:ak) (w:World) (fr:Fr) (a:Act) (ex:Ex) (fr':Fr) (h':ak) (Q:Exit→Act→World→Prop),
   FR E ρ fr a→HR P ρ h w→a.tmps.size=nt→DR P B ρ w a.defers→RdR F ρ rd→B≤w.heap.size→code E call nt rd c fr h=some (ex,fr',h') →
   (∀ a' w',rJ B P E ρ h w nt fr' h' a' w'→Q (toExit ex) a' w')→c.wpIn F n P Q a w
 | .skip,ρ,h,w,fr,a,ex,fr',h',Q,hf,hr,hnt,hd,hrd,hB,e,hq=>by simp only[code,aS,bA]at e;obtain⟨rfl,rfl,rfl⟩:=e;exact wpIn_skip (hq a w ⟨ρ,hf,dG.refl hr,hnt,hd⟩)
 | .label _,ρ,h,w,fr,a,ex,fr',h',Q,hf,hr,hnt,hd,hrd,hB,e,hq=>by simp only[code,aS,bA]at e;obtain⟨rfl,rfl,rfl⟩:=e;exact wpIn_label (hq a w ⟨ρ,hf,dG.refl hr,hnt,hd⟩)
 | .exit id,ρ,h,w,fr,a,ex,fr',h',Q,hf,hr,hnt,hd,hrd,hB,e,hq=>by simp only[code,aS,bA]at e;obtain⟨rfl,rfl,rfl⟩:=e;exact wpIn_exit (hq a w ⟨ρ,hf,dG.refl hr,hnt,hd⟩)
 | .ret,ρ,h,w,fr,a,ex,fr',h',Q,hf,hr,hnt,hd,hrd,hB,e,hq=>by simp only[code,aS,bA]at e;obtain⟨rfl,rfl,rfl⟩:=e;exact wpIn_ret (hq a w ⟨ρ,hf,dG.refl hr,hnt,hd⟩)
 | .region id ops false,ρ,h,w,fr,a,ex,fr',h',Q,hf,hr,hnt,hd,hrd,hB,e,hq=>by
   simp only[code]at e;cases hdf:ops.toList.any ml with
   | true =>
     rw[hdf]at e
     cases rd with
     | some l=>cases e
     | none =>
       simp only[pD,cond_true,aY,bA]at e
       obtain⟨⟨f1,h1⟩,e,rfl,rfl,rfl⟩:=e
       refine wpIn_region ?_
       have:=Cy (n:=n) hE hF hrd (Q:=Q) ops.toList 0 ρ fr f1 a h h1 w (fun i=>an) hf hr hnt hd e hq
       rw[Bd]
       simpa using this
   | false =>
   rw[hdf]at e;simp only[cond_false,aY,bA]at e;obtain⟨⟨f1,h1⟩,e,rfl,rfl,rfl⟩:=e;refine wpIn_region ?_;have:=Fk (n:=n) hE hF hc (Q:=Q) ops.toList 0 ρ fr f1 a h h1 w (fun i=>an) hf hr hnt hd e hq;rw[Bd];simpa using this
 | .region id ops true,ρ,h,w,fr,a,ex,fr',h',Q,hf,hr,hnt,hd,hrd,hB,e,hq=>by
   simp only[code]at e;split at e;· rename_i pl hpl;simp only[aY,bA]at e;obtain⟨⟨f1,h1⟩,e,rfl,rfl,rfl⟩:=e;exact Hb hE hF hc hpl e hf hr hnt hd hq
   · cases e
 | .seq x y,ρ,h,w,fr,a,ex,fr',h',Q,hf,hr,hnt,hd,hrd,hB,e,hq=>by
   simp only[code]at e;refine wpIn_seq ?_;split at e;· rename_i f1 h1 e1;refine ik hE hF rd hc hcs x ρ h w fr a _ f1 h1 _ hf hr hnt hd hrd hB e1 fun a1 w1 hA=>?_;obtain⟨ρ1,hf1,hs,hnt1,hd1⟩:=hA;exact ik hE hF rd hc hcs y ρ1 h1 w1 f1 a1 ex fr' h' Q hf1 hs.hr hnt1 hd1 (hrd.mono hs.le) (bO hB hs.size) e fun a2 w2 hA=>hq a2 w2 (hA.trans hs)
   · rename_i hno;refine ik hE hF rd hc hcs x ρ h w fr a ex fr' h' _ hf hr hnt hd hrd hB e fun a1 w1 hA=>?_;cases ex with
     | normal=>exact absurd e (hno _ _)
     | exit id=>exact hq a1 w1 hA
     | ret=>exact hq a1 w1 hA
 | .cond c x y,ρ,h,w,fr,a,ex,fr',h',Q,hf,hr,hnt,hd,hrd,hB,e,hq=>by
   simp only[code]at e;split at e;· rename_i hc';have r:=bH hf hc';generalize hce:a.eval c=u at r;cases r;exact wpIn_cond_true hce (ik hE hF rd hc hcs x ρ h w fr a ex fr' h' Q hf hr hnt hd hrd hB e hq)
   · rename_i hc';have r:=bH hf hc';generalize hce:a.eval c=u at r;cases r;exact wpIn_cond_false hce (ik hE hF rd hc hcs y ρ h w fr a ex fr' h' Q hf hr hnt hd hrd hB e hq)
   · cases e
 | .block id b,ρ,h,w,fr,a,ex,fr',h',Q,hf,hr,hnt,hd,hrd,hB,e,hq=>by
   simp only[code]at e;refine wpIn_block ?_;split at e
   · rename_i j f1 h1 e1;simp only[aS,bA]at e;obtain⟨rfl,rfl,rfl⟩:=e;refine ik hE hF rd hc hcs b ρ h w fr a _ f1 h1 _ hf hr hnt hd hrd hB e1 fun a1 w1 hA=>?_;have:=hq a1 w1 hA;show Exit.inBlock id Q (.exit j) a1 w1;simp only[Exit.inBlock];rw[bF]at this;by_cases hj:j=id;· rw[if_pos hj]at this ⊢;exact this
     · rw[if_neg hj]at this ⊢;exact this
   · rename_i hno;refine ik hE hF rd hc hcs b ρ h w fr a ex fr' h' _ hf hr hnt hd hrd hB e fun a1 w1 hA=>?_;cases ex with
     | normal=>exact hq a1 w1 hA
     | exit id=>exact absurd e (hno _ _ _)
     | ret=>exact hq a1 w1 hA
 | .loop b,ρ,h,w,fr,a,ex,fr',h',Q,hf,hr,hnt,hd,hrd,hB,e,hq=>by
   simp only[code]at e;refine xM 1000000 ?_;generalize 1000000=m at e ⊢;induction m generalizing ρ h w fr a with
   | zero=>simp[iter]at e
   | succ m ih =>
     simp only[iter]at e
     show b.wpIn F n P (Exit.then (we F n P b Q m) Q) a w
     split at e
     · rename_i f1 h1 e1;refine ik hE hF rd hc hcs b ρ h w fr a _ f1 h1 _ hf hr hnt hd hrd hB e1 fun a1 w1 hA=>?_;obtain⟨ρ1,hf1,hs,hnt1,hd1⟩:=hA;exact ih ρ1 h1 w1 f1 a1 hf1 hs.hr hnt1 hd1 (hrd.mono hs.le) (bO hB hs.size) (fun a2 w2 hA=>hq a2 w2 (hA.trans hs)) e
     · rename_i hno;refine ik hE hF rd hc hcs b ρ h w fr a ex fr' h' _ hf hr hnt hd hrd hB e fun a1 w1 hA=>?_;cases ex with
       | normal=>exact absurd e (hno _ _)
       | exit id=>exact hq a1 w1 hA
       | ret=>exact hq a1 w1 hA
 | .scope b,ρ,h,w,fr,a,ex,fr',h',Q,hf,hr,hnt,hd,hrd,hB,e,hq=>by simp only[code]at e;refine tX (ik hE hF rd hc hcs b ρ h w fr a ex fr' h' _ hf hr hnt hd hrd hB e fun a1 w1 hA=>?_);have:=hq a1 w1 hA;cases ex<;>exact this
 | .rangeFunc g ps assign bd,ρ,h,w,fr,a,ex,fr',h',Q,hf,hr,hnt,hd,hrd,hB,e,hq=>by
   subst hnt;simp only[code]at e;cases hin:inRound h rd with
   | false=>rw[hin]at e;cases e
   | true =>
     rw[hin]at e
     simp only[cond_true]at e
     split at e
     · rename_i f first cap hg
       split at e;· cases e
       · rename_i hext;split at e
         · rename_i v2 h2 hcall;refine wpIn_rangeFunc fun fn _=>?_;obtain⟨l,mark,w1,ρ1,henter,hst,hl,hdr⟩:∃ (l:Nat) (mark:List Deferred) (w1:World) (ρ1:Ren),(Instr.enterLoop fn a.tmps ps assign bd F.round).run P w=.ok (l,mark) w1 ∧
               dG P ρ h w ρ1 (ai h (.loop .ready none fr a.tmps.size ps.toList assign bd)) w1∧ρ1 h.n=some (l,0)∧DR P B ρ1 w1 (mark++a.defers):=by
             cases rd with
             | none =>
               have hrd:F.round=none:=hrd
               rw[hrd]
               have h0:=dG.Xj hr (.deferred (some []))
               have hdm:=DR.mark hr hd hB
               have h1:=dG.alloc (c:=0) h0.hr (BR.loop (P:=P) (c:=0) fr { state:=.ready,pending:=none,fn,tmps:=a.tmps,params:=ps,assign,body:=bd,defers:=w.heap.size } hf.tmp)
                 (w':=(w.alloc (.deferred (some []))).alloc (.loop { state:=.ready,pending:=none,fn,tmps:=a.tmps,params:=ps,assign,body:=bd,defers:=w.heap.size })) rfl rfl rfl rfl
               refine⟨_,_,_,_,run_enterLoop_outer fn a.tmps ps assign bd,h0.trans h1,by rw[Ren.dD];simp,hdm.step h1⟩
             | some l0 =>
               obtain⟨b,c,e1,e2⟩:=hrd
               rw[e2]
               obtain⟨k,o,k1,k2,k3⟩:=hr.rj l0 b c e1
               have aT:=(hr.gG l0 b c e1).1
               simp only[inRound,oY,blt_eq,aT,decide_true,cond_true,k1]at hin
               cases k3 with
               | loop fr0 r0 _ =>
                 have h1:=dG.alloc (c:=0) hr (BR.loop (P:=P) (c:=0) fr { state:=.ready,pending:=none,fn,tmps:=a.tmps,params:=ps,assign,body:=bd,defers:=r0.defers } hf.tmp)
                   (w':=w.alloc (.loop { state:=.ready,pending:=none,fn,tmps:=a.tmps,params:=ps,assign,body:=bd,defers:=r0.defers })) rfl rfl rfl rfl
                 exact⟨_,_,_,_,run_enterLoop_inner k2 fn a.tmps ps assign bd,h1,by rw[Ren.dD],by simpa using hd.step h1⟩
               | _=>simp at hin
           have r:=bH hf hg;generalize hge:a.eval g=gv at r;cases r with
           | func _ _ _ first' cap' _ r1 r2 =>
             have rargs:eW ρ1 (first.toList++Value.func (.yield h.n) #[] #[]::cap.toList) (first'++#[Value.func (.yield l) #[] #[]]++cap').toList:=by simp only[Array.toList_append];have:=((r1.mono hst.le).append (.cons (.yield hl) .nil)).append (r2.mono hst.le);simpa using this
             obtain⟨hent,hcalls⟩:=hcs _ _ _ _ _ hcall hext ρ1 w1 _ hst.hr (GR.mono hf.Ga hst.le) rargs
             refine⟨l,mark,w1,{ target:=.fn (.func f) cap',args:=first'++#[.func (.yield l) #[] #[]] },w1,f,first'++#[.func (.yield l) #[] #[]]++cap',w1,henter,?_,fun f' _=>hF.fn f',?_,fun hdep=>(by rw[hF.depth]at hdep;cases hdep),?_⟩
             · simp only[resolve,hge,Deferred.ofValue];simp[Act.eval]
             · exact hent
             refine CallsIn.mono (hF.calls (n-1) P f _ w1 _ hcalls) ?_
             intro en w3 hh
             · obtain⟨v',ρ2,rfl,_,hs2⟩:=hh;have hl2:=hs2.le _ _ hl;have hst2:=hst.trans hs2;obtain⟨rfl,jump,w4,hend,hs3,hj⟩:=EW hs2.hr hl2 e;have hall:=hst2.trans hs3;have haft:rJ B P E ρ h w a.tmps.size fr' h' { a with defers:=mark++a.defers } w4 :=
                 ⟨ρ2,⟨GR.mono hf.Ga hall.le,fun t v e=>(hf.tmp t v e).mono hall.le⟩,hall,rfl,(hdr.step hs2).step hs3⟩
               refine⟨jump,w4,hend,?_⟩;rcases hj with ⟨rfl,rfl⟩|⟨rfl,rfl⟩|⟨id,rfl,rfl⟩;· exact hq _ _ haft
               · exact wpIn_ret (hq _ _ haft)
               · exact wpIn_exit (hq _ _ haft)
         · cases e
     · cases e
 | .goto ..,ρ,h,w,fr,a,ex,fr',h',Q,hf,hr,hnt,hd,hrd,hB,e,hq=>by simp[code]at e
 | .refuse ..,ρ,h,w,fr,a,ex,fr',h',Q,hf,hr,hnt,hd,hrd,hB,e,hq=>by simp[code]at e
theorem nV {α β:Type}{f:α→Option β}{x:α}{l:List α}{r:List β}(h:aW f (x::l)=some r):∃ y ys,f x=some y∧aW f l=some ys∧r=y::ys:=by
 simp only[aW]at h;split at h;·rename_i y ys h1 h2;cases h;exact⟨y,ys,h1,h2,rfl⟩
 ·cases h
def ME (tmps:Array Value) (r:ResultVar):Sem Value :=
 match r with
 | .tmp t=>pure (tmps.getD t undef)
 | .cell b t=>do loadVar t (← asAddr (tmps.getD b undef))
theorem IT (fn:Func) (tmps:Array Value):results fn tmps=((fn.results.mapM (ME tmps)) >>= fun vs=>pure (if h:vs.size=1 then vs[0] else .tuple vs)):=by
 have:(ME tmps)=(fun|.tmp t=>pure (tmps.getD t undef)|.cell a t=>do loadVar t (← asAddr (tmps.getD a undef)):ResultVar→Sem Value):=by funext r;cases r<;>rfl
 rw[this];rfl
theorem WD (hE:bJ P E) {ρ:Ren}{h:ak}{w:World}{fr:Fr}{a:Act}(hf:FR E ρ fr a) (hr:HR P ρ h w) {r:ResultVar}{v:Value}(e:me E fr h r=some v) :
   ∃ v',(ME a.tmps r).run P w=.ok v' w∧VR ρ v v':=by
 cases r with
 | tmp t =>
   simp only[me]at e
   exact⟨a.eval (.tmp t),by simp[ME,Act.eval],bH hf e⟩
 | cell b t =>
   simp only[me]at e
   split at e
   · rename_i x hx;have rx:=hf.tmp b x hx;obtain⟨v',hrun,r⟩:=AB hE hr e rx;refine⟨v',?_,r⟩;have hptr:∃ p,a.tmps.getD b undef=.pointer (some p):=by
       unfold loadAt at e;split at e
       · generalize a.tmps.getD b undef=u at rx;cases rx with
         | ptr off hh=>exact⟨_,rfl⟩
       · cases e
     obtain⟨p,hp⟩:=hptr;simp only[ME];rw[hp]at hrun ⊢;simpa[Instr.loadAt,Instr.sureAddr,asAddr]using hrun
   · cases e
theorem Gm (hE:bJ P E) {ρ:Ren}{h:ak}{w:World}{fr:Fr}{a:Act}(hf:FR E ρ fr a) (hr:HR P ρ h w):∀ (rs:List ResultVar) (vs:List Value),aW (me E fr h) rs=some vs →
   ∃ vs',(rs.mapM (ME a.tmps)).run P w=.ok vs' w∧eW ρ vs vs'
 | [],vs,e=>by simp[aW]at e;subst e;exact⟨[],an,.nil⟩
 | r::rs,vs,e=>by obtain⟨y,ys,h1,h2,rfl⟩:=nV e;obtain⟨v',e1,r1⟩:=WD hE hf hr h1;obtain⟨vs',e2,r2⟩:=Gm hE hf hr rs ys h2;refine⟨v'::vs',?_,.cons r1 r2⟩;rw[List.mapM_cons];simp only[Sem.run_bind,Sem.run_pure];rw[e1];simp only[Result.andThen_ok,e2]
def dE:List Value→Value
 | [v]=>v
 | vs=>.tuple vs.toArray
theorem Fv (hE:bJ P E) {ρ:Ren}{h:ak}{w:World}{fr:Fr}{a:Act}(hf:FR E ρ fr a) (hr:HR P ρ h w) {fn:Func}{vs:List Value}(e:aW (me E fr h) fn.results.toList=some vs) :
   ∃ v',(results fn a.tmps).run P w=.ok v' w∧VR ρ (dE vs) v':=by
 obtain⟨vs',e1,r⟩:=Gm hE hf hr _ _ e
 have hm:(results fn a.tmps).run P w=.ok (if h:vs'.toArray.size=1 then vs'.toArray[0] else .tuple vs'.toArray) w:=by rw[IT,Array.mapM_eq_mapM_toList];simp only[Sem.run_bind,Sem.run_map,Sem.run_pure];rw[e1];simp only[Result.andThen_ok]
 refine⟨_,hm,?_⟩
 cases r with
 | nil=>exact .tuple _ _ .nil
 | cons r1 r2 =>
   cases r2 with
   | nil=>exact r1
   | cons r3 r4 =>
     simp only[List.size_toArray,dn]
     rw[dif_neg ah]
     exact .tuple _ _ (.cons r1 (.cons r3 r4))
end
theorem A_:∀ (l:List Value) (i:Nat) (fr:Fr) (t:Nat),(bY l i fr).get t=if i≤t∧t<i+l.length then l[t-i]? else fr.get t
 | [],i,fr,t=>by simp[bY];omega
 | v::l,i,fr,t=>by
   rw[bY,A_ l];by_cases h:i=t;· subst h;rw[if_neg ah,if_pos an,T.get_set_same];simp
   · by_cases h2:i+1≤t∧t<i+1+l.length;· rw[if_pos h2,if_pos (by simp;omega),show t-i=(t-(i+1))+1 by omega];simp
     · rw[if_neg h2,T.aR _ _ h,if_neg (by simp;omega)]
def ji (P:Program) (E:Env):Prop:=∀ f args h v h',E.ext f args h=some (some (v,h'))→∀ (ρ:Ren) (w:World) (args':Array Value),HR P ρ h w→GR E ρ→eW ρ args args'.toList→OG P ρ h w (.func f) args' v h'
def jt (P:Program):Prop:=∀ (f:FuncId) (fn:Func),P.funcs[f]?=some fn→fn.body.isSome=true→fn.name≠ "runtime.NumGoroutine"
theorem kj {f:FuncId}{fn:Func}{c:Code}(hf:P.funcs[f]?=some fn) (hn:jt P) (hb:fn.body=some c) (args:Array Value) (w:World):(callFunc f args).run P w=.ok (.enter f args) w:=by have:=hn f fn hf (by rw[hb];rfl);simp[callFunc,hf,this,hb]
theorem dG.take {ρ ρ':Ren}{h h':ak}{w w':World}(hs:dG P ρ h w ρ' h' w') {D:Nat}{o:Obj}(hB:w.heap.size≤D) (hi:∀ i c,ρ' i≠some (D,c)):dG P ρ h w ρ' h' (w'.putObj D o) where
 le:=hs.le
 hr:={
  gG:=fun i b c e=>by rw[World.putObj_size];exact hs.hr.gG i b c e
  rj:=fun i b c e=>by
   obtain⟨k,o',e1,e2,e3⟩:=hs.hr.rj i b c e;have hne:b≠D:=by intro hb;subst hb;exact hi i c e
   exact⟨k,o',e1,by rw[World.putObj_heap_other hne];exact e2,e3⟩
  inj:=hs.hr.inj }
 n:=hs.n
 new:=hs.new
 bM:=hs.bM
 os:=hs.os
 tape:=hs.tape
 output:=hs.output
 size:=by rw[World.putObj_size];exact hs.size
 frame b hb hn:=by have hne:b≠D:=ah;rw[World.putObj_heap_other hne];exact hs.frame b hb hn
 Fe:=hs.Fe
 stays:=hs.stays
theorem qG (hn:jt P) {fn:Func}{tmps:Array Value}{R:Ending→World→Prop}{ρ ρ':Ren}{h h':ak}{w:World}
   (hlast:∀ w',dG P ρ h w ρ' h' w'→∃ v,(results fn tmps).run P w'=.ok v w'∧R (.returned v) w') :
   ∀ (ds:List Deferred) (w':World),dG P ρ h w ρ' h' w'→DR P w.heap.size ρ' w' ds→LeavesInM Fence.wide 0 P fn tmps R ds .returning w'
 | [],w',hs,_=>hlast w' hs
 | d::ds,w',hs,hd=>by
   have rQ:=List.pairwise_cons.1 hd.nd;rcases hd.each d (eZ ..) with ⟨D,rfl,hB,hD,hi⟩|⟨f,cap,args,rfl,hh⟩
   · refine⟨an,.inl ⟨D,_,rfl,run_takeDeferred hD,?_⟩⟩;refine qG hn hlast ds _ (hs.take hB hi) ⟨rQ.2,fun d hm=>?_⟩;rcases hd.each d (fU _ hm) with ⟨D',e,hB',hD',hi'⟩|hh
     · have hne:D'≠D:=by intro hx;subst hx;exact rQ.1 d hm _ rfl e
       exact .inl ⟨D',e,hB',by rw[World.putObj_heap_other hne];exact hD',hi'⟩
     · exact .inr hh
   · refine⟨an,.inr ⟨fun hx=>(by cases hx),.func f,cap,f,args++cap,rfl,?_,fun _ _=>trivial,?_⟩⟩;· obtain⟨fn',c,h1,h2⟩:=hh.1;exact kj h1 hn h2 _ w'
     · refine(hh.2 (args++cap) w').mono ?_;rintro e u w2 ⟨⟨v,rfl⟩,rfl,rfl⟩;exact qG hn hlast ds w2 hs ⟨rQ.2,fun d hm=>hd.each d (fU _ hm)⟩
theorem BG {ρ:Ren}{nt:Nat}:∀ (ps:List Nat) (vs:List Value) (vs':List Value) (fr fr1:Fr) (tmps:Array Value),Ap nt ps vs fr=some fr1→eW ρ vs vs'→tmps.size=nt →
   (∀ t v,fr.get t=some v→VR ρ v (tmps.getD t undef)) →
   vs'.length=ps.length∧((ps.zip vs').foldl (fun (tmps:Array Value) (x:Nat×Value)=>tmps.setIfInBounds x.1 x.2) tmps).size=nt∧∀ t v,fr1.get t=some v→VR ρ v (((ps.zip vs').foldl (fun (tmps:Array Value) (x:Nat×Value)=>tmps.setIfInBounds x.1 x.2) tmps).getD t undef)
 | [],[],vs',fr,fr1,tmps,e,r,hnt,hf=>by cases r;simp only[Ap,aS]at e;subst e;exact⟨rfl,hnt,hf⟩
 | t::ps,v::vs,vs',fr,fr1,tmps,e,r,hnt,hf=>by
   cases r with
   | @cons _ v' _ l' hv hl =>
     simp only[Ap,blt_eq]at e
     by_cases aT:t<nt
     · simp only[aT,decide_true,cond_true]at e;have:=BG ps vs l' (fr.set t v) fr1 (tmps.setIfInBounds t v') e hl (by simpa using hnt) (fun u x hx=>by
         have:=Gr (a:={ tmps:=tmps,defers:=[] }) (d:=t) (v:=v') (by rw[hnt];exact aT) u;simp only[Act.put]at this;rw[T.aj]at hx;rw[this];by_cases h:t=u;· rw[if_pos h]at hx ⊢;cases hx;exact hv
         · rw[if_neg h]at hx ⊢;exact hf u x hx)
       refine⟨by simp[this.1],?_⟩;simpa using this.2
     · simp[aT]at e
 | [],_::_,_,_,_,_,e,_,_,_=>by simp[Ap]at e
 | _::_,[],_,_,_,_,e,_,_,_=>by simp[Ap]at e
theorem DB {ρ:Ren}{h:ak}{w:World}{i l c:Nat}{ex:Ex}{v:Value}{h':ak}(hr:HR P ρ h w) (hl:ρ i=some (l,c)) (e:wO h i ex=some (v,h')) :
   ∃ j:Option Code,(match ex with|.normal=>j=none|.exit id=>j=some (.exit id)|.ret=>j=some .ret)∧∃ w',(Instr.endRound l j).run P w=.ok v w'∧VR ρ v v∧dG P ρ h w ρ h' w':=by
 have aT:=(hr.gG _ _ _ hl).1
 obtain⟨k,o,k1,k2,k3⟩:=hr.rj _ _ _ hl
 unfold wO at e
 simp only[oY,blt_eq,aT,decide_true,cond_true,k1]at e
 cases k3 with
 | loop fr0 r0 hfr0 =>
   have hsz:=(fq.1 k2).1
   obtain⟨st,tY,fnn,tmps,prms,asg,bdy,dfs⟩:=r0
   have fin:∀ (st':LoopState) (p':Option Code),dG P ρ h w ρ (qV h i (.loop st' p' fr0 tmps.size prms.toList asg bdy)) (w.putObj l (.loop { state:=st',pending:=p',fn:=fnn,tmps,params:=prms,assign:=asg,body:=bdy,defers:=dfs })):=fun st' p' =>
     dG.write hr hl k1 (by simp[soft]) (BR.loop (P:=P) (c:=c) fr0 { state:=st',pending:=p',fn:=fnn,tmps,params:=prms,assign:=asg,body:=bdy,defers:=dfs } hfr0) an (World.putObj_heap_same hsz) (fun j hj=>World.putObj_heap_other hj) rfl rfl rfl
   simp only at e
   cases st with
   | busy =>
     cases tY with
     | none =>
       simp only at e
       cases ex with
       | normal =>
         simp only[aS,bA]at e
         obtain⟨rfl,rfl⟩:=e
         exact⟨none,rfl,_,run_endRound none k2,.bool _,fin .ready none⟩
       | exit id =>
         simp only[aS,bA]at e
         obtain⟨rfl,rfl⟩:=e
         exact⟨some (.exit id),rfl,_,run_endRound _ k2,.bool _,fin .done _⟩
       | ret =>
         simp only[aS,bA]at e
         obtain⟨rfl,rfl⟩:=e
         exact⟨some .ret,rfl,_,run_endRound _ k2,.bool _,fin .done _⟩
     | some p=>cases e
   | _=>cases e
 | _=>simp at e
theorem zw {ρ:Ren}{h:ak}{w:World}{i l c:Nat}{h':ak}(hr:HR P ρ h w) (hl:ρ i=some (l,c)) (e:sk h i=some h') :
   ∃ w',(Instr.beginRound l).run P w=.ok () w'∧dG P ρ h w ρ h' w':=by
 have aT:=(hr.gG _ _ _ hl).1
 obtain⟨k,o,k1,k2,k3⟩:=hr.rj _ _ _ hl
 unfold sk at e
 simp only[oY,blt_eq,aT,decide_true,cond_true,k1]at e
 cases k3 with
 | loop fr0 r0 hfr0 =>
   have hsz:=(fq.1 k2).1
   obtain⟨st,tY,fnn,tmps,prms,asg,bdy,dfs⟩:=r0
   simp only at e
   cases st with
   | ready =>
     cases tY with
     | none =>
       simp only[aS]at e
       subst e
       exact⟨_,run_beginRound k2 rfl,dG.write hr hl k1 (by simp[soft]) (BR.loop (P:=P) (c:=c) fr0 { state:=.busy,pending:=none,fn:=fnn,tmps,params:=prms,assign:=asg,body:=bdy,defers:=dfs } hfr0) an (World.putObj_heap_same hsz) (fun j hj=>World.putObj_heap_other hj) rfl rfl rfl⟩
     | some p=>cases e
   | _=>cases e
 | _=>simp at e
theorem zH (hE:bJ P E) (hx:ji P E) (hn:jt P):∀ d,jD P E (dN E d)∧uJ P E (dN E d)
 | 0=>⟨fun fn args h v h' e=>by simp[dN]at e,fun f args h v h' e=>by simp[dN]at e⟩
 | d+1=>by
   have ih:=zH hE hx hn d;have hent:uJ P E (dN E (d+1)):=fun f args h v h' e hext ρ w args' hr hg ra=>by
     rw[dN,hext]at e;simp only at e;split at e;· cases e
     · rename_i fn hfn;have hfn:=hE.vQ f fn hfn;split at e;· cases e
       · rename_i b hb;refine⟨kj hfn hn hb args' w,?_⟩;have hlen:=ra.length;have hnt:(args'++Array.replicate (fn.ntmps-args'.size) undef).size=max fn.ntmps args.length:=by simp only[si]at hlen;simp;omega
         have hfr:FR E ρ (bY args 0 .leaf) { tmps:=args'++Array.replicate (fn.ntmps-args'.size) undef,defers:=[] }:=by
           refine⟨hg,fun t x hx=>?_⟩;simp only[si]at hlen;rw[A_]at hx;simp only[eX,true_and,cb,nh,T.mO]at hx;simp only[lr,Array.getElem?_append];by_cases ht:t<args.length;· rw[if_pos ht]at hx;rw[if_pos ah];obtain⟨v',e',r⟩:=ra.get t _ hx;rw[← lj,e'];exact r
           · rw[if_neg ht]at hx;cases hx
         split at e;· cases e
         · rename_i ex fr1 h1 hnx hcode;have fin:∀ vs,aW (me E fr1 h1) fn.results.toList=some vs→dE vs=v→h1=h'→Calls P f args' w (Gq P ρ h w v h'):=fun vs hvs hv hh=>by
             subst hh;refine(callsIn_wide (n:=0)).1 (callsIn_of_wp_marks hfn hb trivial (ik hE (B:=w.heap.size) U0 none ih.1 ih.2 b ρ h w _ _ _ _ _ _ hfr hr hnt (DR.nil _ _ _ _) rfl a_ hcode fun a' w' hA=>?_));obtain⟨ρ',hf',hs,_,hd⟩:=hA;have last:LeavesInM Fence.wide 0 P fn a'.tmps (Gq P ρ h w v h1) a'.defers .returning w':=by refine qG hn (fun w2 hs2=>?_) a'.defers w' hs hd;obtain⟨v',hrun,r⟩:=Fv hE (a:=a') hf' hs2.hr hvs;rw[hv]at r;exact⟨v',hrun,v',ρ',rfl,r,hs2⟩
             cases ex with
             | normal=>exact last
             | ret=>exact last
             | exit id=>exact absurd rfl (hnx id)
           split at e;· rename_i v1 hres;simp only[aS,bA]at e;exact fin _ hres e.1 e.2
           · rename_i vs hvs hres;simp only[aS,bA]at e;refine fin _ hres ?_ e.2;rw[← e.1];unfold dE;split;· exact absurd rfl (hvs _)
             · rfl
           · cases e
         · cases e
   refine⟨fun fn args h v h' e ρ w fn' args' hr hg rfn ra=>?_,hent⟩;cases rfn with
   | func f =>
     cases hext:E.ext f args h with
     | some r =>
       have e0:=e
       rw[dN,hext]at e0
       cases r with
       | none=>cases e0
       | some v2 =>
         simp only[aS]at e0
         subst e0
         exact hx f args h v h' hext ρ w args' hr hg ra
     | none =>
       obtain⟨h1,h2⟩:=hent f args h v h' e hext ρ w args' hr hg ra
       exact .inr (.inl ⟨f,args',h1,h2⟩)
   | @yield i b c hi =>
     rw[dN]at e
     split at e
     · rename_i fr nt ps assign body hblk;have aT:=(hr.gG _ _ _ hi).1;obtain⟨k,o,k1,k2,k3⟩:=hr.rj _ _ _ hi;simp only[oY,blt_eq,aT,decide_true,cond_true,k1,aS]at hblk;subst hblk;generalize hk:iY.loop .ready none fr nt ps assign body=k at k3;cases k3 with
       | loop fr0 r0 hfr0 =>
         obtain⟨st,tY,fnn,tmps,prms,asg,bdy,dfs⟩:=r0;simp only[iY.loop.injEq]at hk;obtain⟨rfl,rfl,rfl,rfl,rfl,rfl,rfl⟩:=hk;split at e;· cases e
         · rename_i fr1 hps;split at e
           · rename_i fr2 h2 hasg;split at e;· cases e
             · rename_i h3 hbeg;split at e
               · rename_i ex fr4 h4 Q8;obtain⟨p1,p2,p3⟩:=BG _ _ _ _ _ _ hps ra rfl hfr0;have hsz:args'.size=prms.size:=by simpa using p1
                 have hzip:((prms.zip args').foldl (fun (tmps:Array Value) (x:Tmp×Value)=>tmps.setIfInBounds x.1 x.2) tmps)=((prms.toList.zip args'.toList).foldl (fun (tmps:Array Value) (x:Nat×Value)=>tmps.setIfInBounds x.1 x.2) tmps):=by rw[← Array.foldl_toList,Array.toList_zip]
                 refine .inr (.inr ⟨b,fnn,_,_,_,run_yield k2 hsz,fun n=>?_⟩);refine roundIn_of_wpIn trivial ?_;have hfr:FR E ρ fr1 { tmps:=(prms.zip args').foldl (fun (tmps:Array Value) (x:Tmp×Value)=>tmps.setIfInBounds x.1 x.2) tmps,defers:=[] }:=⟨hg,fun t=>by rw[hzip];exact p3 t⟩;refine ik hE (B:=w.heap.size) (F' b) (some i) ih.1 ih.2 assign ρ h w fr1 _ .normal fr2 h2 _ hfr hr (by rw[hzip];exact p2) (DR.nil _ _ _ _) ⟨b,c,hi,rfl⟩ a_ hasg fun a1 w1 hA=>?_;obtain⟨ρ1,hf1,hs1,hnt1,hd1⟩:=hA;obtain⟨w2,hrun,hs2⟩:=zw hs1.hr (hs1.le _ _ hi) hbeg;refine⟨w2,hrun,?_⟩;refine ik hE (B:=w.heap.size) (F' b) (some i) ih.1 ih.2 body ρ1 h3 w2 fr2 _ ex fr4 h4 _ hf1 hs2.hr hnt1 (hd1.step hs2) ⟨b,c,hs1.le _ _ hi,rfl⟩ (bO hs1.size hs2.size) Q8 fun a3 w3 hA=>?_;obtain⟨ρ3,hf3,hs3,hnt3,hd3⟩:=hA;obtain⟨j,hj,w4,hrun4,r4,hs4⟩:=DB hs3.hr (hs3.le _ _ (hs1.le _ _ hi)) e;have all:=((hs1.trans hs2).trans hs3).trans hs4;cases ex with
                 | normal=>subst hj;exact⟨v,w4,hrun4,v,ρ3,rfl,r4,all⟩
                 | exit id=>subst hj;exact⟨v,w4,hrun4,v,ρ3,rfl,r4,all⟩
                 | ret=>subst hj;exact⟨v,w4,hrun4,v,ρ3,rfl,r4,all⟩
               · cases e
           · cases e
       | _=>cases hk
     · cases e
end
open Go.RowKit
section
variable {P:Program}{E:Env}
theorem sI (hE:bJ P E) (hx:ji P E) (hn:jt P) {d:Nat}{f:FuncId}{args:List Value}{v:Value}{h h':ak}(hext:E.ext f args h=none)
  (e:dN E d (.func f) args h=some (v,h')) {ρ:Ren}{w:World}{args':Array Value}(hr:HR P ρ h w) (hg:GR E ρ) (ra:eW ρ args args'.toList) :
  Calls P f args' w fun e w'=>∃ v' ρ',e=.returned v'∧VR ρ' v v'∧dG P ρ h w ρ' h' w' :=
 ((zH hE hx hn d).2 f args h v h' e hext ρ w args' hr hg ra).2
theorem dG.below {h h':ak}{w w':World}{ρ ρ':Ren}(hs:dG P ρ h w ρ' h' w') (hi:∀ i x,ρ i=some x→Ev.soft (h.b.get i)):Below w.heap.size w w' :=
 ⟨hs.os,hs.tape,hs.output,hs.size,fun k hk=>hs.frame k hk fun i c e=>hi i _ e⟩
theorem Dv (hE:bJ P E) (hx:ji P E) (hn:jt P) (hg:E.ng=0) {d:Nat}{f:FuncId}{b:Bool}{h':ak}(hext:E.ext f [] { n:=0,b:=.leaf }=none)
  (e:dN E d (.func f) [] { n:=0,b:=.leaf }=some (.bool b,h')) (w:World):Calls P f #[] w fun e w'=>e=.returned (.bool b)∧Below w.heap.size w w':=by
 have hr:HR P (fun _=>none) { n:=0,b:=.leaf } w:=⟨fun i b c e=>absurd e an,fun i b c e=>absurd e an,fun i j b c d e=>absurd e an⟩
 refine(sI hE hx hn hext e hr (fun g aT=>ah) .nil).mono fun e w' hh=>?_
 obtain⟨v',ρ',rfl,r,hs⟩:=hh
 cases r
 exact⟨rfl,hs.below fun i x e=>by cases e⟩
theorem Cc (P:Program):∀ (l:List TypeInfo) (k t:Nat),(CE P l k)[t]?=(l[t]?).map (WH P (k+t))
 | [],k,t=>by simp[CE]
 | i::l,k,0=>by simp[CE]
 | i::l,k,t+1=>by simp only[CE,cu];rw[Cc P l (k+1) t,show k+1+t=k+(t+1) by omega]
theorem BP (P:Program) (ng:Nat) (ext:FuncId→List Value→ak→Option (Option (Value×ak))) (hm:P.follows .mixedOrders=true):bJ P (iW P ng ext) where
 qh t i h:=by
   simp only[iW,T.uG,Cc,aY,cb]at h;obtain⟨info,hi,rfl⟩:=h;refine⟨info,?_,fun hd=>?_,rfl,rfl,rfl,fun z hz=>?_,fun hs=>hs⟩
   · have hi:P.types[t]?=some info:=by simpa using hi
     have aT:=(fq.1 hi).1;show (if t<P.types.size then P.types[t]? else _)=_;rw[if_pos aT];exact hi
   · simp only[WH]at hd ⊢;cases hu:P.underlying t with
     | none=>rw[hu]at hd;exact absurd rfl hd
     | some d=>rfl
   · simp only[WH]at hz;cases hzz:info.zero with
     | none=>rw[hzz]at hz;cases hz
     | some z' =>
       rw[hzz]at hz;simp only[Rz]at hz;cases hc:fW z' with
       | false=>rw[hc]at hz;cases hz
       | true=>rw[hc]at hz;cases hz;exact⟨rfl,hc⟩
 vQ f fn h:=by simp only[iW,T.uG]at h;simpa using h
 mixed:=hm
 XG f h:=by cases h
 qc f l v h:=by cases h
theorem noExt (P:Program) (ng:Nat):ji P (iW P ng fun _ _ _=>none):=fun f args H v H' h=>by simp[iW]at h
def sQ (n:FuncId) (f:FuncId) (args:List Value) (h:ak):Option (Option (Value×ak)) :=
 cond (Nat.beq f n) (match args with
  | [.int .u64 x,.int .u64 y,.int .u64 c]=>cond (decide (0≤x)&&decide (0≤y)&&decide (0≤c)&&decide (c≤1))
    (some (some (.tuple #[.int .u64 ((x+y+c)%18446744073709551616),.int .u64 ((x+y+c) / 18446744073709551616)],h))) (some none)
  | _=>some none) none
theorem MW (P:Program) (ng n:Nat) {fn:Func}(hf:P.funcs[n]?=some fn) (hname:(fn.name== "runtime.NumGoroutine")=false) (hb:fn.body.isNone=true) (hn:Extern.findNext fn=none) (he:Extern.find fn=some add64Entry) :
   ji P (iW P ng (sQ n)):=by
 intro f args h v h' e ρ w args' hr hg ra
 simp only[iW,sQ,bF]at e
 by_cases hfn:f=n
 · subst hfn;rw[if_pos rfl]at e;split at e
   · rename_i x y c;cases hc:(decide (0≤x)&&decide (0≤y)&&decide (0≤c)&&decide (c≤1)) with
     | false=>rw[hc]at e;simp at e
     | true =>
       rw[hc]at e;simp only[cond_true,aS,bA]at e;obtain⟨rfl,rfl⟩:=e;simp only[aZ,decide_eq_true_eq]at hc;have hargs:args'=#[.int .u64 x,.int .u64 y,.int .u64 c]:=by
         obtain⟨l⟩:=args';simp only at ra;cases ra with
         | cons r1 t=>cases r1;cases t with
           | cons r2 t=>cases r2;cases t with
             | cons r3 t=>cases r3;cases t;rfl
       subst hargs;refine .inl ⟨.value (.tuple #[.int .u64 ((x+y+c)%18446744073709551616),.int .u64 ((x+y+c) / 18446744073709551616)]),_,ρ,w,?_,rfl,.tuple _ _ (.cons (.int _ _) (.cons (.int _ _) .nil)),dG.refl hr⟩;simp only[uk];rw[run_callFunc_extern hf hname hb hn he,run_add64 x y c hc.1.1.1 hc.1.1.2 hc.1.2 hc.2];rfl
   · simp at e
 · rw[if_neg hfn]at e;cases e
def lS (P:Program):Bool:=P.funcs.toList.all fun fn=>fn.body.isNone || fn.name != "runtime.NumGoroutine"
theorem tS (h:lS P=true):jt P:=by intro f fn hf hb hn;unfold lS at h;rw[dX]at h;have:=h fn (by rw[Array.mem_toList_iff];exact Array.mem_of_getElem? hf);simp[hn]at this;rw[this]at hb;cases hb
end
section
variable {E:Env}
abbrev ui:=Fn→List Value→ak→Option (Value×ak)
def rV (c c':ui):Prop:=∀ f a h r,c f a h=some r→c' f a h=some r
theorem yu {c c':ui}(hc:rV c c') {fr:Fr}{o:Oper}{h:ak}{r:Value×ak}(e:jl E c fr o h=some r):jl E c' fr o h=some r:=by
 unfold jl at e ⊢;cases hk:eT E o.op<;>simp only[hk]at e ⊢<;>try exact e
 split at e
 ·rename_i cl hcl;split at e;·exact e
  ·split at e;·rename_i f args ht;exact hc _ _ _ _ e
   ·cases e
 ·exact e
theorem Kf {c c':ui}(hc:rV c c') {nt:Nat}{ops:List Oper}{fr:Fr}{o:Oper}{h:ak}{r:Fr×ak}(e:step E c nt ops fr o h=some r):step E c' nt ops fr o h=some r:=by
 unfold step at e ⊢;split at e;·cases e
 ·exact e
 ·split at e;·rename_i p hp;rw[yu hc hp];exact e
  ·cases e
theorem qn {c c':ui}(hc:rV c c') {nt:Nat}{all:List Oper}:∀ (os:List Oper) {fr:Fr}{h:ak}{r:Fr×ak},ig E c nt all os fr h=some r→ig E c' nt all os fr h=some r
 | [],_,_,_,e=>e
 | o::os,fr,h,r,e=>by
   simp only[ig]at e ⊢;split at e;· rename_i fr1 h1 e1;rw[Kf hc e1];exact qn hc os e
   · cases e
theorem ql {c c':ui}(hc:rV c c') {nt:Nat}{all:List Oper}:∀ (os:List Item) {fr:Fr}{h:ak}{r:Fr×ak},aJ E c nt all os fr h=some r→aJ E c' nt all os fr h=some r
 | [],_,_,_,e=>e
 | x::xs,fr,h,r,e=>by
   simp only[aJ]at e ⊢;split at e;· cases e
   · rename_i o ho;split at e
     · rename_i fr1 h1 e1;rw[Kf hc e1];simp only;cases hb:(Nat.ble h.n h1.n&&mi E all fr1 h1 x.again) with
       | false=>rw[hb]at e;cases e
       | true=>rw[hb]at e;exact ql hc xs e
     · cases e
theorem Da {f f':Fr→ak→Option (Ex×Fr×ak)}(hf:∀ fr h r,f fr h=some r→f' fr h=some r):∀ (n:Nat) (fr:Fr) (h:ak) (r:Ex×Fr×ak),iter f n fr h=some r→iter f' n fr h=some r
 | 0,_,_,_,e=>by simp[iter]at e
 | n+1,fr,h,r,e=>by
   simp only[iter]at e ⊢;split at e;· rename_i fr1 h1 e1;rw[hf _ _ _ e1];exact Da hf n _ _ _ e
   · rename_i hno;rw[hf _ _ _ e];obtain⟨ex,fr',h'⟩:=r;cases ex with
     | normal=>exact absurd e (hno _ _)
     | exit id=>rfl
     | ret=>rfl
theorem gh {c c':ui}(hc:rV c c') {nt:Nat}{rd:Option Nat}:∀ (k:Code) (fr:Fr) (h:ak) (r:Ex×Fr×ak),code E c nt rd k fr h=some r→code E c' nt rd k fr h=some r
 | .skip,_,_,_,e=>e
 | .label _,_,_,_,e=>e
 | .exit _,_,_,_,e=>e
 | .ret,_,_,_,e=>e
 | .region _ ops false,fr,h,r,e=>by
   simp only[code]at e ⊢;cases hdf:ops.toList.any ml with
   | true=>rw[hdf]at e;exact e
   | false =>
   rw[hdf]at e;simp only[cond_false,aY]at e ⊢;obtain⟨a,e1,e2⟩:=e;exact⟨a,qn hc _ e1,e2⟩
 | .region _ ops true,fr,h,r,e=>by
   simp only[code]at e ⊢;split at e;· simp only[aY]at e ⊢;obtain⟨a,e1,e2⟩:=e;exact⟨a,ql hc _ e1,e2⟩
   · cases e
 | .seq a b,fr,h,r,e=>by
   simp only[code]at e ⊢;split at e;· rename_i fr1 h1 e1;rw[gh hc a _ _ _ e1];exact gh hc b _ _ _ e
   · rename_i hno;rw[gh hc a _ _ _ e];obtain⟨ex,fr',h'⟩:=r;cases ex with
     | normal=>exact absurd e (hno _ _)
     | exit id=>rfl
     | ret=>rfl
 | .cond x a b,fr,h,r,e=>by
   simp only[code]at e ⊢;split at e;· exact gh hc a _ _ _ e
   · exact gh hc b _ _ _ e
   · cases e
 | .block id b,fr,h,r,e=>by
   simp only[code]at e ⊢;split at e;· rename_i j fr1 h1 e1;rw[gh hc b _ _ _ e1];exact e
   · rename_i hno;rw[gh hc b _ _ _ e];obtain⟨ex,fr',h'⟩:=r;cases ex with
     | normal=>rfl
     | exit id=>exact absurd e (hno _ _ _)
     | ret=>rfl
 | .loop b,fr,h,r,e=>by simp only[code]at e ⊢;exact Da (fun fr h r=>gh hc b fr h r) _ _ _ _ e
 | .scope b,fr,h,r,e=>by simp only[code]at e ⊢;exact gh hc b _ _ _ e
 | .rangeFunc g ps assign bd,fr,h,r,e=>by
   simp only[code]at e ⊢;cases hin:inRound h rd with
   | false=>rw[hin]at e;cases e
   | true =>
     rw[hin]at e
     simp only[cond_true]at e ⊢
     split at e
     · split at e;· cases e
       · split at e;· rename_i v2 h2 hcall;rw[hc _ _ _ _ hcall];exact e
         · cases e
     · cases e
 | .goto ..,_,_,_,e=>by simp[code]at e
 | .refuse ..,_,_,_,e=>by simp[code]at e
theorem zY:∀ d,rV (dN E d) (dN E (d+1))
 | 0=>fun f a h r e=>by simp[dN]at e
 | d+1=>fun f args h r e=>by
   have ih:=zY d;cases f with
   | func f =>
     rw[dN]at e ⊢
     split at e
     · exact e
     · split at e;· cases e
       · rename_i fn hfn;split at e;· cases e
         · rename_i b hb;split at e;· cases e
           · rename_i ex fr1 h1 hnx hcode;rw[gh ih b _ _ _ hcode];cases ex with
             | normal=>exact e
             | ret=>exact e
             | exit id=>exact absurd rfl (hnx id)
           · cases e
   | yield l =>
     rw[dN]at e ⊢
     split at e
     · split at e;· cases e
       · rename_i fr1 hps;split at e
         · rename_i fr2 h2 hasg;rw[gh ih _ _ _ _ hasg];simp only;split at e;· cases e
           · rename_i h3 hbeg;split at e;· rename_i ex fr4 h4 Q8;rw[gh ih _ _ _ _ Q8];exact e
             · cases e
         · cases e
     · cases e
   | method n=>simp[dN]at e
   | methodOf t n=>simp[dN]at e
   | via t p f q=>simp[dN]at e
theorem fy {d d':Nat}(hd:d≤d'):rV (dN E d) (dN E d'):=by
 induction hd with
 | refl=>exact fun _ _ _ _ e=>e
 | step _ ih=>exact fun f a h r e=>zY _ _ _ _ _ (ih _ _ _ _ e)
class iJ {α:Type}(a:α):Type where
instance {α:Type}(a:α):iJ a:=⟨⟩
def cy (E:Env) (f:Fn) (args:List Value) (h:ak) (K:Value→ak→Prop) [iJ K]:Prop:=∃ d v h',dN E d f args h=some (v,h')∧K v h'
theorem cy.mono {f:Fn}{args:List Value}{h:ak}{K K':Value→ak→Prop}(r:cy E f args h K) (k:∀ v h',K v h'→K' v h'):cy E f args h K' :=
 let ⟨d,v,h',e,hk⟩:=r;⟨d,v,h',e,k _ _ hk⟩
end
end Go.Ev
