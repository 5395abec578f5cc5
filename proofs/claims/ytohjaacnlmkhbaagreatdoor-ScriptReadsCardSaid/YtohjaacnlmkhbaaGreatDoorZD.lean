/- THE EVALUATOR: a deterministic reading of the program's code over an abstract heap, and that the model does what it says (4). Conditions: none beyond each theorem's own. -/
import Derived.Test.YtohjaacnlmkhbaaGreatDoorZC
import Derived.RangeFuncLeaves
import Derived.RangeFuncNested
import Derived.ProofKit
import Derived.Laws.Externs
set_option linter.unusedSimpArgs false
set_option linter.unusedVariables false
namespace Go.Ev
section
variable {P:Program}{F:Fence}{n:Nat}{Q:Exit→Act→World→Prop}{a:Act}{w:World}
def gY (F:Fence) (n:Nat) (P:Program) (c:Code) (Q:Exit→Act→World→Prop):Nat→Act→World→Prop
 | 0,_,_=>False
 | m+1,a,w=>c.wpIn F n P (Exit.then (gY F n P c Q m) Q) a w
theorem l8 {c:Code}(m:Nat) (h:gY F n P c Q m a w):(Code.loop c).wpIn F n P Q a w:=by
 intro b k cs hro hb hr;have key:∀ m a w,gY F n P c Q m a w →
     ∃ e a' w',Q e a' w'∧ArrivesIn (Machine.fenced P F) P (lone (b.atR a (.code c::.inLoop c::k)) cs w) b k cs e a' w':=by
   intro m
   induction m with
   | zero=>intro a w h;exact h.elim
   | succ m ih =>
     intro a w h
     obtain⟨e,a₁,w₁,hq,harr⟩:=h b (.inLoop c::k) cs hro hb hr
     cases e with
     | normal =>
       obtain⟨e₂,a₂,w₂,hq₂,harr₂⟩:=ih a₁ w₁ hq
       exact⟨e₂,a₂,w₂,hq₂,.of_steps (StepsIn.trans harr (.one (fenced_calm hb hr rfl) stepR_inLoop)) harr₂⟩
     | exit id=>exact⟨_,a₁,w₁,hq,.pass (x:=.inLoop c) rfl (fun _ _=>.inl (by simp)) harr⟩
     | goto l=>exact⟨_,a₁,w₁,hq,.pass (x:=.inLoop c) rfl (fun _ _=>.inl (by simp)) harr⟩
     | ret=>exact⟨_,a₁,w₁,hq,.pass (x:=.inLoop c) rfl (fun _ _=>.inl (by simp)) harr⟩
     | panic ch=>exact⟨_,a₁,w₁,hq,.pass (x:=.inLoop c) rfl (fun _ _=>.inl (by simp)) harr⟩
     | outgrown=>exact⟨_,a₁,w₁,hq,.pass (x:=.inLoop c) rfl (fun _ _=>.inl (by simp)) harr⟩
 obtain⟨e,a',w',hq,harr⟩:=key m a w h;exact⟨e,a',w',hq,.of_steps (.one (fenced_calm hb hr rfl) stepR_loop) harr⟩
theorem ir {b:Frame}{k:List Go.Item}{cs:List Frame}{c:Code}:Go.step P (lone (b.atR a (.code (.scope c)::k)) cs w)=.next (lone (b.atR a (.code c::.inScope c::k)) cs w) :=
 step_lone_go (by simp[stepG,stepG.exec,Frame.atR])
theorem xH {b:Frame}{k:List Go.Item}{cs:List Frame}{c:Code}:Go.step P (lone (b.atR a (.inScope c::k)) cs w)=.next (lone (b.atR a k) cs w) :=
 step_lone_go (by simp[stepG,stepG.exec,Frame.atR])
theorem o9 {c:Code}(h:c.wpIn F n P (Exit.noGoto Q) a w):(Code.scope c).wpIn F n P Q a w:=by
 intro b k cs hro hb hr;have h0:(lone (b.atR a (.code (.scope c)::k)) cs w).fenced P F:=fenced_calm hb hr rfl;obtain⟨e,a₁,w₁,hq,harr⟩:=h b (.inScope c::k) cs hro hb hr;cases e with
 | normal=>exact⟨.normal,a₁,w₁,hq,.head h0 ir (StepsIn.trans harr (.one (fenced_calm hb hr rfl) xH))⟩
 | exit id =>
   have hx:exitTo id (.inScope c::k)=exitTo id k:=by simp[exitTo]
   exact⟨.exit id,a₁,w₁,hq,fun k' hk=>.head h0 ir (harr.1 k' (by rw[hx];exact hk)),
     fun hr' hk=>let ⟨k₁,h1,h2⟩:=harr.2 hr' (by rw[hx];exact hk);⟨k₁,h1,.head h0 ir h2⟩⟩
 | goto l=>exact hq.elim
 | ret=>exact⟨_,a₁,w₁,hq,.of_steps (.one h0 ir) harr⟩
 | panic ch=>exact⟨_,a₁,w₁,hq,.of_steps (.one h0 ir) harr⟩
 | outgrown=>exact⟨_,a₁,w₁,hq,.of_steps (.one h0 ir) harr⟩
end
def toExit:Ex→Exit
 | .normal=>.normal
 | .exit id=>.exit id
 | .ret=>.ret
def Sy (F:Fence) (ρ:Ren):Option Nat→Prop
 | none=>F.round=none
 | some l=>∃ b c,ρ l=some (b,c)∧F.round=some b
theorem Sy.mono {F:Fence}{ρ ρ':Ren}{rd:Option Nat}(h:Sy F ρ rd) (hle:ρ.le ρ'):Sy F ρ' rd:=by
 cases rd with
 | none=>exact h
 | some l=>obtain⟨b,c,h1,h2⟩:=h;exact⟨b,c,hle _ _ h1,h2⟩
def yu (P:Program) (E:Env) (B:Nat) (F:Fence) (rd:Option Nat) (nt:Nat) (f:Fr→Heap→Option (Ex×Fr×Heap)) (W:(Exit→Act→World→Prop)→Act→World→Prop):Prop :=
 ∀ ρ h w fr a ex fr' h' Q,FR E ρ fr a→HR P ρ h w→a.tmps.size=nt→DR P B ρ w a.defers→Sy F ρ rd→B≤w.heap.size→f fr h=some (ex,fr',h') →
   (∀ a' w',gw B P E ρ h w nt fr' h' a' w'→Q (toExit ex) a' w')→W Q a w
structure xN (P:Program) (E:Env) (B:Nat) (F:Fence) (rd:Option Nat) (nt:Nat) (fr0:Fr) (M:du) (ρ0:Ren) (h0:Heap) (w0:World) (rb cr mb:Nat) (H:Heap) (seen:Array Nat) (ρ:Ren) (a:Act) (w:World):Prop where
 fr:FR E ρ fr0 a
 st:bV P ρ0 h0 w0 ρ (bX H M.r .dead) w
 xx:a.tmps.size=nt
 df:DR P B ρ w a.defers
 rd_:Sy F ρ rd
 it:ρ M.r=some (rb,cr)
 ob:w.heap[rb]?=some (.mapIter (some mb) M.c seen M.c)
 mp:∃ cm,ρ M.m=some (mb,cm)
 hm:H.b.get M.m=some (.map M.es M.c)
 uniq:∀ i c,ρ i=some (rb,c)→i≠M.r→H.b.get i=some .dead
structure Cf (P:Program) (E:Env) (B:Nat) (F:Fence) (rd:Option Nat) (nt:Nat) (fr0:Fr) (M:du) (ρ0:Ren) (h0:Heap) (w0:World) (rb mb:Nat) (H:Heap) (seen:Array Nat) (ρ:Ren) (born:Nat) (f3:Fr) (h3:Heap) (ρ':Ren) (a':Act) (w':World):Prop where
 fr:FR E ρ' f3 a'
 st:bV P ρ0 h0 w0 ρ' h3 w'
 le:ρ.le ρ'
 xx:a'.tmps.size=nt
 df:DR P B ρ' w' a'.defers
 ob:w'.heap[rb]?=some (.mapIter (some mb) M.c (seen.push born) M.c)
 cur:h3.b.get M.r=some (.iW M.m born M.c)
 soft:∀ i x,ρ i=some x→i≠M.r→Ev.soft (H.b.get i)→h3.b.get i=H.b.get i
theorem l7 {fr0 f:Fr}:∀ {ts:List Nat}{t:Nat}{v:Value},(eD fr0 f ts).get t=some v→f.get t=some v∧t∈ts
 | [],t,v,h=>by simp[eD,T.fL]at h
 | s::ts,t,v,h=>by
   simp only[eD]at h;split at h
   · rename_i u w _ hw;rw[T.ah]at h;by_cases hst:s=t;· subst hst;rw[if_pos rfl]at h;exact⟨by rw[hw];exact h,List.mem_cons_self⟩
     · rw[if_neg hst]at h;have:=l7 h;exact⟨this.1,List.mem_cons_of_mem _ this.2⟩
   · have:=l7 h;exact⟨this.1,List.mem_cons_of_mem _ this.2⟩
theorem xq {M:du}{fr:Fr}(h:atR M fr=true):fr.get M.t=some (.pointer (some ⟨M.r,0,none⟩)):=by
 unfold atR at h;split at h;·rename_i r hr;rw[hr,Nat.eq_of_beq_eq_true h]
 ·cases h
theorem Aj {nt:Nat}{fr0 f3:Fr}(h:sS nt fr0 f3=true) {t:Nat}(ht:t<nt) {v:Value}(hv:fr0.get t=some v):f3.get t=some v:=by
 unfold sS at h;have:=List.all_eq_true.1 h t (List.mem_range.2 ht);rw[hv]at this;simp only at this;split at this;·rename_i u hu;rw[hu,gz _ _ _ this]
 ·cases this
theorem Cy {k:Option fa}(h:A5 k=true):Ev.soft k:=by
 unfold A5 at h;split at h;·exact .inl rfl
 ·exact .inr (.inl ⟨_,rfl⟩)
 ·exact .inr (.inr ⟨_,_,_,rfl⟩)
 ·cases h
theorem Cz {k:Option fa}(h:Ev.soft k):A5 k=true:=by rcases h with rfl|⟨_,rfl⟩|⟨_,_,_,rfl⟩<;>rfl
theorem u5 {nt:Nat}{M:du}{fr0:Fr}{H:Heap}{p:Fr×Heap}(aB:∀ t v,fr0.get t=some v→t<nt) (h:sX nt M fr0 H p=true):jK M fr0 H p:=by
 unfold sX at h;rw[Bool.and_eq_true]at h;obtain⟨hq,hf3⟩:=h;unfold Ku at hq;rw[Bool.and_eq_true]at hq;refine⟨Nat.le_of_ble_eq_true hq.1,fun i hi hir=>?_,fun t v hv=>Aj hf3 (aB t v hv) hv⟩;have:=List.all_eq_true.1 hq.2 i (List.mem_range.2 hi);rw[Bool.or_eq_true]at this;rcases this with e|e;·exact absurd (Nat.eq_of_beq_eq_true e) hir
 ·exact(xf e).1.imp id Cz
section
variable {P:Program}{E:Env}{B:Nat}{F:Fence}{n nt:Nat}{rd:Option Nat}{fr0:Fr}{M:du}{ρ0 ρ:Ren}{h0 H:Heap}{w0 w:World}{rb cr mb:Nat}{seen:Array Nat}{a:Act}
theorem Cf.Si {born:Nat}{f3:Fr}{h3:Heap}{ρ':Ren}{a':Act}{w':World}(inv:xN P E B F rd nt fr0 M ρ0 h0 w0 rb cr mb H seen ρ a w) (x:Cf P E B F rd nt fr0 M ρ0 h0 w0 rb mb H seen ρ born f3 h3 ρ' a' w') (hsame:h3.b.get M.m=H.b.get M.m)
   (Jb:∃ y,ρ0 M.r=some y) (oH:¬Ev.soft (h0.b.get M.r)):xN P E B F rd nt (eD fr0 f3 (List.range nt)) M ρ0 h0 w0 rb cr mb h3 (seen.push born) ρ' a' w':=by
 have hfr:=x.fr
 have hit:=x.le _ _ inv.it
 refine⟨⟨hfr.wx,fun t v hv=>hfr.tmp t v (l7 hv).1⟩,?_,x.xx,x.df,inv.rd_.mono x.le,hit,x.ob,let ⟨cm,e⟩:=inv.mp;⟨cm,x.le _ _ e⟩,?_,?_⟩
 · have s:=x.st
   exact { le:=s.le,hr:=s.hr.dead M.r,n:=s.n,new:=s.new,h_:=fun i hi e0=>by
             have:i≠M.r:=fun e=>by subst e;obtain⟨y,hy⟩:=Jb;rw[hy]at e0;cases e0
             rw[aG this];exact s.h_ i hi e0,
           os:=s.os,tape:=s.tape,output:=s.output,size:=s.size,frame:=s.frame,uG:=s.uG,
           stays:=fun i y e hs=>by
             have:i≠M.r:=fun e'=>by subst e';exact oH hs
             rw[aG this];exact s.stays i y e hs }
 · rw[hsame];exact inv.hm
 · intro i c e hi;rcases x.st.hr.inj i M.r rb c cr e hit hi with e'|e';· exact e'
   · rw[x.cur]at e';cases e'
theorem Cf.quiet {born:Nat}{f3:Fr}{h3:Heap}{ρ':Ren}{a':Act}{w':World}(inv:xN P E B F rd nt fr0 M ρ0 h0 w0 rb cr mb H seen ρ a w) (x:Cf P E B F rd nt fr0 M ρ0 h0 w0 rb mb H seen ρ born f3 h3 ρ' a' w') (hq:jK M fr0 H (f3,h3)) :
  xN P E B F rd nt fr0 M ρ0 h0 w0 rb cr mb H (seen.push born) ρ a' w':=by
 have hfr:=x.fr
 obtain⟨_,hsm,hf3⟩:=hq
 have hH:=inv.st.hr
 have hhr:HR P ρ (bX H M.r .dead) w':={
  gT:=fun i b c e=>⟨(hH.gT i b c e).1,(x.st.hr.gT i b c (x.le _ _ e)).2⟩
  ib:=fun i b c e=>by
   by_cases hi:i=M.r;·subst hi;obtain⟨_,o,_,e2,_⟩:=x.st.hr.ib _ b c (x.le _ _ e);exact⟨.dead,o,kV,e2,.dead o⟩
   ·obtain⟨k,o,e1,e2,e3⟩:=hH.ib i b c e;rw[aG hi]at e1;obtain⟨k',o',g1,g2,g3⟩:=x.st.hr.ib i b c (x.le _ _ e);have hiH:i<H.n:=(hH.gT i b c e).1;have hk:k'=k:=by
     rcases hsm i hiH hi with e'|e';·rw[g1,e1]at e';exact Option.some.inj e'
     ·have:=x.soft i _ e hi (Cy e');rw[g1,e1]at this;exact Option.some.inj this
    subst hk;exact⟨k',o',by rw[aG hi];exact e1,g2,BR.back x.le e3 g3⟩
  inj:=hH.inj }
 have s:=inv.st
 have t:=x.st
 refine⟨⟨inv.fr.wx,fun q v hv=>VR.back x.le (inv.fr.tmp q v hv) (hfr.tmp q v (hf3 q v hv))⟩,?_,x.xx,?_,inv.rd_,inv.it,x.ob,inv.mp,inv.hm,inv.uniq⟩
 ·exact { le:=s.le,hr:=hhr,n:=s.n,new:=s.new,h_:=s.h_,os:=t.os,tape:=t.tape,output:=t.output,size:=t.size,frame:=t.frame,uG:=s.uG,stays:=s.stays }
 ·refine⟨x.df.nd,fun d hd=>?_⟩;rcases x.df.each d hd with ⟨D,e1,e2,e3,e4⟩|e;·exact .inl ⟨D,e1,e2,e3,fun i c e=>e4 i c (x.le _ _ e)⟩
  ·exact .inr e
theorem U8 (hF:yp F) {body:Fr→Heap→Option (Ex×Fr×Heap)}{W:(Exit→Act→World→Prop)→Act→World→Prop}(ni:yu P E B F rd nt body W) {ops:Array Oper}{t:Nat}(hi:ops[0]?=some M.o0) (kR:M.o0.op=.next (.tmp t) false) (SZ:M.o0.guard=none) (ht:fr0.get t=some (.pointer (some ⟨M.r,0,none⟩)))
   (By:∀ e∈M.es,e.2.2<M.c) (hB:B≤w0.heap.size) (XY:M.r≠M.m) (Jb:∃ y,ρ0 M.r=some y) (oH:¬Ev.soft (h0.b.get M.r)) (inv:xN P E B F rd nt fr0 M ρ0 h0 w0 rb cr mb H seen ρ a w) {Q Q':Exit→Act→World→Prop}
   (kover:(∀ e∈M.es,e.2.2∈seen.toList)→∃ f ex fr' h',put nt fr0 M.o0 (.tuple #[.bool false])=some f∧body f (bX H M.r .dead)=some (ex,fr',h')∧∀ a' w',gw B P E ρ0 h0 w0 nt fr' h' a' w'→Q (toExit ex) a' w')
   (kx:∀ e∈M.es,e.2.2∉seen.toList→∃ f3 h3,fS body nt M fr0 H e=some (f3,h3)∧∀ ρ' a' w',Cf P E B F rd nt fr0 M ρ0 h0 w0 rb mb H seen ρ e.2.2 f3 h3 ρ' a' w'→Q .normal a' w') :
   wpOpIn F n P ops Q' 0 (W Q) a w:=by
 have rp:=inv.fr.tmp t _ ht
 have hptr:a.eval (.tmp t)=.pointer (some ⟨rb,0,none⟩):=by
   show a.tmps.getD t undef=_;generalize a.tmps.getD t undef=u at rp;cases rp with
   | ptr _ hi'=>rw[inv.it]at hi';cases hi';rfl
 obtain⟨cm,hmp⟩:=inv.mp
 obtain⟨k,o,k1,k2,k3⟩:=inv.st.hr.ib _ _ _ hmp
 rw[aG (Ne.symm XY),inv.hm]at k1
 cases k1
 cases k3 with
 | map _ es' _ lU =>
   have hbs:∀ e∈es'.toList,e.born<M.c:=fun e he=>by obtain⟨j,hj,rfl⟩:=List.getElem_of_mem he;have hl:=lU.length;obtain⟨y,e1,_,_,e2⟩:=lU.get j _ (List.getElem?_eq_getElem (show j<M.es.length by omega));rw[List.getElem?_eq_getElem hj]at e1;cases e1;rw[← e2];exact By _ (List.getElem_mem _)
   unfold wpOpIn
   simp only[hi]
   have hw:Region.wanted M.o0 (yielded ops a.tmps)=true:=by simp[Region.wanted,SZ]
   rw[hw,if_pos rfl]
   have hrun:∀ {nx:Value}{w':World},(Instr.next (.pointer (some ⟨rb,0,none⟩)) false M.o0.type).run P w=.ok nx w'→(execOp a.eval M.o0).run P w=.ok (.value nx) w':=fun h=>by simp only[execOp,kR,hptr,Sem.run_bind,h,Result.andThen_ok,Sem.run_pure]
   rcases LB (P:=P) (ty:=M.o0.type) inv.ob k2 hbs with ⟨d,hrn,hseen⟩|⟨d,e',he',hns,hrn⟩
   · obtain⟨f,ex,fr',h',hput,hb,kk⟩:=kover fun e he=>by obtain⟨j,hj,rfl⟩:=List.getElem_of_mem he;obtain⟨y,e1,_,_,e2⟩:=lU.get j _ (List.getElem?_eq_getElem hj);rw[e2];exact hseen y (List.mem_of_getElem? e1)
     refine jH hF (by rw[kR];simp) (hrun hrn) rfl ?_;have sd:=bV.draw inv.st.hr d;refine ni ρ _ _ f _ ex fr' h' Q (FR.put inv.fr inv.xx (.tuple _ _ (.cons (.bool _) .nil)) hput) sd.hr (by rw[kK];exact inv.xx) (by rw[put_defers];exact inv.df.step sd) inv.rd_ (Nat.le_trans hB inv.st.size) hb fun a' w' ha=>kk a' w' (ha.trans (inv.st.trans sd))
   · obtain⟨j,hj,rfl⟩:=List.getElem_of_mem he';have hl:=lU.length;have hje:j<M.es.length:=by omega
     obtain⟨y,e1,rk,rv,e2⟩:=lU.get j _ (List.getElem?_eq_getElem hje);rw[List.getElem?_eq_getElem hj]at e1;cases e1;obtain⟨f3,h3,hmd,kk⟩:=kx M.es[j] (List.getElem_mem _) (by rw[e2];exact hns);unfold fS at hmd;split at hmd;· cases hmd
     rename_i f hput;split at hmd
     · rename_i f3' h3' hb;simp only[Option.some.injEq,Prod.mk.injEq]at hmd;obtain⟨rfl,rfl⟩:=hmd;refine jH hF (by rw[kR];simp) (hrun hrn) rfl ?_;have hbr:BR P ρ cr (.iW M.m M.es[j].2.2 M.c) (.mapIter (some mb) M.c (seen.push es'.toList[j].born) M.c):=.iW hmp _ _ _ _ (by rw[e2];simp);have hrbl:rb<w.heap.size:=(Array.getElem?_eq_some_iff.1 inv.ob).1;have hho:({ w with drawn:=d,heap:=w.heap.setIfInBounds rb (.mapIter (some mb) M.c (seen.push es'.toList[j].born) M.c) }:World).heap[rb]?=some (.mapIter (some mb) M.c (seen.push es'.toList[j].born) M.c):=by simp[hrbl]
       have hhn:∀ q,q≠rb→({ w with drawn:=d,heap:=w.heap.setIfInBounds rb (.mapIter (some mb) M.c (seen.push es'.toList[j].born) M.c) }:World).heap[q]?=w.heap[q]?:=fun q hq=>by simp[Ne.symm hq]
       have hr1:=HR.iter inv.st.hr inv.it hbr (w':={ w with drawn:=d,heap:=w.heap.setIfInBounds rb (.mapIter (some mb) M.c (seen.push es'.toList[j].born) M.c) }) (by simp) hho hhn inv.uniq;have hs1:bV P ρ0 h0 w0 ρ (bX H M.r (.iW M.m M.es[j].2.2 M.c)) { w with drawn:=d,heap:=w.heap.setIfInBounds rb (.mapIter (some mb) M.c (seen.push es'.toList[j].born) M.c) }:=by
         have s:=inv.st
         exact { le:=s.le,hr:=hr1,n:=s.n,new:=s.new,h_:=fun i hi e0=>by
                   have hir:i≠M.r:=fun e=>by subst e;obtain⟨y,hy⟩:=Jb;rw[hy]at e0;cases e0
                   have:=s.h_ i hi e0;rw[aG hir]at this ⊢;exact this,
                 os:=s.os,tape:=s.tape,output:=s.output,size:=by simp;exact s.size,
                 frame:=fun b hb hn'=>by
                   have hbr':b≠rb:=fun e=>by subst e;obtain⟨y,hy⟩:=Jb;have:=s.le _ _ hy;rw[inv.it]at this;cases this;exact oH (hn' _ _ hy)
                   rw[hhn b hbr'];exact s.frame b hb hn',
                 uG:=fun i b c e hb=>s.uG i b c e hb,
                 stays:=fun i y e hs=>by
                   have hir:i≠M.r:=fun e'=>by subst e';exact oH hs
                   have:=s.stays i y e hs;rw[aG hir]at this ⊢;exact this }
       have hdr:DR P B ρ { w with drawn:=d,heap:=w.heap.setIfInBounds rb (.mapIter (some mb) M.c (seen.push es'.toList[j].born) M.c) } (a.put M.o0.dst (.tuple #[.bool true,es'.toList[j].key,es'.toList[j].val])).defers:=by
         rw[put_defers];refine⟨inv.df.nd,fun x hx=>?_⟩;rcases inv.df.each x hx with ⟨D,g1,g2,g3,g4⟩|g;· refine .inl ⟨D,g1,g2,?_,g4⟩;rw[hhn D fun e=>g4 M.r cr (by rw[e];exact inv.it)];exact g3
         · exact .inr g
       refine ni ρ _ _ f _ .normal f3' h3' Q (FR.put inv.fr inv.xx (.tuple _ _ (.cons (.bool _) (.cons rk (.cons rv .nil)))) hput) hr1 (by rw[kK];exact inv.xx) hdr inv.rd_ (by have:=inv.st.size;simp;omega) hb fun a' w' ha=>?_;obtain⟨ρ',hf',hs',hnt',hd'⟩:=ha;refine kk ρ' a' w' ⟨hf',hs1.trans hs',hs'.le,hnt',hd',?_,?_,?_⟩
       · rw[e2,hs'.frame rb (by simpa using hrbl) fun i c e=>?_,hho];by_cases hir:i=M.r;· rw[hir,kV];exact .inr (.inr ⟨_,_,_,rfl⟩)
         · rw[aG hir,inv.uniq i c e hir];exact .inl rfl
       · rw[hs'.stays M.r _ inv.it (by rw[kV];exact .inr (.inr ⟨_,_,_,rfl⟩)),kV]
       · intro i y e hir hs;have:=hs'.stays i y e (by rw[aG hir];exact hs);rw[this,aG hir]
     · cases hmd
end
theorem eZ {D:List Nat}{fr:Fr}:∀ {ts:List Nat}{t:Nat}{v:Value},(dH D fr ts).get t=some v→fr.get t=some v∧t∈ts
 | [],t,v,h=>by simp[dH,T.fL]at h
 | s::ts,t,v,h=>by
   simp only[dH]at h;cases hc:D.any (Nat.beq s) with
   | true =>
     rw[hc,cond_true]at h
     have:=eZ h
     exact⟨this.1,List.mem_cons_of_mem _ this.2⟩
   | false =>
     rw[hc,cond_false]at h
     split at h
     · rename_i u hu;rw[T.ah]at h;by_cases hst:s=t;· subst hst;rw[if_pos rfl]at h;exact⟨by rw[hu];exact h,List.mem_cons_self⟩
       · rw[if_neg hst]at h;have:=eZ h;exact⟨this.1,List.mem_cons_of_mem _ this.2⟩
     · have:=eZ h;exact⟨this.1,List.mem_cons_of_mem _ this.2⟩
theorem G6 {α:Type}{p q:α→Bool}(hqp:∀ x,q x=true→p x=true) {e:α}(hp:p e=true) (hq:q e=false):∀ {es:List α},e∈es→(es.filter q).length<(es.filter p).length
 | x::es,h=>by
   have hle:∀ l:List α,(l.filter q).length≤(l.filter p).length:=by
     intro l;induction l with
     | nil=>simp
     | cons y l ih =>
       simp only[List.filter_cons]
       cases hqy:q y with
       | true=>simp[hqp y hqy];exact ih
       | false=>cases hpy:p y<;>simp<;>omega
   rcases List.mem_cons.1 h with rfl|h;· simp only[List.filter_cons,hp,hq,if_true,Bool.false_eq_true,if_false,List.length_cons];have:=hle es;omega
   · have ih:=G6 hqp hp hq h;simp only[List.filter_cons];cases hqx:q x with
     | true=>simp[hqp x hqx];exact ih
     | false=>cases hpx:p x<;>simp<;>omega
def zy (M:du) (seen:Array Nat):Nat:=(M.es.filter fun e=>!seen.toList.contains e.2.2).length
theorem Dp {M:du}{seen:Array Nat}{e:Value×Value×Nat}(he:e∈M.es) (hn:e.2.2∉seen.toList):zy M (seen.push e.2.2)<zy M seen:=by
 refine G6 (fun x hx=>?_) ?_ ?_ he;·simp only[Bool.not_eq_true',Array.toList_push,List.contains_eq_mem,decide_eq_false_iff_not,List.mem_append,not_or]at hx ⊢;exact hx.1
 ·simpa using hn
 ·simp
theorem zL {E:Env}{ops:List Oper}{fr:Fr}{h:Heap}{M:du}(e:gG E ops fr h=some M) :
   ops=M.o0::M.tail∧(M.o0.op=.next (.tmp M.t) false∧fr.get M.t=some (.pointer (some ⟨M.r,0,none⟩)))∧M.o0.guard=none∧h.b.get M.r=some (.dY (some M.m) M.c [] M.c)∧bU h (.map (some M.m))=some (M.es,M.c) ∧
   M.r<h.n∧M.es.length<1000∧(∀ x∈M.es,x.2.2<M.c)∧nodupB (M.es.map (·.2.2))=true∧M.r≠M.m∧ops.any fc=false:=by
 unfold gG at e
 split at e
 · cases e
 rename_i o0 tail
 split at e
 · rename_i t kR SZ;split at e
   · rename_i r hr;split at e
     · rename_i m since last hb;split at e
       · rename_i es c hg;cases hc:(Nat.blt r h.n&&Nat.beq since c&&Nat.beq last c&&Nat.blt 1 es.length&&Nat.blt es.length 1000&&es.all (fun e=>Nat.blt e.2.2 c)&&nodupB (es.map (·.2.2))&&!Nat.beq r m&&!(o0::tail).any fc) with
         | false=>rw[hc]at e;cases e
         | true =>
           rw[hc]at e;simp only[cond_true,Option.some.injEq]at e;subst e;simp only[Bool.and_eq_true,Bool.not_eq_true',Nat.blt_eq,Nat.beq_eq]at hc;obtain⟨⟨⟨⟨⟨⟨⟨⟨c1,c2⟩,c3⟩,_⟩,c5⟩,c6⟩,c7⟩,c8⟩,c9⟩:=hc;subst c2;subst c3;refine⟨rfl,⟨kR,hr⟩,SZ,hb,hg,c1,c5,fun x hx=>?_,c7,fun e=>?_,c9⟩;· have:=List.all_eq_true.1 c6 x hx;simpa[Nat.blt_eq]using this
           · have e':r=m:=e;subst e';rw[Nat.beq_refl]at c8;cases c8
       · cases e
     · cases e
   · cases e
 · cases e
section
variable {P:Program}{E:Env}{B:Nat}{F:Fence}{n nt:Nat}{rd:Option Nat}{fr0:Fr}{M:du}{ρ0:Ren}{h0:Heap}{w0:World}{rb cr mb:Nat}{body:Fr→Heap→Option (Ex×Fr×Heap)}{W:(Exit→Act→World→Prop)→Act→World→Prop}{ops:Array Oper}{t:Nat}{b:Code}{Qr:(Exit→Act→World→Prop)→Exit→Act→World→Prop}{Q:Exit→Act→World→Prop}{ex:Ex}{fr':Fr}{h':Heap}
structure Ce (P:Program) (E:Env) (B:Nat) (F:Fence) (n:Nat) (rd:Option Nat) (nt:Nat) (fr0:Fr) (M:du) (ρ0:Ren) (h0:Heap) (w0:World) (body:Fr→Heap→Option (Ex×Fr×Heap)) (W:(Exit→Act→World→Prop)→Act→World→Prop) (ops:Array Oper) (t:Nat) (b:Code)
  (Qr:(Exit→Act→World→Prop)→Exit→Act→World→Prop):Prop where
 hF:yp F
 ni:yu P E B F rd nt body W
 hi:ops[0]?=some M.o0
 kR:M.o0.op=.next (.tmp t) false
 SZ:M.o0.guard=none
 ht:fr0.get t=some (.pointer (some ⟨M.r,0,none⟩))
 By:∀ e∈M.es,e.2.2<M.c
 hB:B≤w0.heap.size
 XY:M.r≠M.m
 Jb:∃ y,ρ0 M.r=some y
 oH:¬Ev.soft (h0.b.get M.r)
 aB:∀ t v,fr0.get t=some v→t<nt
 hb:∀ (Q:Exit→Act→World→Prop) (a:Act) (w:World),wpOpIn F n P ops (Qr Q) 0 (W Q) a w→b.wpIn F n P Q a w
theorem HM {H:Heap}(e:rh body nt M fr0 H=some (ex,fr',h')):∃ f,put nt fr0 M.o0 (.tuple #[.bool false])=some f∧body f (bX H M.r .dead)=some (ex,fr',h')∧ex≠.normal:=by
 unfold rh at e;split at e;·cases e
 ·rename_i f hput;split at e;·cases e
  ·rename_i hno;exact⟨f,hput,e,fun h=>by subst h;exact hno _ _ e⟩
theorem Io {K:Act→World→Prop}{Q:Exit→Act→World→Prop}(h:ex≠.normal) {a:Act}{w:World}(q:Q (toExit ex) a w):Exit.then K Q (toExit ex) a w:=by
 cases ex with
 | normal=>exact absurd rfl h
 | exit id=>exact q
 | ret=>exact q
theorem uk (x:Ce P E B F n rd nt fr0 M ρ0 h0 w0 body W ops t b Qr) {H:Heap}(hend:rh body nt M fr0 H=some (ex,fr',h')) (hq:∀ a' w',gw B P E ρ0 h0 w0 nt fr' h' a' w'→Q (toExit ex) a' w') :
   ∀ (m:Nat) (seen:Array Nat) (ρ:Ren) (a:Act) (w:World),zy M seen<m→(∀ e∈M.es,e.2.2∉seen.toList→∃ p,fS body nt M fr0 H e=some p∧jK M fr0 H p)→xN P E B F rd nt fr0 M ρ0 h0 w0 rb cr mb H seen ρ a w →
     gY F n P b Q m a w
 | 0,_,_,_,_,h,_,_=>by omega
 | m+1,seen,ρ,a,w,hm,hqu,inv=>by show b.wpIn F n P (Exit.then (gY F n P b Q m) Q) a w;obtain⟨f,hput,hbd,hne⟩:=HM hend;refine x.hb _ _ _ (U8 x.hF x.ni x.hi x.kR x.SZ x.ht x.By x.hB x.XY x.Jb x.oH inv (fun _=>⟨f,ex,fr',h',hput,hbd,fun a' w' ha=>Io hne (hq a' w' ha)⟩) fun e he hn=>?_);obtain⟨⟨f3,h3⟩,e1,e2⟩:=hqu e he hn;refine⟨f3,h3,e1,fun ρ' a' w' nx=>?_⟩;have:=Dp he hn;exact uk x hend hq m (seen.push e.2.2) ρ a' w' (by omega) (fun e' he' hn'=>hqu e' he' fun h=>hn' (by simp[h])) (nx.quiet inv e2)
theorem AT (x:Ce P E B F n rd nt fr0 M ρ0 h0 w0 body W ops t b Qr) {H h1:Heap}{f1:Fr}(x1:Ce P E B F n rd nt (eD fr0 f1 (List.range nt)) M ρ0 h0 w0 body W ops t b Qr) {es:Value×Value×Nat}(hend:rh body nt M (eD fr0 f1 (List.range nt)) h1=some (ex,fr',h')) (hq:∀ a' w',gw B P E ρ0 h0 w0 nt fr' h' a' w'→Q (toExit ex) a' w')
   (hsp:fS body nt M fr0 H es=some (f1,h1)) (hesm:es∈M.es) (hsame:h1.b.get M.m=H.b.get M.m) (hun:∀ e∈M.es,e.2.2=es.2.2→e=es)
   (h1q:∀ e∈M.es,e.2.2≠es.2.2→∃ p,fS body nt M (eD fr0 f1 (List.range nt)) h1 e=some p∧jK M (eD fr0 f1 (List.range nt)) h1 p) (h0q:∀ e∈M.es,e.2.2≠es.2.2→∃ p,fS body nt M fr0 H e=some p∧jK M fr0 H p) :
   ∀ (m:Nat) (seen:Array Nat) (ρ:Ren) (a:Act) (w:World),zy M seen<m→es.2.2∉seen.toList→xN P E B F rd nt fr0 M ρ0 h0 w0 rb cr mb H seen ρ a w→gY F n P b Q m a w
 | 0,_,_,_,_,h,_,_=>by omega
 | m+1,seen,ρ,a,w,hm,hns,inv=>by
   show b.wpIn F n P (Exit.then (gY F n P b Q m) Q) a w;refine x.hb _ _ _ (U8 x.hF x.ni x.hi x.kR x.SZ x.ht x.By x.hB x.XY x.Jb x.oH inv (fun hall=>absurd (hall es hesm) hns) fun e he hn=>?_);have:=Dp he hn;by_cases hee:e.2.2=es.2.2;· obtain rfl:=hun e he hee;refine⟨f1,h1,hsp,fun ρ' a' w' nx=>?_⟩;exact uk x1 hend hq m (seen.push e.2.2) ρ' a' w' (by omega) (fun e' he' hn'=>h1q e' he' fun h=>hn' (by simp[h])) (nx.Si inv hsame x.Jb x.oH)
   · obtain⟨⟨f3,h3⟩,e1,e2⟩:=h0q e he hee;refine⟨f3,h3,e1,fun ρ' a' w' nx=>?_⟩;exact AT x x1 hend hq hsp hesm hsame hun h1q h0q m (seen.push e.2.2) ρ a' w' (by omega) (by
       rw[Array.toList_push,List.mem_append];rintro(h|h);· exact hns h
       · exact hee (List.mem_singleton.1 h).symm) (nx.quiet inv e2)
theorem mu {H:Heap}:∀ {es:List (Value×Value×Nat)}{l:List ((Value×Value×Nat)×Fr×Heap)},ly body nt M fr0 H es=some l→(∀ p∈l,p.1∈es∧fS body nt M fr0 H p.1=some p.2)∧∀ e∈es,∃ p,fS body nt M fr0 H e=some p∧(sX nt M fr0 H p=true∨(e,p)∈l)
 | [],l,h=>by simp only[ly,Option.some.injEq]at h;subst h;exact⟨fun p hp=>(by cases hp),fun e he=>(by cases he)⟩
 | e::es,l,h=>by
   simp only[ly]at h;split at h
   · rename_i h3 l' h1 h2;simp only[Option.some.injEq]at h;obtain⟨s1,s2⟩:=mu h2;cases hq:sX nt M fr0 H h3 with
     | true =>
       rw[hq,cond_true]at h;subst h;refine⟨fun p hp=>⟨List.mem_cons_of_mem _ (s1 p hp).1,(s1 p hp).2⟩,fun x hx=>?_⟩;rcases List.mem_cons.1 hx with rfl|hx;· exact⟨h3,h1,.inl hq⟩
       · exact s2 x hx
     | false =>
       rw[hq,cond_false]at h;subst h;refine⟨fun p hp=>?_,fun x hx=>?_⟩
       · rcases List.mem_cons.1 hp with rfl|hp;· exact⟨List.mem_cons_self,h1⟩
         · exact⟨List.mem_cons_of_mem _ (s1 p hp).1,(s1 p hp).2⟩
       · rcases List.mem_cons.1 hx with rfl|hx;· exact⟨h3,h1,.inr List.mem_cons_self⟩
         · obtain⟨h4,e1,e2⟩:=s2 x hx;exact⟨h4,e1,e2.imp id (List.mem_cons_of_mem _)⟩
   · cases h
theorem wm:∀ {l:List (Value×Value×Nat)},nodupB (l.map (·.2.2))=true→∀ x∈l,∀ y∈l,x.2.2=y.2.2→x=y
 | [],_,x,hx,_,_,_=>by cases hx
 | z::l,h,x,hx,y,hy,e=>by
   simp only[List.map_cons,nodupB,Bool.and_eq_true,Bool.not_eq_true',List.any_eq_false]at h;rcases List.mem_cons.1 hx with hxz|hx'
   · rcases List.mem_cons.1 hy with hyz|hy';· rw[hxz,hyz]
     · subst hxz;exact absurd (by rw[e];simp) (h.1 y.2.2 (List.mem_map.2 ⟨y,hy',rfl⟩))
   · rcases List.mem_cons.1 hy with hyz|hy';· subst hyz;exact absurd (by rw[e];simp) (h.1 x.2.2 (List.mem_map.2 ⟨x,hx',rfl⟩))
     · exact wm h.2 x hx' y hy' e
theorem lY {α:Type}{b:Bool}{x:Option α}{r:α}(e:cond b x none=some r):b=true∧x=some r:=by
 cases b with
 | true=>exact⟨rfl,e⟩
 | false=>cases e
theorem Ey (x:atR M fr0=true→Ce P E B F n rd nt fr0 M ρ0 h0 w0 body W ops t b Qr) (htM:t=M.t) (oH:nodupB (M.es.map (·.2.2))=true) (e:pP body nt M fr0 h0=some (ex,fr',h')) (hq:∀ a' w',gw B P E ρ0 h0 w0 nt fr' h' a' w'→Q (toExit ex) a' w')
  {a:Act}(inv:xN P E B F rd nt fr0 M ρ0 h0 w0 rb cr mb h0 #[] ρ0 a w0) {m:Nat}(hm:M.es.length<m):gY F n P b Q m a w0:=by
 have hll:zy M #[]<m:=Nat.lt_of_le_of_lt (List.length_filter_le _ _) hm
 unfold pP at e
 obtain⟨hat,e⟩:=lY e
 have x:=x hat
 split at e
 ·cases e
 ·rename_i hl;obtain⟨_,s2⟩:=mu hl;exact uk x e hq m #[] ρ0 a w0 hll (fun y hy _=>let ⟨h3,e1,e2⟩:=s2 y hy;⟨h3,e1,u5 x.aB (e2.resolve_right (by simp))⟩) inv
 ·rename_i sp f1 h1 hl;obtain⟨s1,s2⟩:=mu hl;obtain⟨hc,e⟩:=lY e;rw[Bool.and_eq_true,Bool.and_eq_true,Bool.and_eq_true]at hc;obtain⟨⟨⟨_,c2⟩,c2'⟩,c3⟩:=hc;obtain⟨p1,p2⟩:=s1 _ (List.mem_singleton.2 rfl);have x1:Ce P E B F n rd nt (eD fr0 f1 (List.range nt)) M ρ0 h0 w0 body W ops t b Qr:={ x with
   ht:=by rw[htM];exact xq c2'
   aB:=fun t v hv=>List.mem_range.1 (l7 hv).2 }
  have c2e:h1.b.get M.m=h0.b.get M.m:=(xf c2).1.resolve_right fun h=>by rw[inv.hm]at h;rcases h with h|⟨_,h⟩|⟨_,_,_,h⟩<;>cases h
  refine AT x x1 e hq p2 p1 c2e (fun y hy hyy=>wm oH y hy _ p1 hyy) (fun y hy hne=>?_) (fun y hy hne=>?_) m #[] ρ0 a w0 hll (by simp) inv
  ·have:=List.all_eq_true.1 c3 y hy;rw[Bool.or_eq_true]at this;rcases this with h|h;·exact absurd (Nat.eq_of_beq_eq_true h) hne
   ·split at h;·rename_i p hp;exact⟨p,hp,u5 x1.aB h⟩
    ·cases h
  ·obtain⟨h3,e1,e2⟩:=s2 y hy;refine⟨h3,e1,u5 x.aB (e2.resolve_right fun hmem=>hne ?_)⟩;have:=List.mem_singleton.1 hmem;rw[show y=sp from (Prod.mk.inj this).1]
 ·cases e
theorem wF {s:Nat}:∀ {es:List (Value×Value×Nat)}{e:Value×Value×Nat},yJ s es=some e→e∈es∧e.2.2=s
 | [],_,h=>by cases h
 | x::es,e,h=>by
   simp only[yJ]at h;cases hc:Nat.beq x.2.2 s with
   | true=>rw[hc]at h;cases h;exact⟨List.mem_cons_self,Nat.eq_of_beq_eq_true hc⟩
   | false=>rw[hc]at h;have:=wF h;exact⟨List.mem_cons_of_mem _ this.1,this.2⟩
theorem FM {sp:Option Nat}(x:atR M fr0=true→Ce P E B F n rd nt fr0 M ρ0 h0 w0 body W ops t b Qr) (htM:t=M.t) (oH:nodupB (M.es.map (·.2.2))=true) (e:lF body nt M sp fr0 h0=some (ex,fr',h')) (hq:∀ a' w',gw B P E ρ0 h0 w0 nt fr' h' a' w'→Q (toExit ex) a' w')
  {a:Act}(inv:xN P E B F rd nt fr0 M ρ0 h0 w0 rb cr mb h0 #[] ρ0 a w0) {m:Nat}(hm:M.es.length<m):gY F n P b Q m a w0:=by
 have hll:zy M #[]<m:=Nat.lt_of_le_of_lt (List.length_filter_le _ _) hm
 unfold lF at e
 split at e
 ·rename_i hc;have x:=x hc.1;have hall:=hc.2;split at e;·exact uk x e hq m #[] ρ0 a w0 hll (fun y hy _=>hall y hy (by simp)) inv
  ·rename_i s;split at e;·cases e
   ·rename_i sp' hf;obtain⟨p1,rfl⟩:=wF hf;split at e;·cases e
    ·rename_i f1 h1 p2;split at e
     ·rename_i hc2;obtain⟨_,c2,c2',c3⟩:=hc2;have x1:Ce P E B F n rd nt (eD fr0 f1 (List.range nt)) M ρ0 h0 w0 body W ops t b Qr:={ x with
       ht:=by rw[htM];exact xq c2'
       aB:=fun t v hv=>List.mem_range.1 (l7 hv).2 }
      exact AT x x1 e hq p2 p1 c2 (fun y hy hyy=>wm oH y hy _ p1 hyy) (fun y hy hne=>c3 y hy fun h=>hne (Option.some.inj h).symm) (fun y hy hne=>hall y hy fun h=>hne (Option.some.inj h).symm) m #[] ρ0 a w0 hll (by simp) inv
     ·cases e
 ·cases e
end
section
variable {P:Program}{E:Env}
section
variable {call:Fn→List Value→Heap→Option (Value×Heap)}{nt:Nat}
def mE (P:Program) (E:Env) (call:Fn→List Value→Heap→Option (Value×Heap)):Prop :=
 ∀ f args h v h',call (.func f) args h=some (v,h')→E.ext f args h=none→∀ (ρ:Ren) (w:World) (args':Array Value),HR P ρ h w→GR E ρ→dp ρ args args'.toList →
   (callFunc f args').run P w=.ok (.enter f args') w∧Calls P f args' w (Bt P ρ h w v h')
theorem bV.UA {ρ:Ren}{h:Heap}{w:World}(hr:HR P ρ h w) (o:Obj):bV P ρ h w ρ h (w.alloc o) where
 le:=Ren.le_refl _
 hr:={
  gT:=fun i b c e=>by have:=hr.gT i b c e;exact⟨this.1,by simp;omega⟩
  ib:=fun i b c e=>by obtain⟨k,o',e1,e2,e3⟩:=hr.ib i b c e;have aB:=(hr.gT i b c e).2;refine⟨k,o',e1,?_,e3⟩;show (w.heap.push o)[b]?=_;rw[Array.getElem?_push,if_neg (by omega)];exact e2
  inj:=hr.inj }
 n:=Nat.le_refl _
 new i x e e0:=by rw[e]at e0;cases e0
 h_ _ _ _:=rfl
 os:=rfl
 tape:=rfl
 output:=rfl
 size:=by simp
 frame b hb _:=by show (w.heap.push o)[b]?=_;rw[Array.getElem?_push,if_neg (by omega)]
 uG i b c e _:=⟨i,c,e,.inl rfl⟩
 stays _ _ _ _:=rfl
theorem DR.mark {B:Nat}{ρ:Ren}{h:Heap}{w:World}{ds:List Deferred}(hr:HR P ρ h w) (hd:DR P B ρ w ds) (hB:B≤w.heap.size) :
  DR P B ρ (w.alloc (.deferred (some []))) ({ target:=.collected w.heap.size,args:=#[] }::ds):=by
 have hst:=hd.step (bV.UA hr (.deferred (some [])))
 refine⟨.cons (fun d hm D' e1 e2=>?_) hd.nd,fun d hm=>?_⟩
 ·rw[e2]at hm;rcases hd.each _ hm with ⟨D,e,_,hD,_⟩|⟨f,cap,args,e,_⟩;·have aB:=(Array.getElem?_eq_some_iff.1 hD).1;injection e with e3 _;injection e3 with e4;injection e1 with e5 _;injection e5 with e6;omega
  ·cases e
 ·rcases List.mem_cons.1 hm with rfl|hm;·exact .inl ⟨_,rfl,hB,World.alloc_heap_new _ _,fun i c e=>by have:=(hr.gT _ _ _ e).2;omega⟩
  ·exact hst.each d hm
theorem CD {ρ:Ren}{h:Heap}{w:World}{i l:Nat}{c:Nat}{fr fr':Fr}{ex:Ex}{h':Heap}(hr:HR P ρ h w) (hl:ρ i=some (l,c)) (e:nz h i fr=some (ex,fr',h')) :
   fr'=fr∧∃ jump w',(Instr.endLoop l).run P w=.ok jump w'∧bV P ρ h w ρ h' w' ∧
     ((jump=none∧ex=.normal)∨(jump=some .ret∧ex=.ret)∨∃ id,jump=some (.exit id)∧ex=.exit id):=by
 have aB:=(hr.gT _ _ _ hl).1
 obtain⟨k,o,k1,k2,k3⟩:=hr.ib _ _ _ hl
 unfold nz at e
 simp only[lD,blt_eq,aB,decide_true,cond_true,k1]at e
 cases k3 with
 | loop fr0 r0 hfr0 =>
   have hsz:=(Array.getElem?_eq_some_iff.1 k2).1
   have fin:r0.state≠.busy→bV P ρ h w ρ (bX h i (.loop .exhausted r0.pending fr0 r0.tmps.size r0.params.toList r0.assign r0.body)) (w.putObj l (.loop { r0 with state:=.exhausted })):=fun _ =>
     bV.write hr hl k1 (by simp[soft]) (BR.loop (P:=P) (c:=c) fr0 { r0 with state:=.exhausted } hfr0) (by simp) (World.putObj_heap_same hsz) (fun j hj=>World.putObj_heap_other hj) rfl rfl rfl
   have run:=fun hb=>run_endLoop (P:=P) k2 hb
   obtain⟨st,mJ,fnn,tmps,prms,asg,bdy,dfs⟩:=r0
   simp only at e fin run
   cases st with
   | busy=>cases e
   | _ =>
     have fin:=fin (by simp)
     have run:=run (by simp)
     cases mJ with
     | none =>
       simp only[Option.some.injEq,Prod.mk.injEq]at e
       obtain⟨rfl,rfl,rfl⟩:=e
       exact⟨rfl,_,_,run,fin,.inl ⟨rfl,rfl⟩⟩
     | some p =>
       cases p with
       | ret =>
         simp only[Option.some.injEq,Prod.mk.injEq]at e
         obtain⟨rfl,rfl,rfl⟩:=e
         exact⟨rfl,_,_,run,fin,.inr (.inl ⟨rfl,rfl⟩)⟩
       | exit id =>
         simp only[Option.some.injEq,Prod.mk.injEq]at e
         obtain⟨rfl,rfl,rfl⟩:=e
         exact⟨rfl,_,_,run,fin,.inr (.inr ⟨id,rfl,rfl⟩)⟩
       | _=>cases e
 | _=>simp at e
theorem Dl {B:Nat}{F:Fence}{n:Nat}{rd:Option Nat}{b:Code}(ih0:yu P E B F rd nt (code E call nt rd b) (fun Q a w=>b.wpIn F n P Q a w)) (ρ:Ren) (h:Heap) (w:World) (fr:Fr) (a:Act) (ex:Ex) (fr':Fr) (h':Heap) (Q:Exit→Act→World→Prop)
 (hf:FR E ρ fr a) (hr:HR P ρ h w) (hnt:a.tmps.size=nt) (hd:DR P B ρ w a.defers) (hrd:Sy F ρ rd) (hB:B≤w.heap.size) (e:iter (code E call nt rd b) 1000000 fr h=some (ex,fr',h'))
 (hq:∀ a' w',gw B P E ρ h w nt fr' h' a' w'→Q (toExit ex) a' w'):(Code.loop b).wpIn F n P Q a w:=by
 refine l8 1000000 ?_
 generalize 1000000=m at e ⊢
 induction m generalizing ρ h w fr a with
 | zero=>simp[iter]at e
 | succ m ih =>
   simp only[iter]at e
   show b.wpIn F n P (Exit.then (gY F n P b Q m) Q) a w
   split at e
   · rename_i f1 h1 e1;refine ih0 ρ h w fr a _ f1 h1 _ hf hr hnt hd hrd hB e1 fun a1 w1 hA=>?_;obtain⟨ρ1,hf1,hs,hnt1,hd1⟩:=hA;exact ih ρ1 h1 w1 f1 a1 hf1 hs.hr hnt1 hd1 (hrd.mono hs.le) (Nat.le_trans hB hs.size) (fun a2 w2 hA=>hq a2 w2 (hA.trans hs)) e
   · rename_i hno;refine ih0 ρ h w fr a ex fr' h' _ hf hr hnt hd hrd hB e fun a1 w1 hA=>?_;cases ex with
     | normal=>exact absurd e (hno _ _)
     | exit id=>exact hq a1 w1 hA
     | ret=>exact hq a1 w1 hA
theorem DJ {sp:Option (Option Nat)}(hE:aH P E) {B:Nat}{F:Fence}{n:Nat}(hF:yp F) {rd:Option Nat}(hc:dZ P E call) {id:Nat}{ops:Array Oper}{rest:Code}(ihr:yu P E B F rd nt (code E call nt rd rest) (fun Q a w=>rest.wpIn F n P Q a w)) {M:du}{ρ:Ren}{h:Heap}{w:World}{fr:Fr}{a:Act}{ex:Ex}{fr':Fr}{h':Heap}{Q:Exit→Act→World→Prop}
   (hf:FR E ρ fr a) (hr:HR P ρ h w) (hnt:a.tmps.size=nt) (hd:DR P B ρ w a.defers) (hrd:Sy F ρ rd) (hB:B≤w.heap.size) {D:List Nat}(hM:gG E ops.toList fr h=some M)
   (e:(match sp with|none=>pP (fun fr h=>match cu E call nt ops.toList M.tail fr h with|some (fr,h)=>code E call nt rd rest fr h|none=>none) nt M (dH D fr (List.range nt)) h|some sp=>lF (fun fr h=>match cu E call nt ops.toList M.tail fr h with|some (fr,h)=>code E call nt rd rest fr h|none=>none) nt M sp (dH D fr (List.range nt)) h)=some (ex,fr',h'))
   (hq:∀ a' w',gw B P E ρ h w nt fr' h' a' w'→Q (toExit ex) a' w'):(Code.loop (.seq (.region id ops false) rest)).wpIn F n P Q a w:=by
 obtain⟨m1,⟨m2,m3⟩,m4,m5,m6,m7,m8,m9,m10,m11,m12⟩:=zL hM
 refine l8 1000000 ?_
 have hfr0:FR E ρ (dH D fr (List.range nt)) a:=⟨hf.wx,fun t v hv=>hf.tmp t v (eZ hv).1⟩
 have aB:∀ t v,(dH D fr (List.range nt)).get t=some v→t<nt:=fun t v hv=>List.mem_range.1 (eZ hv).2
 have rp:=hf.tmp M.t _ m3
 have hit:∃ rb cr,ρ M.r=some (rb,cr):=by
   generalize a.tmps.getD M.t undef=u at rp;cases rp with
   | ptr _ hi=>exact⟨_,_,hi⟩
 obtain⟨rb,cr,hit⟩:=hit
 obtain⟨k,o,k1,k2,k3⟩:=hr.ib _ _ _ hit
 rw[m5]at k1
 cases k1
 cases k3 with
 | @dY _ mb cm hmp _ _ _ =>
   have hsoft:¬Ev.soft (h.b.get M.r):=by rw[m5];simp[soft]
   have ni:yu P E B F rd nt (fun fr h=>match cu E call nt ops.toList M.tail fr h with|some (fr,h)=>code E call nt rd rest fr h|none=>none)
       (fun Q a w=>wpOpsIn F n P ops (Exit.then (fun a w=>rest.wpIn F n P Q a w) Q) (List.range' 1 M.tail.length) a w):=by
     intro ρ h w fr a ex fr' h' Q hf hr hnt hd hrd hB e hq
     simp only at e
     split at e
     · rename_i f1 h1 e1;refine wU hE hF hc (Q:=Exit.then (fun a w=>rest.wpIn F n P Q a w) Q) M.tail 1 ρ fr f1 a h h1 w (fun i=>?_) hf hr hnt hd e1 fun a1 w1 hA=>?_;· rw[← Array.getElem?_toList,m1,Nat.add_comm,List.getElem?_cons_succ]
       · obtain⟨ρ1,hf1,hs,hnt1,hd1⟩:=hA;exact ihr ρ1 h1 w1 f1 a1 ex fr' h' Q hf1 hs.hr hnt1 hd1 (hrd.mono hs.le) (Nat.le_trans hB hs.size) e fun a2 w2 hA=>hq a2 w2 (hA.trans hs)
     · cases e
   have x:atR M (dH D fr (List.range nt))=true→Ce P E B F n rd nt (dH D fr (List.range nt)) M ρ h w _ _ ops M.t (.seq (.region id ops false) rest) (fun Q=>Exit.then (fun a w=>rest.wpIn F n P Q a w) Q):=fun hat =>
     { hF:=hF,ni:=ni,hi:=by rw[← Array.getElem?_toList,m1];rfl,kR:=m2,SZ:=m4,ht:=xq hat,By:=m9,hB:=hB,XY:=m11,Jb:=⟨_,hit⟩,oH:=hsoft,aB:=aB,
       hb:=fun Q a w h=>by
         refine wpIn_seq (wpIn_region ?_);have hsz:ops.size=M.tail.length+1:=by rw[← Array.length_toList,m1];rfl
         rw[List.range_eq_range',hsz,List.range'_succ,wpOpsIn_cons];exact h }
   suffices inv:xN P E B F rd nt (dH D fr (List.range nt)) M ρ h w rb cr mb h #[] ρ a w by
     cases sp with
     | none=>exact Ey x rfl m10 e hq (rb:=rb) (cr:=cr) (mb:=mb) inv (by omega)
     | some sp=>exact FM x rfl m10 e hq (rb:=rb) (cr:=cr) (mb:=mb) inv (by omega)
   obtain⟨i,b',c',es',hmi,_,_,e1',_,_⟩:=eU hr m6 (.map hmp)
   cases hmi
   refine⟨hfr0,bV.kill hr hit hsoft,hnt,hd,hrd,hit,k2,⟨_,hmp⟩,e1',fun i c e hi=>?_⟩
   rcases hr.inj i M.r rb c cr e hit hi with e'|e'
   · exact e'
   · rw[m5]at e';cases e'
theorem fi (hE:aH P E) {B:Nat}{F:Fence}{n:Nat}(hF:yp F) (rd:Option Nat) (hc:dZ P E call) (hcs:mE P E call):∀ (N:Nat) (c:Code),SizeOf.sizeOf c≤N→∀ (ρ:Ren) (h:Heap) (w:World) (fr:Fr) (a:Act) (ex:Ex) (fr':Fr) (h':Heap) (Q:Exit→Act→World→Prop),
   FR E ρ fr a→HR P ρ h w→a.tmps.size=nt→DR P B ρ w a.defers→Sy F ρ rd→B≤w.heap.size→code E call nt rd c fr h=some (ex,fr',h') →
   (∀ a' w',gw B P E ρ h w nt fr' h' a' w'→Q (toExit ex) a' w')→c.wpIn F n P Q a w
 | 0,c,hN,_,_,_,_,_,_,_,_,_,_,_,_,_,_,_,_,_=>absurd hN (by cases c<;>simp)
 | N+1,.skip,hN,ρ,h,w,fr,a,ex,fr',h',Q,hf,hr,hnt,hd,hrd,hB,e,hq=>by simp only[code,Option.some.injEq,Prod.mk.injEq]at e;obtain⟨rfl,rfl,rfl⟩:=e;exact wpIn_skip (hq a w ⟨ρ,hf,bV.refl hr,hnt,hd⟩)
 | N+1,.label _,hN,ρ,h,w,fr,a,ex,fr',h',Q,hf,hr,hnt,hd,hrd,hB,e,hq=>by simp only[code,Option.some.injEq,Prod.mk.injEq]at e;obtain⟨rfl,rfl,rfl⟩:=e;exact wpIn_label (hq a w ⟨ρ,hf,bV.refl hr,hnt,hd⟩)
 | N+1,.exit id,hN,ρ,h,w,fr,a,ex,fr',h',Q,hf,hr,hnt,hd,hrd,hB,e,hq=>by simp only[code,Option.some.injEq,Prod.mk.injEq]at e;obtain⟨rfl,rfl,rfl⟩:=e;exact wpIn_exit (hq a w ⟨ρ,hf,bV.refl hr,hnt,hd⟩)
 | N+1,.ret,hN,ρ,h,w,fr,a,ex,fr',h',Q,hf,hr,hnt,hd,hrd,hB,e,hq=>by simp only[code,Option.some.injEq,Prod.mk.injEq]at e;obtain⟨rfl,rfl,rfl⟩:=e;exact wpIn_ret (hq a w ⟨ρ,hf,bV.refl hr,hnt,hd⟩)
 | N+1,.region id ops false,hN,ρ,h,w,fr,a,ex,fr',h',Q,hf,hr,hnt,hd,hrd,hB,e,hq=>by
   simp only[code]at e;cases hdf:ops.toList.any fc with
   | true =>
     rw[hdf]at e
     cases rd with
     | some l=>cases e
     | none =>
       simp only[Option.isNone_none,cond_true,Option.map_eq_some_iff,Prod.mk.injEq]at e
       obtain⟨⟨f1,h1⟩,e,rfl,rfl,rfl⟩:=e
       refine wpIn_region ?_
       have:=xY (n:=n) hE hF hrd (Q:=Q) ops.toList 0 ρ fr f1 a h h1 w (fun i=>by simp) hf hr hnt hd e hq
       rw[List.range_eq_range']
       simpa using this
   | false =>
   rw[hdf]at e;simp only[cond_false,Option.map_eq_some_iff,Prod.mk.injEq]at e;obtain⟨⟨f1,h1⟩,e,rfl,rfl,rfl⟩:=e;refine wpIn_region ?_;have:=wU (n:=n) hE hF hc (Q:=Q) ops.toList 0 ρ fr f1 a h h1 w (fun i=>by simp) hf hr hnt hd e hq;rw[List.range_eq_range'];simpa using this
 | N+1,.region id ops true,hN,ρ,h,w,fr,a,ex,fr',h',Q,hf,hr,hnt,hd,hrd,hB,e,hq=>by
   simp only[code]at e;split at e;· rename_i pl hpl;simp only[Option.map_eq_some_iff,Prod.mk.injEq]at e;obtain⟨⟨f1,h1⟩,e,rfl,rfl,rfl⟩:=e;exact DW hE hF hc hpl e hf hr hnt hd hq
   · split at e
     · rename_i q A Z hplI;split at e
       · rename_i f0 h0 hrq;cases hall:nY E ops.toList f0 h0 A with
         | false=>rw[hall]at e;cases e
         | true =>rw[hall]at e;simp only[cond_true,Option.map_eq_some_iff,Prod.mk.injEq]at e;obtain⟨⟨f1,h1⟩,e,rfl,rfl,rfl⟩:=e;exact Bw hE hF hc hplI hrq hall e hf hr hnt hd hq
       · cases e
     · cases e
 | N+1,.seq x y,hN,ρ,h,w,fr,a,ex,fr',h',Q,hf,hr,hnt,hd,hrd,hB,e,hq=>by
   simp only[code]at e;refine wpIn_seq ?_;split at e;· rename_i f1 h1 e1;refine fi hE hF rd hc hcs N x (by simp at hN;omega) ρ h w fr a _ f1 h1 _ hf hr hnt hd hrd hB e1 fun a1 w1 hA=>?_;obtain⟨ρ1,hf1,hs,hnt1,hd1⟩:=hA;exact fi hE hF rd hc hcs N y (by simp at hN;omega) ρ1 h1 w1 f1 a1 ex fr' h' Q hf1 hs.hr hnt1 hd1 (hrd.mono hs.le) (Nat.le_trans hB hs.size) e fun a2 w2 hA=>hq a2 w2 (hA.trans hs)
   · rename_i hno;refine fi hE hF rd hc hcs N x (by simp at hN;omega) ρ h w fr a ex fr' h' _ hf hr hnt hd hrd hB e fun a1 w1 hA=>?_;cases ex with
     | normal=>exact absurd e (hno _ _)
     | exit id=>exact hq a1 w1 hA
     | ret=>exact hq a1 w1 hA
 | N+1,.cond c x y,hN,ρ,h,w,fr,a,ex,fr',h',Q,hf,hr,hnt,hd,hrd,hB,e,hq=>by
   simp only[code]at e;split at e;· rename_i hc';have r:=aP hf hc';generalize hce:a.eval c=u at r;cases r;exact wpIn_cond_true hce (fi hE hF rd hc hcs N x (by simp at hN;omega) ρ h w fr a ex fr' h' Q hf hr hnt hd hrd hB e hq)
   · rename_i hc';have r:=aP hf hc';generalize hce:a.eval c=u at r;cases r;exact wpIn_cond_false hce (fi hE hF rd hc hcs N y (by simp at hN;omega) ρ h w fr a ex fr' h' Q hf hr hnt hd hrd hB e hq)
   · cases e
 | N+1,.block id b,hN,ρ,h,w,fr,a,ex,fr',h',Q,hf,hr,hnt,hd,hrd,hB,e,hq=>by
   simp only[code]at e;refine wpIn_block ?_;split at e
   · rename_i j f1 h1 e1;simp only[Option.some.injEq,Prod.mk.injEq]at e;obtain⟨rfl,rfl,rfl⟩:=e;refine fi hE hF rd hc hcs N b (by simp at hN;omega) ρ h w fr a _ f1 h1 _ hf hr hnt hd hrd hB e1 fun a1 w1 hA=>?_;have:=hq a1 w1 hA;show Exit.inBlock id Q (.exit j) a1 w1;simp only[Exit.inBlock];rw[aD]at this;by_cases hj:j=id;· rw[if_pos hj]at this ⊢;exact this
     · rw[if_neg hj]at this ⊢;exact this
   · rename_i hno;refine fi hE hF rd hc hcs N b (by simp at hN;omega) ρ h w fr a ex fr' h' _ hf hr hnt hd hrd hB e fun a1 w1 hA=>?_;cases ex with
     | normal=>exact hq a1 w1 hA
     | exit id=>exact absurd e (hno _ _ _)
     | ret=>exact hq a1 w1 hA
 | N+1,.loop b,hN,ρ,h,w,fr,a,ex,fr',h',Q,hf,hr,hnt,hd,hrd,hB,e,hq=>by
   have ih0:yu P E B F rd nt (code E call nt rd b) (fun Q a w=>b.wpIn F n P Q a w):=fun ρ h w fr a ex fr' h' Q hf hr hnt hd hrd hB e hq=>fi hE hF rd hc hcs N b (by simp at hN;omega) ρ h w fr a ex fr' h' Q hf hr hnt hd hrd hB e hq;by_cases hb:∃ id ops rest,b=.seq (.region id ops false) rest
   · obtain⟨id,ops,rest,rfl⟩:=hb;simp only[code]at e;split at e;· exact Dl ih0 ρ h w fr a ex fr' h' Q hf hr hnt hd hrd hB e hq
     · rename_i M hM;exact DJ hE hF hc (fun ρ h w fr a ex fr' h' Q hf hr hnt hd hrd hB e hq=>fi hE hF rd hc hcs N rest (by simp at hN;omega) ρ h w fr a ex fr' h' Q hf hr hnt hd hrd hB e hq) hf hr hnt hd hrd hB hM e hq
   · have e':code E call nt rd (.loop b) fr h=iter (code E call nt rd b) 1000000 fr h:=by
       cases b with
       | seq x y=>cases x with
         | region id ops dr=>cases dr with
           | true=>simp only[code]
           | false=>exact absurd ⟨_,_,_,rfl⟩ hb
         | _=>simp only[code]
       | _=>simp only[code]
     rw[e']at e;exact Dl ih0 ρ h w fr a ex fr' h' Q hf hr hnt hd hrd hB e hq
 | N+1,.scope b,hN,ρ,h,w,fr,a,ex,fr',h',Q,hf,hr,hnt,hd,hrd,hB,e,hq=>by simp only[code]at e;refine o9 (fi hE hF rd hc hcs N b (by simp at hN;omega) ρ h w fr a ex fr' h' _ hf hr hnt hd hrd hB e fun a1 w1 hA=>?_);have:=hq a1 w1 hA;cases ex<;>exact this
 | N+1,.rangeFunc g ps assign bd,hN,ρ,h,w,fr,a,ex,fr',h',Q,hf,hr,hnt,hd,hrd,hB,e,hq=>by
   subst hnt;simp only[code]at e;cases hin:inRound h rd with
   | false=>rw[hin]at e;cases e
   | true =>
     rw[hin]at e
     simp only[cond_true]at e
     split at e
     · rename_i f first cap hg
       split at e;· cases e
       · rename_i hext;split at e
         · rename_i v2 h2 hcall;refine wpIn_rangeFunc fun fn _=>?_;obtain⟨l,mark,w1,ρ1,henter,hst,hl,hdr⟩:∃ (l:Nat) (mark:List Deferred) (w1:World) (ρ1:Ren),(Instr.enterLoop fn a.tmps ps assign bd F.round).run P w=.ok (l,mark) w1 ∧
               bV P ρ h w ρ1 (af h (.loop .ready none fr a.tmps.size ps.toList assign bd)) w1∧ρ1 h.n=some (l,0)∧DR P B ρ1 w1 (mark++a.defers):=by
             cases rd with
             | none =>
               have hrd:F.round=none:=hrd
               rw[hrd]
               have h0:=bV.UA hr (.deferred (some []))
               have hdm:=DR.mark hr hd hB
               have h1:=bV.alloc (c:=0) h0.hr (BR.loop (P:=P) (c:=0) fr { state:=.ready,pending:=none,fn,tmps:=a.tmps,params:=ps,assign,body:=bd,defers:=w.heap.size } hf.tmp)
                 (w':=(w.alloc (.deferred (some []))).alloc (.loop { state:=.ready,pending:=none,fn,tmps:=a.tmps,params:=ps,assign,body:=bd,defers:=w.heap.size })) rfl rfl rfl rfl
               refine⟨_,_,_,_,run_enterLoop_outer fn a.tmps ps assign bd,h0.trans h1,by rw[Ren.bh];simp,hdm.step h1⟩
             | some l0 =>
               obtain⟨b,c,e1,e2⟩:=hrd
               rw[e2]
               obtain⟨k,o,k1,k2,k3⟩:=hr.ib l0 b c e1
               have aB:=(hr.gT l0 b c e1).1
               simp only[inRound,lD,blt_eq,aB,decide_true,cond_true,k1]at hin
               cases k3 with
               | loop fr0 r0 _ =>
                 have h1:=bV.alloc (c:=0) hr (BR.loop (P:=P) (c:=0) fr { state:=.ready,pending:=none,fn,tmps:=a.tmps,params:=ps,assign,body:=bd,defers:=r0.defers } hf.tmp)
                   (w':=w.alloc (.loop { state:=.ready,pending:=none,fn,tmps:=a.tmps,params:=ps,assign,body:=bd,defers:=r0.defers })) rfl rfl rfl rfl
                 exact⟨_,_,_,_,run_enterLoop_inner k2 fn a.tmps ps assign bd,h1,by rw[Ren.bh],by simpa using hd.step h1⟩
               | _=>simp at hin
           have r:=aP hf hg;generalize hge:a.eval g=gv at r;cases r with
           | func _ _ _ first' cap' _ r1 r2 =>
             have rargs:dp ρ1 (first.toList++Value.func (.yield h.n) #[] #[]::cap.toList) (first'++#[Value.func (.yield l) #[] #[]]++cap').toList:=by simp only[Array.toList_append];have:=((r1.mono hst.le).append (.cons (.yield hl) .nil)).append (r2.mono hst.le);simpa using this
             obtain⟨hent,hcalls⟩:=hcs _ _ _ _ _ hcall hext ρ1 w1 _ hst.hr (GR.mono hf.wx hst.le) rargs
             refine⟨l,mark,w1,{ target:=.fn (.func f) cap',args:=first'++#[.func (.yield l) #[] #[]] },w1,f,first'++#[.func (.yield l) #[] #[]]++cap',w1,henter,?_,fun f' _=>hF.fn f',?_,fun hdep=>(by rw[hF.depth]at hdep;cases hdep),?_⟩
             · simp only[resolve,hge,Deferred.ofValue];simp[Act.eval]
             · exact hent
             refine CallsIn.mono (hF.calls (n-1) P f _ w1 _ hcalls) ?_
             intro en w3 hh
             · obtain⟨v',ρ2,rfl,_,hs2⟩:=hh;have hl2:=hs2.le _ _ hl;have hst2:=hst.trans hs2;obtain⟨rfl,jump,w4,hend,hs3,hj⟩:=CD hs2.hr hl2 e;have hall:=hst2.trans hs3;have haft:gw B P E ρ h w a.tmps.size fr' h' { a with defers:=mark++a.defers } w4 :=
                 ⟨ρ2,⟨GR.mono hf.wx hall.le,fun t v e=>(hf.tmp t v e).mono hall.le⟩,hall,rfl,(hdr.step hs2).step hs3⟩
               refine⟨jump,w4,hend,?_⟩;rcases hj with ⟨rfl,rfl⟩|⟨rfl,rfl⟩|⟨id,rfl,rfl⟩;· exact hq _ _ haft
               · exact wpIn_ret (hq _ _ haft)
               · exact wpIn_exit (hq _ _ haft)
         · cases e
     · cases e
 | N+1,.goto ..,hN,ρ,h,w,fr,a,ex,fr',h',Q,hf,hr,hnt,hd,hrd,hB,e,hq=>by simp[code]at e
 | N+1,.refuse ..,hN,ρ,h,w,fr,a,ex,fr',h',Q,hf,hr,hnt,hd,hrd,hB,e,hq=>by simp[code]at e
theorem vn (hE:aH P E) {B:Nat}{F:Fence}{n:Nat}(hF:yp F) (rd:Option Nat) (hc:dZ P E call) (hcs:mE P E call) (c:Code) (ρ:Ren) (h:Heap) (w:World) (fr:Fr) (a:Act) (ex:Ex) (fr':Fr) (h':Heap) (Q:Exit→Act→World→Prop)
  (hf:FR E ρ fr a) (hr:HR P ρ h w) (hnt:a.tmps.size=nt) (hd:DR P B ρ w a.defers) (hrd:Sy F ρ rd) (hB:B≤w.heap.size) (e:code E call nt rd c fr h=some (ex,fr',h'))
  (hq:∀ a' w',gw B P E ρ h w nt fr' h' a' w'→Q (toExit ex) a' w'):c.wpIn F n P Q a w :=
 fi hE hF rd hc hcs (SizeOf.sizeOf c) c (Nat.le_refl _) ρ h w fr a ex fr' h' Q hf hr hnt hd hrd hB e hq
theorem ik {α β:Type}{f:α→Option β}{x:α}{l:List α}{r:List β}(h:aA f (x::l)=some r):∃ y ys,f x=some y∧aA f l=some ys∧r=y::ys:=by
 simp only[aA]at h;split at h;·rename_i y ys h1 h2;cases h;exact⟨y,ys,h1,h2,rfl⟩
 ·cases h
def H6 (tmps:Array Value) (r:ResultVar):Sem Value :=
 match r with
 | .tmp t=>pure (tmps.getD t undef)
 | .cell b t=>do loadVar t (← asAddr (tmps.getD b undef))
theorem EZ (fn:Func) (tmps:Array Value):results fn tmps=((fn.results.mapM (H6 tmps)) >>= fun vs=>pure (if h:vs.size=1 then vs[0] else .tuple vs)):=by
 have:(H6 tmps)=(fun|.tmp t=>pure (tmps.getD t undef)|.cell a t=>do loadVar t (← asAddr (tmps.getD a undef)):ResultVar→Sem Value):=by funext r;cases r<;>rfl
 rw[this];rfl
theorem SD (hE:aH P E) {ρ:Ren}{h:Heap}{w:World}{fr:Fr}{a:Act}(hf:FR E ρ fr a) (hr:HR P ρ h w) {r:ResultVar}{v:Value}(e:ll E fr h r=some v) :
   ∃ v',(H6 a.tmps r).run P w=.ok v' w∧VR ρ v v':=by
 cases r with
 | tmp t =>
   simp only[ll]at e
   exact⟨a.eval (.tmp t),by simp[H6,Act.eval],aP hf e⟩
 | cell b t =>
   simp only[ll]at e
   split at e
   · rename_i x hx;have rx:=hf.tmp b x hx;obtain⟨v',hrun,r⟩:=vN hE hr e rx;refine⟨v',?_,r⟩;have hptr:∃ p,a.tmps.getD b undef=.pointer (some p):=by
       unfold loadAt at e;split at e
       · generalize a.tmps.getD b undef=u at rx;cases rx with
         | ptr off hh=>exact⟨_,rfl⟩
       · cases e
     obtain⟨p,hp⟩:=hptr;simp only[H6];rw[hp]at hrun ⊢;simpa[Instr.loadAt,Instr.sureAddr,asAddr]using hrun
   · cases e
theorem BD (hE:aH P E) {ρ:Ren}{h:Heap}{w:World}{fr:Fr}{a:Act}(hf:FR E ρ fr a) (hr:HR P ρ h w):∀ (rs:List ResultVar) (vs:List Value),aA (ll E fr h) rs=some vs →
   ∃ vs',(rs.mapM (H6 a.tmps)).run P w=.ok vs' w∧dp ρ vs vs'
 | [],vs,e=>by simp[aA]at e;subst e;exact⟨[],by simp,.nil⟩
 | r::rs,vs,e=>by obtain⟨y,ys,h1,h2,rfl⟩:=ik e;obtain⟨v',e1,r1⟩:=SD hE hf hr h1;obtain⟨vs',e2,r2⟩:=BD hE hf hr rs ys h2;refine⟨v'::vs',?_,.cons r1 r2⟩;rw[List.mapM_cons];simp only[Sem.run_bind,Sem.run_pure];rw[e1];simp only[Result.andThen_ok,e2]
def jc:List Value→Value
 | [v]=>v
 | vs=>.tuple vs.toArray
theorem CN (hE:aH P E) {ρ:Ren}{h:Heap}{w:World}{fr:Fr}{a:Act}(hf:FR E ρ fr a) (hr:HR P ρ h w) {fn:Func}{vs:List Value}(e:aA (ll E fr h) fn.results.toList=some vs) :
   ∃ v',(results fn a.tmps).run P w=.ok v' w∧VR ρ (jc vs) v':=by
 obtain⟨vs',e1,r⟩:=BD hE hf hr _ _ e
 have hm:(results fn a.tmps).run P w=.ok (if h:vs'.toArray.size=1 then vs'.toArray[0] else .tuple vs'.toArray) w:=by rw[EZ,Array.mapM_eq_mapM_toList];simp only[Sem.run_bind,Sem.run_map,Sem.run_pure];rw[e1];simp only[Result.andThen_ok]
 refine⟨_,hm,?_⟩
 cases r with
 | nil=>exact .tuple _ _ .nil
 | cons r1 r2 =>
   cases r2 with
   | nil=>exact r1
   | cons r3 r4 =>
     simp only[List.size_toArray,List.length_cons]
     rw[dif_neg (by omega)]
     exact .tuple _ _ (.cons r1 (.cons r3 r4))
end
theorem wj:∀ (l:List Value) (i:Nat) (fr:Fr) (t:Nat),(iE l i fr).get t=if i≤t∧t<i+l.length then l[t-i]? else fr.get t
 | [],i,fr,t=>by simp[iE];omega
 | v::l,i,fr,t=>by
   rw[iE,wj l];by_cases h:i=t;· subst h;rw[if_neg (by omega),if_pos (by simp),T.get_set_same];simp
   · by_cases h2:i+1≤t∧t<i+1+l.length;· rw[if_pos h2,if_pos (by simp;omega),show t-i=(t-(i+1))+1 by omega];simp
     · rw[if_neg h2,T.ar _ _ h,if_neg (by simp;omega)]
def cf (P:Program) (E:Env):Prop:=∀ f args h v h',E.ext f args h=some (some (v,h'))→∀ (ρ:Ren) (w:World) (args':Array Value),HR P ρ h w→GR E ρ→dp ρ args args'.toList→Oz P ρ h w (.func f) args' v h'
def eC (P:Program):Prop:=∀ (f:FuncId) (fn:Func),P.funcs[f]?=some fn→fn.body.isSome=true→fn.name≠ "runtime.NumGoroutine"
theorem dz {f:FuncId}{fn:Func}{c:Code}(hf:P.funcs[f]?=some fn) (hn:eC P) (hb:fn.body=some c) (args:Array Value) (w:World):(callFunc f args).run P w=.ok (.enter f args) w:=by have:=hn f fn hf (by rw[hb];rfl);simp[callFunc,hf,this,hb]
theorem bV.take {ρ ρ':Ren}{h h':Heap}{w w':World}(hs:bV P ρ h w ρ' h' w') {D:Nat}{o:Obj}(hB:w.heap.size≤D) (hi:∀ i c,ρ' i≠some (D,c)):bV P ρ h w ρ' h' (w'.putObj D o) where
 le:=hs.le
 hr:={
  gT:=fun i b c e=>by rw[World.putObj_size];exact hs.hr.gT i b c e
  ib:=fun i b c e=>by
   obtain⟨k,o',e1,e2,e3⟩:=hs.hr.ib i b c e;have hne:b≠D:=by intro hb;subst hb;exact hi i c e
   exact⟨k,o',e1,by rw[World.putObj_heap_other hne];exact e2,e3⟩
  inj:=hs.hr.inj }
 n:=hs.n
 new:=hs.new
 h_:=hs.h_
 os:=hs.os
 tape:=hs.tape
 output:=hs.output
 size:=by rw[World.putObj_size];exact hs.size
 frame b hb hn:=by
  have hne:b≠D:=by omega
  rw[World.putObj_heap_other hne];exact hs.frame b hb hn
 uG:=hs.uG
 stays:=hs.stays
theorem mO (hn:eC P) {fn:Func}{tmps:Array Value}{R:Ending→World→Prop}{ρ ρ':Ren}{h h':Heap}{w:World}
   (hlast:∀ w',bV P ρ h w ρ' h' w'→∃ v,(results fn tmps).run P w'=.ok v w'∧R (.returned v) w') :
   ∀ (ds:List Deferred) (w':World),bV P ρ h w ρ' h' w'→DR P w.heap.size ρ' w' ds→LeavesInM Fence.wide 0 P fn tmps R ds .returning w'
 | [],w',hs,_=>hlast w' hs
 | d::ds,w',hs,hd=>by
   have oH:=List.pairwise_cons.1 hd.nd;rcases hd.each d (List.mem_cons_self ..) with ⟨D,rfl,hB,hD,hi⟩|⟨f,cap,args,rfl,hh⟩
   · refine⟨by simp,.inl ⟨D,_,rfl,run_takeDeferred hD,?_⟩⟩;refine mO hn hlast ds _ (hs.take hB hi) ⟨oH.2,fun d hm=>?_⟩;rcases hd.each d (List.mem_cons_of_mem _ hm) with ⟨D',e,hB',hD',hi'⟩|hh
     · have hne:D'≠D:=by intro hx;subst hx;exact oH.1 d hm _ rfl e
       exact .inl ⟨D',e,hB',by rw[World.putObj_heap_other hne];exact hD',hi'⟩
     · exact .inr hh
   · refine⟨by simp,.inr ⟨fun hx=>(by cases hx),.func f,cap,f,args++cap,rfl,?_,fun _ _=>trivial,?_⟩⟩;· obtain⟨fn',c,h1,h2⟩:=hh.1;exact dz h1 hn h2 _ w'
     · refine(hh.2 (args++cap) w').mono ?_;rintro e u w2 ⟨⟨v,rfl⟩,rfl,rfl⟩;exact mO hn hlast ds w2 hs ⟨oH.2,fun d hm=>hd.each d (List.mem_cons_of_mem _ hm)⟩
theorem zi {ρ:Ren}{nt:Nat}:∀ (ps:List Nat) (vs:List Value) (vs':List Value) (fr fr1:Fr) (tmps:Array Value),vR nt ps vs fr=some fr1→dp ρ vs vs'→tmps.size=nt →
   (∀ t v,fr.get t=some v→VR ρ v (tmps.getD t undef)) →
   vs'.length=ps.length∧((ps.zip vs').foldl (fun (tmps:Array Value) (x:Nat×Value)=>tmps.setIfInBounds x.1 x.2) tmps).size=nt∧∀ t v,fr1.get t=some v→VR ρ v (((ps.zip vs').foldl (fun (tmps:Array Value) (x:Nat×Value)=>tmps.setIfInBounds x.1 x.2) tmps).getD t undef)
 | [],[],vs',fr,fr1,tmps,e,r,hnt,hf=>by cases r;simp only[vR,Option.some.injEq]at e;subst e;exact⟨rfl,hnt,hf⟩
 | t::ps,v::vs,vs',fr,fr1,tmps,e,r,hnt,hf=>by
   cases r with
   | @cons _ v' _ l' hv hl =>
     simp only[vR,blt_eq]at e
     by_cases aB:t<nt
     · simp only[aB,decide_true,cond_true]at e;have:=zi ps vs l' (fr.set t v) fr1 (tmps.setIfInBounds t v') e hl (by simpa using hnt) (fun u x hx=>by
         have:=CM (a:={ tmps:=tmps,defers:=[] }) (d:=t) (v:=v') (by rw[hnt];exact aB) u;simp only[Act.put]at this;rw[T.ah]at hx;rw[this];by_cases h:t=u;· rw[if_pos h]at hx ⊢;cases hx;exact hv
         · rw[if_neg h]at hx ⊢;exact hf u x hx)
       refine⟨by simp[this.1],?_⟩;simpa using this.2
     · simp[aB]at e
 | [],_::_,_,_,_,_,e,_,_,_=>by simp[vR]at e
 | _::_,[],_,_,_,_,e,_,_,_=>by simp[vR]at e
theorem AS {ρ:Ren}{h:Heap}{w:World}{i l c:Nat}{ex:Ex}{v:Value}{h':Heap}(hr:HR P ρ h w) (hl:ρ i=some (l,c)) (e:sO h i ex=some (v,h')) :
   ∃ j:Option Code,(match ex with|.normal=>j=none|.exit id=>j=some (.exit id)|.ret=>j=some .ret)∧∃ w',(Instr.endRound l j).run P w=.ok v w'∧VR ρ v v∧bV P ρ h w ρ h' w':=by
 have aB:=(hr.gT _ _ _ hl).1
 obtain⟨k,o,k1,k2,k3⟩:=hr.ib _ _ _ hl
 unfold sO at e
 simp only[lD,blt_eq,aB,decide_true,cond_true,k1]at e
 cases k3 with
 | loop fr0 r0 hfr0 =>
   have hsz:=(Array.getElem?_eq_some_iff.1 k2).1
   obtain⟨st,mJ,fnn,tmps,prms,asg,bdy,dfs⟩:=r0
   have fin:∀ (st':LoopState) (p':Option Code),bV P ρ h w ρ (bX h i (.loop st' p' fr0 tmps.size prms.toList asg bdy)) (w.putObj l (.loop { state:=st',pending:=p',fn:=fnn,tmps,params:=prms,assign:=asg,body:=bdy,defers:=dfs })):=fun st' p' =>
     bV.write hr hl k1 (by simp[soft]) (BR.loop (P:=P) (c:=c) fr0 { state:=st',pending:=p',fn:=fnn,tmps,params:=prms,assign:=asg,body:=bdy,defers:=dfs } hfr0) (by simp) (World.putObj_heap_same hsz) (fun j hj=>World.putObj_heap_other hj) rfl rfl rfl
   simp only at e
   cases st with
   | busy =>
     cases mJ with
     | none =>
       simp only at e
       cases ex with
       | normal =>
         simp only[Option.some.injEq,Prod.mk.injEq]at e
         obtain⟨rfl,rfl⟩:=e
         exact⟨none,rfl,_,run_endRound none k2,.bool _,fin .ready none⟩
       | exit id =>
         simp only[Option.some.injEq,Prod.mk.injEq]at e
         obtain⟨rfl,rfl⟩:=e
         exact⟨some (.exit id),rfl,_,run_endRound _ k2,.bool _,fin .done _⟩
       | ret =>
         simp only[Option.some.injEq,Prod.mk.injEq]at e
         obtain⟨rfl,rfl⟩:=e
         exact⟨some .ret,rfl,_,run_endRound _ k2,.bool _,fin .done _⟩
     | some p=>cases e
   | _=>cases e
 | _=>simp at e
theorem wP {ρ:Ren}{h:Heap}{w:World}{i l c:Nat}{h':Heap}(hr:HR P ρ h w) (hl:ρ i=some (l,c)) (e:oE h i=some h') :
   ∃ w',(Instr.beginRound l).run P w=.ok () w'∧bV P ρ h w ρ h' w':=by
 have aB:=(hr.gT _ _ _ hl).1
 obtain⟨k,o,k1,k2,k3⟩:=hr.ib _ _ _ hl
 unfold oE at e
 simp only[lD,blt_eq,aB,decide_true,cond_true,k1]at e
 cases k3 with
 | loop fr0 r0 hfr0 =>
   have hsz:=(Array.getElem?_eq_some_iff.1 k2).1
   obtain⟨st,mJ,fnn,tmps,prms,asg,bdy,dfs⟩:=r0
   simp only at e
   cases st with
   | ready =>
     cases mJ with
     | none =>
       simp only[Option.some.injEq]at e
       subst e
       exact⟨_,run_beginRound k2 rfl,bV.write hr hl k1 (by simp[soft]) (BR.loop (P:=P) (c:=c) fr0 { state:=.busy,pending:=none,fn:=fnn,tmps,params:=prms,assign:=asg,body:=bdy,defers:=dfs } hfr0) (by simp) (World.putObj_heap_same hsz) (fun j hj=>World.putObj_heap_other hj) rfl rfl rfl⟩
     | some p=>cases e
   | _=>cases e
 | _=>simp at e
theorem xk (hE:aH P E) (hx:cf P E) (hn:eC P):∀ d,dZ P E (dj E d)∧mE P E (dj E d)
 | 0=>⟨fun fn args h v h' e=>by simp[dj]at e,fun f args h v h' e=>by simp[dj]at e⟩
 | d+1=>by
   have ih:=xk hE hx hn d;have hent:mE P E (dj E (d+1)):=fun f args h v h' e hext ρ w args' hr hg ra=>by
     rw[dj,hext]at e;simp only at e;split at e;· cases e
     · rename_i fn hfn;have hfn:=hE.nK f fn hfn;split at e;· cases e
       · rename_i b hb;refine⟨dz hfn hn hb args' w,?_⟩;have hlen:=ra.length;have hnt:(args'++Array.replicate (fn.ntmps-args'.size) undef).size=max fn.ntmps args.length:=by simp only[Array.length_toList]at hlen;simp;omega
         have hfr:FR E ρ (iE args 0 .leaf) { tmps:=args'++Array.replicate (fn.ntmps-args'.size) undef,defers:=[] }:=by
           refine⟨hg,fun t x hx=>?_⟩;simp only[Array.length_toList]at hlen;rw[wj]at hx;simp only[Nat.zero_le,true_and,Nat.zero_add,Nat.sub_zero,T.fL]at hx;simp only[Array.getD_eq_getD_getElem?,Array.getElem?_append];by_cases ht:t<args.length;· rw[if_pos ht]at hx;rw[if_pos (by omega)];obtain⟨v',e',r⟩:=ra.get t _ hx;rw[← Array.getElem?_toList,e'];exact r
           · rw[if_neg ht]at hx;cases hx
         split at e;· cases e
         · rename_i ex fr1 h1 hnx hcode;have fin:∀ vs,aA (ll E fr1 h1) fn.results.toList=some vs→jc vs=v→h1=h'→Calls P f args' w (Bt P ρ h w v h'):=fun vs hvs hv hh=>by
             subst hh;refine(callsIn_wide (n:=0)).1 (callsIn_of_wp_marks hfn hb trivial (vn hE (B:=w.heap.size) Tk none ih.1 ih.2 b ρ h w _ _ _ _ _ _ hfr hr hnt (DR.nil _ _ _ _) rfl (Nat.le_refl _) hcode fun a' w' hA=>?_));obtain⟨ρ',hf',hs,_,hd⟩:=hA;have last:LeavesInM Fence.wide 0 P fn a'.tmps (Bt P ρ h w v h1) a'.defers .returning w':=by refine mO hn (fun w2 hs2=>?_) a'.defers w' hs hd;obtain⟨v',hrun,r⟩:=CN hE (a:=a') hf' hs2.hr hvs;rw[hv]at r;exact⟨v',hrun,v',ρ',rfl,r,hs2⟩
             cases ex with
             | normal=>exact last
             | ret=>exact last
             | exit id=>exact absurd rfl (hnx id)
           split at e;· rename_i v1 hres;simp only[Option.some.injEq,Prod.mk.injEq]at e;exact fin _ hres e.1 e.2
           · rename_i vs hvs hres;simp only[Option.some.injEq,Prod.mk.injEq]at e;refine fin _ hres ?_ e.2;rw[← e.1];unfold jc;split;· exact absurd rfl (hvs _)
             · rfl
           · cases e
         · cases e
   refine⟨fun fn args h v h' e ρ w fn' args' hr hg rfn ra=>?_,hent⟩;cases rfn with
   | func f =>
     cases hext:E.ext f args h with
     | some r =>
       have e0:=e
       rw[dj,hext]at e0
       cases r with
       | none=>cases e0
       | some v2 =>
         simp only[Option.some.injEq]at e0
         subst e0
         exact hx f args h v h' hext ρ w args' hr hg ra
     | none =>
       obtain⟨h1,h2⟩:=hent f args h v h' e hext ρ w args' hr hg ra
       exact .inr (.inl ⟨f,args',h1,h2⟩)
   | @yield i b c hi =>
     rw[dj]at e
     split at e
     · rename_i fr nt ps assign body hblk;have aB:=(hr.gT _ _ _ hi).1;obtain⟨k,o,k1,k2,k3⟩:=hr.ib _ _ _ hi;simp only[lD,blt_eq,aB,decide_true,cond_true,k1,Option.some.injEq]at hblk;subst hblk;generalize hk:fa.loop .ready none fr nt ps assign body=k at k3;cases k3 with
       | loop fr0 r0 hfr0 =>
         obtain⟨st,mJ,fnn,tmps,prms,asg,bdy,dfs⟩:=r0;simp only[fa.loop.injEq]at hk;obtain⟨rfl,rfl,rfl,rfl,rfl,rfl,rfl⟩:=hk;split at e;· cases e
         · rename_i fr1 hps;split at e
           · rename_i fr2 h2 hasg;split at e;· cases e
             · rename_i h3 hbeg;split at e
               · rename_i ex fr4 h4 ni;obtain⟨p1,p2,p3⟩:=zi _ _ _ _ _ _ hps ra rfl hfr0;have hsz:args'.size=prms.size:=by simpa using p1
                 have hzip:((prms.zip args').foldl (fun (tmps:Array Value) (x:Tmp×Value)=>tmps.setIfInBounds x.1 x.2) tmps)=((prms.toList.zip args'.toList).foldl (fun (tmps:Array Value) (x:Nat×Value)=>tmps.setIfInBounds x.1 x.2) tmps):=by rw[← Array.foldl_toList,Array.toList_zip]
                 refine .inr (.inr ⟨b,fnn,_,_,_,run_yield k2 hsz,fun n=>?_⟩);refine roundIn_of_wpIn trivial ?_;have hfr:FR E ρ fr1 { tmps:=(prms.zip args').foldl (fun (tmps:Array Value) (x:Tmp×Value)=>tmps.setIfInBounds x.1 x.2) tmps,defers:=[] }:=⟨hg,fun t=>by rw[hzip];exact p3 t⟩;refine vn hE (B:=w.heap.size) (DC b) (some i) ih.1 ih.2 assign ρ h w fr1 _ .normal fr2 h2 _ hfr hr (by rw[hzip];exact p2) (DR.nil _ _ _ _) ⟨b,c,hi,rfl⟩ (Nat.le_refl _) hasg fun a1 w1 hA=>?_;obtain⟨ρ1,hf1,hs1,hnt1,hd1⟩:=hA;obtain⟨w2,hrun,hs2⟩:=wP hs1.hr (hs1.le _ _ hi) hbeg;refine⟨w2,hrun,?_⟩;refine vn hE (B:=w.heap.size) (DC b) (some i) ih.1 ih.2 body ρ1 h3 w2 fr2 _ ex fr4 h4 _ hf1 hs2.hr hnt1 (hd1.step hs2) ⟨b,c,hs1.le _ _ hi,rfl⟩ (Nat.le_trans hs1.size hs2.size) ni fun a3 w3 hA=>?_;obtain⟨ρ3,hf3,hs3,hnt3,hd3⟩:=hA;obtain⟨j,hj,w4,hrun4,r4,hs4⟩:=AS hs3.hr (hs3.le _ _ (hs1.le _ _ hi)) e;have all:=((hs1.trans hs2).trans hs3).trans hs4;cases ex with
                 | normal=>subst hj;exact⟨v,w4,hrun4,v,ρ3,rfl,r4,all⟩
                 | exit id=>subst hj;exact⟨v,w4,hrun4,v,ρ3,rfl,r4,all⟩
                 | ret=>subst hj;exact⟨v,w4,hrun4,v,ρ3,rfl,r4,all⟩
               · cases e
           · cases e
       | _=>cases hk
     · cases e
end
open Go.RowKit
section
variable {P:Program}{E:Env}
theorem lx (hE:aH P E) (hx:cf P E) (hn:eC P) {d:Nat}{f:FuncId}{args:List Value}{v:Value}{h h':Heap}(hext:E.ext f args h=none)
  (e:dj E d (.func f) args h=some (v,h')) {ρ:Ren}{w:World}{args':Array Value}(hr:HR P ρ h w) (hg:GR E ρ) (ra:dp ρ args args'.toList) :
  Calls P f args' w fun e w'=>∃ v' ρ',e=.returned v'∧VR ρ' v v'∧bV P ρ h w ρ' h' w' :=
 ((xk hE hx hn d).2 f args h v h' e hext ρ w args' hr hg ra).2
theorem bV.below {h h':Heap}{w w':World}{ρ ρ':Ren}(hs:bV P ρ h w ρ' h' w') (hi:∀ i x,ρ i=some x→Ev.soft (h.b.get i)):Below w.heap.size w w' :=
 ⟨hs.os,hs.tape,hs.output,hs.size,fun k hk=>hs.frame k hk fun i c e=>hi i _ e⟩
theorem yH (P:Program):∀ (l:List TypeInfo) (k t:Nat),(yS P l k)[t]?=(l[t]?).map (Sx P (k+t))
 | [],k,t=>by simp[yS]
 | i::l,k,0=>by simp[yS]
 | i::l,k,t+1=>by simp only[yS,List.getElem?_cons_succ];rw[yH P l (k+1) t,show k+1+t=k+(t+1) by omega]
theorem yX (P:Program) (ng:Nat) (ext:FuncId→List Value→Heap→Option (Option (Value×Heap))) (hm:P.follows .mixedOrders=true):aH P (bP P ng ext) where
 l9 t i h:=by
   simp only[bP,T.mR,yH,Option.map_eq_some_iff,Nat.zero_add]at h;obtain⟨info,hi,rfl⟩:=h;refine⟨info,?_,fun hd=>?_,rfl,rfl,rfl,fun z hz=>?_,fun hs=>hs⟩
   · have hi:P.types[t]?=some info:=by simpa using hi
     have aB:=(Array.getElem?_eq_some_iff.1 hi).1;show (if t<P.types.size then P.types[t]? else _)=_;rw[if_pos aB];exact hi
   · simp only[Sx]at hd ⊢;cases hu:P.underlying t with
     | none=>rw[hu]at hd;exact absurd rfl hd
     | some d=>rfl
   · simp only[Sx]at hz;cases hzz:info.zero with
     | none=>rw[hzz]at hz;cases hz
     | some z' =>
       rw[hzz]at hz;simp only[Qn]at hz;cases hc:dW z' with
       | false=>rw[hc]at hz;cases hz
       | true=>rw[hc]at hz;cases hz;exact⟨rfl,hc⟩
 nK f fn h:=by simp only[bP,T.mR]at h;simpa using h
 mixed:=hm
 RH f h:=by cases h
 qc f l v h:=by cases h
theorem FY (P:Program) (ng:Nat):cf P (bP P ng fun _ _ _=>none):=fun f args H v H' h=>by simp[bP]at h
def dC (P:Program):Bool:=P.funcs.toList.all fun fn=>fn.body.isNone || fn.name != "runtime.NumGoroutine"
theorem dI (h:dC P=true):eC P:=by intro f fn hf hb hn;unfold dC at h;rw[List.all_eq_true]at h;have:=h fn (by rw[Array.mem_toList_iff];exact Array.mem_of_getElem? hf);simp[hn]at this;rw[this]at hb;cases hb
end
section
variable {E:Env}
abbrev nZ:=Fn→List Value→Heap→Option (Value×Heap)
def mF (c c':nZ):Prop:=∀ f a h r,c f a h=some r→c' f a h=some r
theorem uy {c c':nZ}(hc:mF c c') {fr:Fr}{o:Oper}{h:Heap}{r:Value×Heap}(e:fF E c fr o h=some r):fF E c' fr o h=some r:=by
 unfold fF at e ⊢;cases hk:kindOf E o.op<;>simp only[hk]at e ⊢<;>try exact e
 split at e
 ·rename_i cl hcl;split at e;·exact e
  ·split at e;·rename_i f args ht;exact hc _ _ _ _ e
   ·cases e
 ·exact e
theorem GY {c c':nZ}(hc:mF c c') {nt:Nat}{ops:List Oper}{fr:Fr}{o:Oper}{h:Heap}{r:Fr×Heap}(e:step E c nt ops fr o h=some r):step E c' nt ops fr o h=some r:=by
 unfold step at e ⊢;split at e;·cases e
 ·exact e
 ·split at e;·rename_i p hp;rw[uy hc hp];exact e
  ·cases e
theorem gJ {c c':nZ}(hc:mF c c') {nt:Nat}{all:List Oper}:∀ (os:List Oper) {fr:Fr}{h:Heap}{r:Fr×Heap},cu E c nt all os fr h=some r→cu E c' nt all os fr h=some r
 | [],_,_,_,e=>e
 | o::os,fr,h,r,e=>by
   simp only[cu]at e ⊢;split at e;· rename_i fr1 h1 e1;rw[GY hc e1];exact gJ hc os e
   · cases e
theorem fA {c c':nZ}(hc:mF c c') {nt:Nat}{all:List Oper}:∀ (os:List Item) {fr:Fr}{h:Heap}{r:Fr×Heap},ay E c nt all os fr h=some r→ay E c' nt all os fr h=some r
 | [],_,_,_,e=>e
 | x::xs,fr,h,r,e=>by
   simp only[ay]at e ⊢;split at e;· cases e
   · rename_i o ho;split at e
     · rename_i fr1 h1 e1;rw[GY hc e1];simp only;cases hb:(Nat.ble h.n h1.n&&fW E all fr1 h1 x.again) with
       | false=>rw[hb]at e;cases e
       | true=>rw[hb]at e;exact fA hc xs e
     · cases e
theorem uq {f f':Fr→Heap→Option (Ex×Fr×Heap)}(hf:∀ fr h r,f fr h=some r→f' fr h=some r):∀ (n:Nat) (fr:Fr) (h:Heap) (r:Ex×Fr×Heap),iter f n fr h=some r→iter f' n fr h=some r
 | 0,_,_,_,e=>by simp[iter]at e
 | n+1,fr,h,r,e=>by
   simp only[iter]at e ⊢;split at e;· rename_i fr1 h1 e1;rw[hf _ _ _ e1];exact uq hf n _ _ _ e
   · rename_i hno;rw[hf _ _ _ e];obtain⟨ex,fr',h'⟩:=r;cases ex with
     | normal=>exact absurd e (hno _ _)
     | exit id=>rfl
     | ret=>rfl
theorem jg {f f':Fr→Heap→Option (Ex×Fr×Heap)}(hf:∀ fr h r,f fr h=some r→f' fr h=some r) {nt:Nat}{M:du}{fr0:Fr}{H:Heap}{x:Value×Value×Nat}{r:Fr×Heap}(e:fS f nt M fr0 H x=some r):fS f' nt M fr0 H x=some r:=by
 unfold fS at e ⊢;split at e;·cases e
 ·split at e;·rename_i h1;rw[hf _ _ _ h1];exact e
  ·cases e
theorem oX {f f':Fr→Heap→Option (Ex×Fr×Heap)}(hf:∀ fr h r,f fr h=some r→f' fr h=some r) {nt:Nat}{M:du}{fr0:Fr}{H:Heap}{r:Ex×Fr×Heap}(e:rh f nt M fr0 H=some r):rh f' nt M fr0 H=some r:=by
 unfold rh at e ⊢;split at e;·cases e
 ·split at e;·cases e
  ·rename_i hno;rw[hf _ _ _ e];obtain⟨ex,fr',h'⟩:=r;cases ex with
   | normal=>exact absurd e (hno _ _)
   | exit id=>rfl
   | ret=>rfl
theorem pN {f f':Fr→Heap→Option (Ex×Fr×Heap)}(hf:∀ fr h r,f fr h=some r→f' fr h=some r) {nt:Nat}{M:du}{fr0:Fr}{H:Heap}:∀ (es:List (Value×Value×Nat)) {r:List ((Value×Value×Nat)×Fr×Heap)},ly f nt M fr0 H es=some r→ly f' nt M fr0 H es=some r
 | [],_,e=>e
 | x::es,r,e=>by
   simp only[ly]at e ⊢;split at e;· rename_i h3 l e1 e2;rw[jg hf e1,pN hf es e2];exact e
   · cases e
theorem HH {f f':Fr→Heap→Option (Ex×Fr×Heap)}(hf:∀ fr h r,f fr h=some r→f' fr h=some r) {nt:Nat}{M:du}{fr0:Fr}{H:Heap}{r:Ex×Fr×Heap}(e:pP f nt M fr0 H=some r):pP f' nt M fr0 H=some r:=by
 unfold pP at e ⊢;obtain⟨hat,e⟩:=lY e;rw[hat,cond_true];split at e;·cases e
 ·rename_i e1;rw[pN hf _ e1];exact oX hf e
 ·rename_i x f1 h1 e1;rw[pN hf _ e1];simp only;obtain⟨hg,e⟩:=lY e;refine(show ∀ g:Bool,g=true→cond g (rh f' nt M (eD fr0 f1 (List.range nt)) h1) none=some r from fun g hg=>by rw[hg];exact oX hf e) _ ?_;simp only[Bool.and_eq_true,List.all_eq_true]at hg ⊢;refine⟨hg.1,fun y hy=>?_⟩;have:=hg.2 y hy;simp only[Bool.or_eq_true]at this ⊢;rcases this with h|h;·exact .inl h
  ·right;split at h;·rename_i h3 e3;rw[jg hf e3];exact h
   ·cases h
 ·cases e
theorem qF {f f':Fr→Heap→Option (Ex×Fr×Heap)}(hf:∀ fr h r,f fr h=some r→f' fr h=some r) {nt:Nat}{M:du}{sp:Option Nat}{fr0:Fr}{H:Heap}(e:ME f nt M sp fr0 H):ME f' nt M sp fr0 H :=
 fun x hx hs=>let ⟨p,h1,h2⟩:=e x hx hs;⟨p,jg hf h1,h2⟩
theorem Ji {f f':Fr→Heap→Option (Ex×Fr×Heap)}(hf:∀ fr h r,f fr h=some r→f' fr h=some r) {nt:Nat}{M:du}{sp:Option Nat}{fr0:Fr}{H:Heap}{r:Ex×Fr×Heap}(e:lF f nt M sp fr0 H=some r):lF f' nt M sp fr0 H=some r:=by
 unfold lF at e ⊢;split at e
 ·rename_i hc;rw[if_pos ⟨hc.1,qF hf hc.2⟩];split at e;·exact oX hf e
  ·split at e;·cases e
   ·rename_i e1 h1;split at e;·cases e
    ·rename_i f1 h2 h3;simp only[jg hf h3];split at e;·rename_i hc2;rw[if_pos ⟨hc2.1,hc2.2.1,hc2.2.2.1,qF hf hc2.2.2.2⟩];exact oX hf e
     ·cases e
 ·cases e
theorem gf {c c':nZ}(hc:mF c c') {nt:Nat}{rd:Option Nat}:∀ (N:Nat) (k:Code),SizeOf.sizeOf k≤N→∀ (fr:Fr) (h:Heap) (r:Ex×Fr×Heap),code E c nt rd k fr h=some r→code E c' nt rd k fr h=some r
 | 0,k,hN,_,_,_,_=>absurd hN (by cases k<;>simp)
 | N+1,.skip,hN,_,_,_,e=>e
 | N+1,.label _,hN,_,_,_,e=>e
 | N+1,.exit _,hN,_,_,_,e=>e
 | N+1,.ret,hN,_,_,_,e=>e
 | N+1,.region _ ops false,hN,fr,h,r,e=>by
   simp only[code]at e ⊢;cases hdf:ops.toList.any fc with
   | true=>rw[hdf]at e;exact e
   | false =>
   rw[hdf]at e;simp only[cond_false,Option.map_eq_some_iff]at e ⊢;obtain⟨a,e1,e2⟩:=e;exact⟨a,gJ hc _ e1,e2⟩
 | N+1,.region _ ops true,hN,fr,h,r,e=>by
   simp only[code]at e ⊢;split at e;· simp only[Option.map_eq_some_iff]at e ⊢;obtain⟨a,e1,e2⟩:=e;exact⟨a,fA hc _ e1,e2⟩
   · split at e
     · rename_i q A Z hplI;split at e
       · rename_i f0 h0 hrq;rw[fA hc _ hrq];simp only;cases hall:nY E ops.toList f0 h0 A with
         | false=>rw[hall]at e;cases e
         | true =>rw[hall]at e;simp only[cond_true,Option.map_eq_some_iff]at e ⊢;obtain⟨a,e1,e2⟩:=e;exact⟨a,fA hc _ e1,e2⟩
       · cases e
     · cases e
 | N+1,.seq a b,hN,fr,h,r,e=>by
   simp only[code]at e ⊢;split at e;· rename_i fr1 h1 e1;rw[gf hc N a (by simp at hN;omega) _ _ _ e1];exact gf hc N b (by simp at hN;omega) _ _ _ e
   · rename_i hno;rw[gf hc N a (by simp at hN;omega) _ _ _ e];obtain⟨ex,fr',h'⟩:=r;cases ex with
     | normal=>exact absurd e (hno _ _)
     | exit id=>rfl
     | ret=>rfl
 | N+1,.cond x a b,hN,fr,h,r,e=>by
   simp only[code]at e ⊢;split at e;· exact gf hc N a (by simp at hN;omega) _ _ _ e
   · exact gf hc N b (by simp at hN;omega) _ _ _ e
   · cases e
 | N+1,.block id b,hN,fr,h,r,e=>by
   simp only[code]at e ⊢;split at e;· rename_i j fr1 h1 e1;rw[gf hc N b (by simp at hN;omega) _ _ _ e1];exact e
   · rename_i hno;rw[gf hc N b (by simp at hN;omega) _ _ _ e];obtain⟨ex,fr',h'⟩:=r;cases ex with
     | normal=>rfl
     | exit id=>exact absurd e (hno _ _ _)
     | ret=>rfl
 | N+1,.loop b,hN,fr,h,r,e=>by
   have ih0:∀ fr h r,code E c nt rd b fr h=some r→code E c' nt rd b fr h=some r:=gf hc N b (by simp at hN;omega);by_cases hb:∃ id ops rest,b=.seq (.region id ops false) rest
   · obtain⟨id,ops,rest,rfl⟩:=hb;simp only[code]at e ⊢;split at e;· exact uq (fun fr h r=>ih0 fr h r) _ _ _ _ e
     · rename_i M hM;have hbd:∀ fr h r,(match cu E c nt ops.toList M.tail fr h with|some (fr,h)=>code E c nt rd rest fr h|none=>none)=some r→(match cu E c' nt ops.toList M.tail fr h with|some (fr,h)=>code E c' nt rd rest fr h|none=>none)=some r:=fun fr h r e=>by
         split at e;· rename_i f1 h1 e1;rw[gJ hc _ e1];exact gf hc N rest (by simp at hN;omega) _ _ _ e
         · cases e
       split at e;· exact HH hbd e
       · exact Ji hbd e
   · have e':∀ k,code E k nt rd (.loop b) fr h=iter (code E k nt rd b) 1000000 fr h:=by
       intro k;cases b with
       | seq x y=>cases x with
         | region id ops dr=>cases dr with
           | true=>simp only[code]
           | false=>exact absurd ⟨_,_,_,rfl⟩ hb
         | _=>simp only[code]
       | _=>simp only[code]
     rw[e']at e ⊢;exact uq ih0 _ _ _ _ e
 | N+1,.scope b,hN,fr,h,r,e=>by simp only[code]at e ⊢;exact gf hc N b (by simp at hN;omega) _ _ _ e
 | N+1,.rangeFunc g ps assign bd,hN,fr,h,r,e=>by
   simp only[code]at e ⊢;cases hin:inRound h rd with
   | false=>rw[hin]at e;cases e
   | true =>
     rw[hin]at e
     simp only[cond_true]at e ⊢
     split at e
     · split at e;· cases e
       · split at e;· rename_i v2 h2 hcall;rw[hc _ _ _ _ hcall];exact e
         · cases e
     · cases e
 | N+1,.goto ..,hN,_,_,_,e=>by simp[code]at e
 | N+1,.refuse ..,hN,_,_,_,e=>by simp[code]at e
theorem j7 {c c':nZ}(hc:mF c c') {nt:Nat}{rd:Option Nat}(k:Code) (fr:Fr) (h:Heap) (r:Ex×Fr×Heap):code E c nt rd k fr h=some r→code E c' nt rd k fr h=some r :=
 gf hc (SizeOf.sizeOf k) k (Nat.le_refl _) fr h r
theorem vU:∀ d,mF (dj E d) (dj E (d+1))
 | 0=>fun f a h r e=>by simp[dj]at e
 | d+1=>fun f args h r e=>by
   have ih:=vU d;cases f with
   | func f =>
     rw[dj]at e ⊢
     split at e
     · exact e
     · split at e;· cases e
       · rename_i fn hfn;split at e;· cases e
         · rename_i b hb;split at e;· cases e
           · rename_i ex fr1 h1 hnx hcode;rw[j7 ih b _ _ _ hcode];cases ex with
             | normal=>exact e
             | ret=>exact e
             | exit id=>exact absurd rfl (hnx id)
           · cases e
   | yield l =>
     rw[dj]at e ⊢
     split at e
     · split at e;· cases e
       · rename_i fr1 hps;split at e
         · rename_i fr2 h2 hasg;rw[j7 ih _ _ _ _ hasg];simp only;split at e;· cases e
           · rename_i h3 hbeg;split at e;· rename_i ex fr4 h4 ni;rw[j7 ih _ _ _ _ ni];exact e
             · cases e
         · cases e
     · cases e
   | method n=>simp[dj]at e
   | methodOf t n=>simp[dj]at e
   | via t p f q=>simp[dj]at e
theorem cF {d d':Nat}(hd:d≤d'):mF (dj E d) (dj E d'):=by
 induction hd with
 | refl=>exact fun _ _ _ _ e=>e
 | step _ ih=>exact fun f a h r e=>vU _ _ _ _ _ (ih _ _ _ _ e)
class Tok {α:Type}(a:α):Type where
instance {α:Type}(a:α):Tok a:=⟨⟩
def bT (E:Env) (f:Fn) (args:List Value) (h:Heap) (K:Value→Heap→Prop) [Tok K]:Prop:=∃ d v h',dj E d f args h=some (v,h')∧K v h'
theorem bT.mono {f:Fn}{args:List Value}{h:Heap}{K K':Value→Heap→Prop}(r:bT E f args h K) (k:∀ v h',K v h'→K' v h'):bT E f args h K' :=
 let ⟨d,v,h',e,hk⟩:=r;⟨d,v,h',e,k _ _ hk⟩
end
end Go.Ev
