/- THE PLAIN MACHINE's FUNCTIONS, walked (8). Conditions: none beyond each theorem's own. -/
import Derived.Test.YthjlppdnlahhoaaGreatP7
set_option linter.unusedSimpArgs false
set_option linter.unusedVariables false
namespace Go.Proofs.YthjlppdnlahhoaaGreat
open Go.Ev
open Pl
set_option maxRecDepth 100000
set_option maxHeartbeats 4000000
structure Cj where
 kind:Int
 a0:Int
 a1:Int
 a2:Int
 a3:Int
 a4:Int
def Cj.cells (x:Cj):List Value:=[.int .i64 x.kind,.int .u64 x.a0,.int .u64 x.a1,.int .u64 x.a2,.int .u64 x.a3,.int .u64 x.a4]
def jR (M:MD) (n:ND) (i:Int):Prop:=∃ k:Nat,i=(k:Int)∧∃ h:k<M.ax.length,n.loose=false→alive M M.ax[k]∧(n.kind≠0→n.kind=M.ax[k].kind)
def qI (M:MD) (i:Int):Prop:=i=0∨∃ k:Nat,i=(k:Int)∧k<M.ax.length
theorem jR.inC {M:MD}{n:ND}{i:Int}(h:jR M n i):qI M i:=by obtain⟨k,e,hk,_⟩:=h;exact .inr ⟨k,e,hk⟩
theorem vm {l:List KD}{g s:Int}(h:0≤ko l g s):∃ k:Nat,ko l g s=(k:Int)∧k<l.length:=by
 unfold ko at h ⊢;cases e:l.findIdx? (tU g s) with
 | none=>rw[e]at h;exact absurd h ao
 | some k =>
   obtain⟨hk,_⟩:=qs.1 e
   exact⟨k,rfl,hk⟩
theorem Pu {a:Ad}{V:VD}{h:ak}{M:MD}{g:Int}{x:Cj}{K:Value→ak→Prop}(s:St a V h M) (hl:M.ax.length≤10000) (hsl:M.cfg.bP≤1000) (hg:M.gs.length≤1000) (hc:M.cl.length≤1000) (hs:M.sh.length≤1000)
   (hK:∀ (p q e:Int) h',aw h.n h h'→qI M p→qI M q→(e=0→∀ j (hj:j<(cI x.kind).length),jR M (cI x.kind)[j] (if j=0 then p else q))→K (.tuple #[.agg ⟨[iv p,iv q]⟩,iv e]) h'):cy env (.func 87) [mp a,iv g,.agg ⟨x.cells⟩] h K:=by
 obtain⟨kd,a0,a1,a2,a3,a4⟩:=x
 simp only[Cj.cells]at hK ⊢
 unfold mp at *
 refine F87 rfl ?_
 have X1:aw h.n h (ai h (.cells [iv kd,uv a0,uv a1,uv a2,uv a3,uv a4] 43 true)):=br
 have g1:(ai h (.cells [iv kd,uv a0,uv a1,uv a2,uv a3,uv a4] 43 true)).b.get h.n=some (.cells [iv kd,uv a0,uv a1,uv a2,uv a3,uv a4] 43 true):=az _ _
 have n1:(ai h (.cells [iv kd,uv a0,uv a1,uv a2,uv a3,uv a4] 43 true)).n=h.n+1:=rfl
 have X2:aw (h.n+1) (ai h (.cells [iv kd,uv a0,uv a1,uv a2,uv a3,uv a4] 43 true)) (ai (ai h (.cells [iv kd,uv a0,uv a1,uv a2,uv a3,uv a4] 43 true)) (.cells [iv 0,iv 0] 211 true)):=br
 have g2:(ai (ai h (.cells [iv kd,uv a0,uv a1,uv a2,uv a3,uv a4] 43 true)) (.cells [iv 0,iv 0] 211 true)).b.get (h.n+1)=some (.cells [iv 0,iv 0] 211 true):=az _ _
 have g1':=X2.cY g1
 have n2:(ai (ai h (.cells [iv kd,uv a0,uv a1,uv a2,uv a3,uv a4] 43 true)) (.cells [iv 0,iv 0] 211 true)).n=h.n+1+1:=rfl
 have X12:=X1.trans (X2.mono (aL h.n))
 have c1:=ay (off:=0) ah g1' rfl
 refine wk ?_
 generalize ai (ai h (.cells [iv kd,uv a0,uv a1,uv a2,uv a3,uv a4] 43 true)) (.cells [iv 0,iv 0] 211 true)=h2 at X12 g1' g2 n2 c1 ⊢
 refine MA (O:=fun j=>j=h.n+1) (fun j e=>ah) fun v h3 x3 r3=>?_
 have n3:=x3.n
 obtain⟨va,vc,re,_⟩:=r3.len
 rw[aI]at re
 subst re
 obtain⟨hn2,harg⟩:=Ks kd
 refine wk ?_
 refine aP (fun m fr' h''=>∃ (j:Nat) (p q:Int),j≤(cI kd).length∧m=(cI kd).length-j∧fr'.get 15=some (iv j)∧aw h.n h h''∧h''.b.get h.n=some (.cells [iv kd,uv a0,uv a1,uv a2,uv a3,uv a4] 43 true)∧h''.b.get (h.n+1)=some (.cells [iv p,iv q] 211 true)∧RS (fun j=>j=h.n+1) 4 h'' (.slice va (cI kd).length vc) ((cI kd).map ND.cells)∧h.n+1<h''.n∧qI M p∧qI M q∧(∀ i (hi:i<(cI kd).length),i<j→jR M (cI kd)[i] (if i=0 then p else q))) (cI kd).length ?_ ah ?_
 · exact⟨0,0,0,ah,ah,aA,X12.jI x3,x3.cY g1',x3.cY g2,r3,ah,.inl rfl,.inl rfl,fun i hi h=>ah⟩
 rintro m fr4 h4 ⟨j,p,q,hj,rfl,f15,X4,gc,ga,r4,n4,ip,iq,ok⟩ hag
 have q0:fr4.get 0=some (pt a.m 0):=(hag 0 rfl).trans (by simp[T.aj,bY])
 have q1:fr4.get 1=some (iv g):=(hag 1 rfl).trans (by simp[T.aj,bY])
 have q5:fr4.get 5=some (pt h.n 0):=(hag 5 rfl).trans aA
 have q6:fr4.get 6=some (pt (h.n+1) 0):=(hag 6 rfl).trans aA
 by_cases aT:j<(cI kd).length
 · obtain⟨i,o,rfl,hi,hcell⟩:=r4.at_ (k:=j) (by simpa using aT);rw[dr]at hcell;have hargj:=harg j aT;generalize rQ:(cI kd)[j]=nd at hcell hargj;obtain⟨ar,nk,nr,nl⟩:=nd;simp only at hargj;subst hargj;simp only[ND.cells]at hcell;have s4:=s.ext X4;have w6:IntKind.wrap .u64 (M.cfg.bP:Int)=(M.cfg.bP:Int):=wrap_u64 ah ah;have X5:aw h4.n h4 (ai h4 (.cells [iv ar,iv nk,.int .u8 nr,.bool nl] 252 true)):=br;have n5:(ai h4 (.cells [iv ar,iv nk,.int .u8 nr,.bool nl] 252 true)).n=h4.n+1:=rfl;have g5:(ai h4 (.cells [iv ar,iv nk,.int .u8 nr,.bool nl] 252 true)).b.get h4.n=some (.cells [iv ar,iv nk,.int .u8 nr,.bool nl] 252 true):=az _ _;have hj2:ar=0∨ar=1:=ah;have wn:=rU ar;rcases hj2 with rfl|rfl
   · simp only[dO,fk,cj]at hcell;have cA:=ay (off:=1) (by show h.n<h4.n+1;omega) (X5.cY gc) rfl;have k6':=(s4.ext X5).k6;have dt:=aq (off:=0) (n:=2) ah ga rfl rfl;have n45:∀ b,(ai h4 b).n=h4.n+1:=fun _=>rfl;have bad:∀ {h':ak}(e:Int),e≠0→aw h.n h h'→K (.tuple #[.agg ⟨[iv p,iv q]⟩,iv e]) h':=fun e he x=>hK p q e _ x ip iq fun h=>absurd h he;have badK:∀ {h':ak}{K':Value→ak→Prop}[iJ K'],aw h.n h h'→h'.b.get (h.n+1)=some (.cells [iv p,iv q] 211 true)→(∀ h'',aw h.n h h''→h''.n=h'.n→h''.b.get (h.n+1)=some (.cells [iv p,iv q] 211 true)→K' undef h'')→jQ 2 (pt (h.n+1) 0) (.agg ⟨[iv p,iv q]⟩) h' K':=by intro h' K' _ x g qq;exact aM (off:=0) (cs':=[iv p,iv q]) g rfl rfl rfl rfl ao (qq _ (x.trans (aw.set _ ah)) rfl aF)
     have ww:=mW @hcell;refine wk ?_;generalize ai h4 (.cells [iv 0,iv nk,.int .u8 nr,.bool nl] 252 true)=h5 at X5 n5 g5 cA k6' ⊢;have X45:=X4.jI X5;have d0:=ay (off:=0) ah g5 rfl;have d1:=ay (off:=1) ah g5 rfl;have d2:=ay (off:=2) ah g5 rfl;have d3:=ay (off:=3) ah g5 rfl;have ga5:=X5.cY ga;have dt5:=aq (off:=0) (n:=2) ah ga5 rfl rfl;by_cases h1:(M.cfg.bP:Int)≤a0;· have ww:=ww.a @w6;refine wk ?_;refine badK X45 ga5 fun h6 X6 n6 g6=>?_;have dt6:=aq (off:=0) (n:=2) ah g6 rfl rfl;refine wk ?_;exact bad _ ao X6
     have ww:=ww.a @w6;refine wk ?_;refine pZ (s4.ext X5) ah fun h6 x6=>?_;have n6:=x6.n;have X6:=X45.jI x6;have ga6:=x6.cY ga5;have dt6:=aq (off:=0) (n:=2) ah ga6 rfl rfl;have s6:=s.ext X6;by_cases hf:ko M.ax g (IntKind.wrap .i64 a0)<0;· refine wk ?_;refine badK X6 ga6 fun h7 X7 n7 g7=>?_;have dt7:=aq (off:=0) (n:=2) ah g7 rfl rfl;refine wk ?_;exact bad _ ao X7
     obtain⟨k,hk,hkl⟩:=vm (l:=M.ax) (g:=g) (s:=IntKind.wrap .i64 a0) ah;rw[hk]at hf ⊢;have d16:=aD x6 ah d1;have d26:=aD x6 ah d2;have d36:=aD x6 ah d3;have d06:=aD x6 ah d0;have gc6:∀ {h':ak},aw h6.n h6 h'→h'.b.get h.n=some (.cells [iv kd,uv a0,uv a1,uv a2,uv a3,uv a4] 43 true):=fun x=>x.cY (x6.cY (X5.cY gc));have done:∀ {h7:ak}{K':Value→ak→Prop}[iJ K'],aw h6.n h6 h7→jR M ⟨0,nk,nr,nl⟩ (k:Int)→(∀ h8,h8.n=h7.n→(∀ fr8:Go.Ev.Fr,fr8.get 15=some (iv ((0+1:Nat):Int))→∃ m,m<(cI kd).length-0∧∃ (j:Nat) (p q:Int),j≤(cI kd).length∧m=(cI kd).length-j∧fr8.get 15=some (iv j)∧aw h.n h h8∧h8.b.get h.n=some (.cells [iv kd,uv a0,uv a1,uv a2,uv a3,uv a4] 43 true)∧h8.b.get (h.n+1)=some (.cells [iv p,iv q] 211 true)∧RS (fun j=>j=h.n+1) 4 h8 (.slice (some ⟨i,o,none⟩) (cI kd).length vc) ((cI kd).map ND.cells)∧h.n+1<h8.n∧qI M p∧qI M q∧(∀ i (hi:i<(cI kd).length),i<j→jR M (cI kd)[i] (if i=0 then p else q)))→K' undef h8)→jQ 1 (pt (h.n+1) 0) (iv k) h7 K':=by
       intro h7 K' _ x7 hok qq;have n7:=x7.n;have ga7:=x7.cY ga6;refine aM (off:=0) (cs':=[iv k,iv q]) ga7 rfl rfl rfl rfl ao (qq _ rfl fun fr8 f8=>⟨(cI kd).length-(0+1),ah,0+1,(k:Int),q,ah,rfl,f8,?_,?_,aF,?_,by show h.n+1<h7.n;omega,hok.inC,iq,fun i' hi' hlt'=>?_⟩);· exact(X6.jI x7).trans (aw.set _ ah)
       · rw[aC ah];exact gc6 x7
       · have r7:=r4.ext (X5.trans ((x6.mono ah).trans (x7.mono ah)));exact r7.kp (Kp.set (O:=fun j=>j=h.n+1) rfl)
       · obtain rfl:i'=0:=ah;rw[rQ];simpa using hok
     cases nl with
     | true =>
       refine wk ?_
       refine done (aw.refl _ _) ⟨k,rfl,hkl,fun e=>by cases e⟩ fun h8 n8 q8=>?_
       have ww:=ww.a @wn
       refine wk ?_
       exact q8 _ aA
     | false =>
       obtain⟨ci,cc,eV,hci,_,mD,cA8,cN8⟩:=mg s6 hkl
       have c4:=cN8 4 4 ao
       simp only[KD.cells,mB,eh,iX,iH]at c4
       have ww:=ww.a (aN @mD @c4)
       refine wk ?_
       refine AV (x:=M.ax[k]) s6 hg hc hs fun b h7 x7 hb7=>?_
       have n7:=x7.n
       have X7:=X6.jI x7
       have ga7:=x7.cY ga6
       have dt7:=aq (off:=0) (n:=2) ah ga7 rfl rfl
       have d17:=aD x7 ah d16
       have d27:=aD x7 ah d26
       have d07:=aD x7 ah d06
       have s7:=s.ext X7
       obtain⟨ci',cc',eV',_,_,k23',cA9,cN9⟩:=mg s7 hkl
       have e4:=dk cA9 (j:=4) (v:=iv M.ax[k].kind) rfl
       have e7:=dk cA9 (j:=7) (v:=.int .u8 M.ax[k].ri) rfl
       cases b with
       | false =>
         refine wk ?_
         refine badK X7 ga7 fun h8 X8 n8 g8=>?_
         have dt8:=aq (off:=0) (n:=2) ah g8 rfl rfl
         refine wk ?_
         exact bad _ ao X8
       | true =>
         have hal:=hb7 rfl
         by_cases hk0:nk=0
         · subst hk0;by_cases hr:IntKind.u8.wrap ((BitVec.ofInt IntKind.u8.bits nr &&& ~~~BitVec.ofInt IntKind.u8.bits M.ax[k].ri).toNat:Nat)=0;· have ww:=ww.a (aN @k23' @fu);refine wk ?_;refine done x7 ⟨k,rfl,hkl,fun _=>⟨hal,fun h=>absurd rfl h⟩⟩ fun h8 n8 q8=>?_;have ww:=ww.a @wn;refine wk ?_;exact q8 _ aA
           · have ww:=ww.a (aN @k23' @fu);refine wk ?_;refine badK X7 ga7 fun h8 X8 n8 g8=>?_;have dt8:=aq (off:=0) (n:=2) ah g8 rfl rfl;refine wk ?_;exact bad _ ao X8
         · by_cases hkk:nk=M.ax[k].kind
           · by_cases hr:IntKind.u8.wrap ((BitVec.ofInt IntKind.u8.bits nr &&& ~~~BitVec.ofInt IntKind.u8.bits M.ax[k].ri).toNat:Nat)=0;· have ww:=ww.a (aN @k23' @fu);refine wk ?_;refine done x7 ⟨k,rfl,hkl,fun _=>⟨hal,fun _=>hkk⟩⟩ fun h8 n8 q8=>?_;have ww:=ww.a @wn;refine wk ?_;exact q8 _ aA
             · have ww:=ww.a (aN @k23' @fu);refine wk ?_;refine badK X7 ga7 fun h8 X8 n8 g8=>?_;have dt8:=aq (off:=0) (n:=2) ah g8 rfl rfl;refine wk ?_;exact bad _ ao X8
           · have ww:=ww.a (aN @k23' @fu);refine wk ?_;refine badK X7 ga7 fun h8 X8 n8 g8=>?_;have dt8:=aq (off:=0) (n:=2) ah g8 rfl rfl;refine wk ?_;exact bad _ ao X8
   · simp only[dO,fk,cj]at hcell;have cA:=ay (off:=2) (by show h.n<h4.n+1;omega) (X5.cY gc) rfl;have k6':=(s4.ext X5).k6;have dt:=aq (off:=0) (n:=2) ah ga rfl rfl;have n45:∀ b,(ai h4 b).n=h4.n+1:=fun _=>rfl;have bad:∀ {h':ak}(e:Int),e≠0→aw h.n h h'→K (.tuple #[.agg ⟨[iv p,iv q]⟩,iv e]) h':=fun e he x=>hK p q e _ x ip iq fun h=>absurd h he;have badK:∀ {h':ak}{K':Value→ak→Prop}[iJ K'],aw h.n h h'→h'.b.get (h.n+1)=some (.cells [iv p,iv q] 211 true)→(∀ h'',aw h.n h h''→h''.n=h'.n→h''.b.get (h.n+1)=some (.cells [iv p,iv q] 211 true)→K' undef h'')→jQ 2 (pt (h.n+1) 0) (.agg ⟨[iv p,iv q]⟩) h' K':=by intro h' K' _ x g qq;exact aM (off:=0) (cs':=[iv p,iv q]) g rfl rfl rfl rfl ao (qq _ (x.trans (aw.set _ ah)) rfl aF)
     have ww:=mW @hcell;refine wk ?_;generalize ai h4 (.cells [iv 1,iv nk,.int .u8 nr,.bool nl] 252 true)=h5 at X5 n5 g5 cA k6' ⊢;have X45:=X4.jI X5;have d0:=ay (off:=0) ah g5 rfl;have d1:=ay (off:=1) ah g5 rfl;have d2:=ay (off:=2) ah g5 rfl;have d3:=ay (off:=3) ah g5 rfl;have ga5:=X5.cY ga;have dt5:=aq (off:=0) (n:=2) ah ga5 rfl rfl;by_cases h1:(M.cfg.bP:Int)≤a1;· have ww:=ww.a @w6;refine wk ?_;refine badK X45 ga5 fun h6 X6 n6 g6=>?_;have dt6:=aq (off:=0) (n:=2) ah g6 rfl rfl;refine wk ?_;exact bad _ ao X6
     have ww:=ww.a @w6;refine wk ?_;refine pZ (s4.ext X5) ah fun h6 x6=>?_;have n6:=x6.n;have X6:=X45.jI x6;have ga6:=x6.cY ga5;have dt6:=aq (off:=0) (n:=2) ah ga6 rfl rfl;have s6:=s.ext X6;by_cases hf:ko M.ax g (IntKind.wrap .i64 a1)<0;· refine wk ?_;refine badK X6 ga6 fun h7 X7 n7 g7=>?_;have dt7:=aq (off:=0) (n:=2) ah g7 rfl rfl;refine wk ?_;exact bad _ ao X7
     obtain⟨k,hk,hkl⟩:=vm (l:=M.ax) (g:=g) (s:=IntKind.wrap .i64 a1) ah;rw[hk]at hf ⊢;have d16:=aD x6 ah d1;have d26:=aD x6 ah d2;have d36:=aD x6 ah d3;have d06:=aD x6 ah d0;have gc6:∀ {h':ak},aw h6.n h6 h'→h'.b.get h.n=some (.cells [iv kd,uv a0,uv a1,uv a2,uv a3,uv a4] 43 true):=fun x=>x.cY (x6.cY (X5.cY gc));have done:∀ {h7:ak}{K':Value→ak→Prop}[iJ K'],aw h6.n h6 h7→jR M ⟨1,nk,nr,nl⟩ (k:Int)→(∀ h8,h8.n=h7.n→(∀ fr8:Go.Ev.Fr,fr8.get 15=some (iv ((1+1:Nat):Int))→∃ m,m<(cI kd).length-1∧∃ (j:Nat) (p q:Int),j≤(cI kd).length∧m=(cI kd).length-j∧fr8.get 15=some (iv j)∧aw h.n h h8∧h8.b.get h.n=some (.cells [iv kd,uv a0,uv a1,uv a2,uv a3,uv a4] 43 true)∧h8.b.get (h.n+1)=some (.cells [iv p,iv q] 211 true)∧RS (fun j=>j=h.n+1) 4 h8 (.slice (some ⟨i,o,none⟩) (cI kd).length vc) ((cI kd).map ND.cells)∧h.n+1<h8.n∧qI M p∧qI M q∧(∀ i (hi:i<(cI kd).length),i<j→jR M (cI kd)[i] (if i=0 then p else q)))→K' undef h8)→jQ 1 (pt (h.n+1) 1) (iv k) h7 K':=by
       intro h7 K' _ x7 hok qq;have n7:=x7.n;have ga7:=x7.cY ga6;refine aM (off:=1) (cs':=[iv p,iv k]) ga7 rfl rfl rfl rfl ao (qq _ rfl fun fr8 f8=>⟨(cI kd).length-(1+1),ah,1+1,p,(k:Int),ah,rfl,f8,?_,?_,aF,?_,by show h.n+1<h7.n;omega,ip,hok.inC,fun i' hi' hlt'=>?_⟩);· exact(X6.jI x7).trans (aw.set _ ah)
       · rw[aC ah];exact gc6 x7
       · have r7:=r4.ext (X5.trans ((x6.mono ah).trans (x7.mono ah)));exact r7.kp (Kp.set (O:=fun j=>j=h.n+1) rfl)
       · by_cases hi0:i'=0;· subst hi0;have:=ok 0 hi' ah;simpa using this
         · obtain rfl:i'=1:=ah;rw[rQ];simpa using hok
     cases nl with
     | true =>
       refine wk ?_
       refine done (aw.refl _ _) ⟨k,rfl,hkl,fun e=>by cases e⟩ fun h8 n8 q8=>?_
       have ww:=ww.a @wn
       refine wk ?_
       exact q8 _ aA
     | false =>
       obtain⟨ci,cc,eV,hci,_,mD,cA8,cN8⟩:=mg s6 hkl
       have c4:=cN8 4 4 ao
       simp only[KD.cells,mB,eh,iX,iH]at c4
       have ww:=ww.a (aN @mD @c4)
       refine wk ?_
       refine AV (x:=M.ax[k]) s6 hg hc hs fun b h7 x7 hb7=>?_
       have n7:=x7.n
       have X7:=X6.jI x7
       have ga7:=x7.cY ga6
       have dt7:=aq (off:=0) (n:=2) ah ga7 rfl rfl
       have d17:=aD x7 ah d16
       have d27:=aD x7 ah d26
       have d07:=aD x7 ah d06
       have s7:=s.ext X7
       obtain⟨ci',cc',eV',_,_,k23',cA9,cN9⟩:=mg s7 hkl
       have e4:=dk cA9 (j:=4) (v:=iv M.ax[k].kind) rfl
       have e7:=dk cA9 (j:=7) (v:=.int .u8 M.ax[k].ri) rfl
       cases b with
       | false =>
         refine wk ?_
         refine badK X7 ga7 fun h8 X8 n8 g8=>?_
         have dt8:=aq (off:=0) (n:=2) ah g8 rfl rfl
         refine wk ?_
         exact bad _ ao X8
       | true =>
         have hal:=hb7 rfl
         by_cases hk0:nk=0
         · subst hk0;by_cases hr:IntKind.u8.wrap ((BitVec.ofInt IntKind.u8.bits nr &&& ~~~BitVec.ofInt IntKind.u8.bits M.ax[k].ri).toNat:Nat)=0;· have ww:=ww.a (aN @k23' @fu);refine wk ?_;refine done x7 ⟨k,rfl,hkl,fun _=>⟨hal,fun h=>absurd rfl h⟩⟩ fun h8 n8 q8=>?_;have ww:=ww.a @wn;refine wk ?_;exact q8 _ aA
           · have ww:=ww.a (aN @k23' @fu);refine wk ?_;refine badK X7 ga7 fun h8 X8 n8 g8=>?_;have dt8:=aq (off:=0) (n:=2) ah g8 rfl rfl;refine wk ?_;exact bad _ ao X8
         · by_cases hkk:nk=M.ax[k].kind
           · by_cases hr:IntKind.u8.wrap ((BitVec.ofInt IntKind.u8.bits nr &&& ~~~BitVec.ofInt IntKind.u8.bits M.ax[k].ri).toNat:Nat)=0;· have ww:=ww.a (aN @k23' @fu);refine wk ?_;refine done x7 ⟨k,rfl,hkl,fun _=>⟨hal,fun _=>hkk⟩⟩ fun h8 n8 q8=>?_;have ww:=ww.a @wn;refine wk ?_;exact q8 _ aA
             · have ww:=ww.a (aN @k23' @fu);refine wk ?_;refine badK X7 ga7 fun h8 X8 n8 g8=>?_;have dt8:=aq (off:=0) (n:=2) ah g8 rfl rfl;refine wk ?_;exact bad _ ao X8
           · have ww:=ww.a (aN @k23' @fu);refine wk ?_;refine badK X7 ga7 fun h8 X8 n8 g8=>?_;have dt8:=aq (off:=0) (n:=2) ah g8 rfl rfl;refine wk ?_;exact bad _ ao X8
 · obtain rfl:j=(cI kd).length:=ah;have dt:=aq (off:=0) (n:=2) ah ga rfl rfl;refine wk ?_;refine aM (off:=0) (cs':=[iv p,iv q]) ga rfl rfl rfl rfl ao ?_;have g7:(aO h4 (h.n+1) (.cells [iv p,iv q] 211 true)).b.get (h.n+1)=some (.cells [iv p,iv q] 211 true):=aF;have dt7:=aq (off:=0) (n:=2) (by show h.n+1<h4.n;omega) g7 rfl rfl;refine wk ?_;exact hK p q 0 _ (X4.trans (aw.set _ ah)) ip iq fun _ j hj=>ok j hj hj
end Go.Proofs.YthjlppdnlahhoaaGreat
