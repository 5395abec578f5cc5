/- THE PLAIN MACHINE's FUNCTIONS, walked (22). Conditions: none beyond each theorem's own. -/
import Derived.Test.YthjlppdnlahhoaaGreatP21
import Derived.Test.YthjlppdnlahhoaaGreatP20
set_option linter.unusedSimpArgs false
set_option linter.unusedVariables false
namespace Go.Proofs.YthjlppdnlahhoaaGreat
open Go.Ev
open Pl
set_option maxRecDepth 100000
set_option maxHeartbeats 4000000
theorem RF.Zz (l:List RF):(l.map RF.cells).flatten.length=l.length*2:=by rw[gU (sz:=2) _ (fun r hr=>by obtain ⟨x,_,rfl⟩:=bD.1 hr;rfl),aI]
theorem LD.Zz (l:List LD):(l.map LD.cells).flatten.length=l.length*12:=by rw[gU (sz:=12) _ (fun r hr=>by obtain ⟨x,_,rfl⟩:=bD.1 hr;rfl),aI]
theorem RF.one2 (l:List RF):(l.map RF.cells).flatten.all aE=true:=by rw[dX];intro x hx;obtain⟨r,hr,hx⟩:=r_.1 hx;obtain⟨y,_,rfl⟩:=bD.1 hr;simp only[RF.cells,cM,lF,or_false]at hx;rcases hx with rfl|rfl<;>rfl
theorem LD.one2 (l:List LD):(l.map LD.cells).flatten.all aE=true:=by rw[dX];intro x hx;obtain⟨r,hr,hx⟩:=r_.1 hx;obtain⟨y,_,rfl⟩:=bD.1 hr;simp only[LD.cells,cM,lF,or_false]at hx;rcases hx with rfl|rfl|rfl|rfl|rfl|rfl|rfl|rfl|rfl|rfl|rfl|rfl<;>rfl
def XH (B:Nat) (h:ak) (v:Value) (l:List LD):Prop:=∃ a c,v=.slice a l.length c∧l.length≤c∧iz B h a 12 (l.map LD.cells)
theorem XH.ext {B:Nat}{h h':ak}{v:Value}{l:List LD}(r:XH B h v l) (x:aw B h h'):XH B h' v l:=by obtain⟨a,c,e,hc,q⟩:=r;exact⟨a,c,e,hc,q.ext x⟩
theorem XH.first {B:Nat}{h:ak}{v:Value}{l:List LD}(r:XH B h v l) (h0:l.length≠0):firstCells h 12 l.length v=some (l.map LD.cells).flatten:=by obtain⟨a,c,rfl,_,q⟩:=r;obtain⟨b,off,rfl,_,e⟩:=iz.cells q (fun r hr=>by obtain ⟨x,_,rfl⟩:=bD.1 hr;rfl) ao (by simpa using fun e=>h0 (by rw[e];rfl));simp only[firstCells];rw[aI]at e;exact e
theorem Fo {B:Nat}{v:Value}{l:List RF}{h:ak}{K:Value→ak→Prop}(r:NW B h v l) (hB:B≤h.n) (hN:l.length≤50000) (hK:∀ v' h',bT h.n h' 103 v' l.length (l.map RF.cells).flatten→aw h.n h h'→K v' h'):cy env (.func 54) [v] h K:=by
 refine F54 rfl ?_;obtain⟨a,c,rfl,_,q⟩:=id r;cases a with
 | none =>
   have hN0:l=[]:=by
     rcases l with _|⟨x,l⟩;· rfl
     · obtain⟨i,o,e,_⟩:=q 0 an;cases e
   subst hN0
   have ww:=mW (aN @Ix @pD.{0})
   refine wk ?_
   exact hK _ h bT.nil (aw.refl _ _)
 | some a =>
   have ww:=mW (aN @Ix @ti.{0})
   refine wk ?_
   have X1:aw h.n h (ai h (.cells [] 103 true)):=br
   have hn1:(ai h (.cells [] 103 true)).n=h.n+1:=rfl
   refine lN (l:=[]) rfl ?_
   generalize ai h (.cells [] 103 true)=h1 at X1 hn1 ⊢
   refine wk ?_
   refine o0 (bT.emp (B:=h.n) h.n (by omega)) (by omega) rfl rfl (by omega) (fun h0=>((r.ext (X1.mono hB)).first h0)) (RF.Zz l) (RF.one2 l) (by decide) fun v' h' o X2=>?_
   rw[cb,gy]at o
   have n2:=X2.n
   refine wk ?_
   exact hK v' h' o (X1.trans X2)
theorem Ha {B:Nat}{v:Value}{l:List LD}{h:ak}{K:Value→ak→Prop}(r:XH B h v l) (hB:B≤h.n) (hN:l.length≤50000) (hK:∀ v' h',bT h.n h' 174 v' l.length (l.map LD.cells).flatten→aw h.n h h'→K v' h'):cy env (.func 56) [v] h K:=by
 refine F56 rfl ?_;obtain⟨a,c,rfl,_,q⟩:=id r;cases a with
 | none =>
   have hN0:l=[]:=by
     rcases l with _|⟨x,l⟩;· rfl
     · obtain⟨i,o,e,_⟩:=q 0 an;cases e
   subst hN0
   have ww:=mW (aN @Ic @pD.{0})
   refine wk ?_
   exact hK _ h bT.nil (aw.refl _ _)
 | some a =>
   have ww:=mW (aN @Ic @ti.{0})
   refine wk ?_
   have X1:aw h.n h (ai h (.cells [] 174 true)):=br
   have hn1:(ai h (.cells [] 174 true)).n=h.n+1:=rfl
   refine lN (l:=[]) rfl ?_
   generalize ai h (.cells [] 174 true)=h1 at X1 hn1 ⊢
   refine wk ?_
   refine o0 (bT.emp (B:=h.n) h.n (by omega)) (by omega) rfl rfl (by omega) (fun h0=>((r.ext (X1.mono hB)).first h0)) (LD.Zz l) (LD.one2 l) (by decide) fun v' h' o X2=>?_
   rw[cb,gy]at o
   have n2:=X2.n
   refine wk ?_
   exact hK v' h' o (X1.trans X2)
set_option linter.defProp false
def abe:=(aN (aN (aN (aN (aN @gE @gZ) @gu) (aN (aN @eQ @eO) @eG)) (aN (aN (aN @f_ @eK) @eF) (aN @eC @er))) (aN (aN (aN (aN @eM @ff) @eA) (aN (aN @eL @eP) @eD)) (aN (aN (aN @eJ @eH) @eI) (aN @eB @eE))))
def MT:=(aN (aN (aN (aN (aN @gE @gZ) @gu) (aN (aN @eQ @eO) @eG)) (aN (aN (aN @eK @eF) @ek) (aN @er @eM))) (aN (aN (aN (aN @ff @eA) @eL) (aN @eP @eD)) (aN (aN (aN @eJ @eH) @eI) (aN @eB @eE))))
def Mo:=(aN (aN (aN (aN (aN @gE @gZ) @gu) (aN (aN @eQ @eO) @eG)) (aN (aN (aN @eK @eC) @ek) (aN @er @eM))) (aN (aN (aN (aN @ff @eA) @eL) (aN @eP @eD)) (aN (aN (aN @eJ @eH) @eI) (aN @eB @eE))))
def Lr:=(aN (aN (aN (aN (aN @gE @gZ) @gu) (aN (aN @eQ @eO) @eG)) (aN (aN (aN @eF @eC) @ek) (aN @er @eM))) (aN (aN (aN (aN @ff @eA) @eL) (aN @eP @eD)) (aN (aN (aN @eJ @eH) @eI) (aN @eB @eE))))
def aba:=(aN (aN (aN (aN (aN @gE @gZ) @gu) (aN (aN @eQ @eO) @eG)) (aN (aN (aN @eK @eF) @eC) (aN @ek @er))) (aN (aN (aN (aN @eM @ff) @eA) (aN (aN @eL @eP) @eD)) (aN (aN (aN @eJ @eH) @eI) (aN @eB @eE))))
theorem Gs {α β γ:Type}{f:α→β→γ}:∀ {l:List α}{m:List β}{x:α}{y:β},l.length=m.length→List.zipWith f (l++[x]) (m++[y])=List.zipWith f l m++[f x y]
 | [],[],_,_,_=>rfl
 | [],_::_,_,_,h=>by simp at h
 | _::_,[],_,_,h=>by simp at h
 | a::l,b::m,x,y,h=>by simp only[mo,List.zipWith_cons_cons];rw[Gs (by simpa using h)]
theorem Ik {B n:Nat}{h:ak}{e:TypeId}{v:Value}{cs:List Value}(o:bT B h e v n cs):∃ a c,v=.slice a n c∧(a=none∨∃ i,a=some ⟨i,0,none⟩):=by
 cases o;·exact⟨_,_,rfl,.inl rfl⟩
 ·exact⟨_,_,rfl,.inr ⟨_,rfl⟩⟩
 ·exact⟨_,_,rfl,.inr ⟨_,rfl⟩⟩
theorem IQ {a:Ad}{V:VD}{h0 h:ak}{M:MD}{b:Nat}{vT vK v1 v2 v3 v4 v5 v6 vM:Value}{RT RK:List (List Value)}{fr:Go.Ev.Fr}{Q:Ex→Go.Ev.Fr→ak→Prop}(s0:St a V h0 M) (X0:aw h0.n h0 h) (hgl:M.cl.length≤1000) (hrf:kQ M.cl)
  (L0:LI h0.n h b 60 [uv M.now] [vT,nS,nS,vK] [v1,v2,v3,v4,v5,v6,vM] [159,166,171,160] [RT,[],[],RK]) (f0:fr.get 0=some (mp a)) (f2:fr.get 2=some (pt b 0))
  (hQ:∀ fr' h' vC (cvs:List Value),fr'.get 0=some (mp a)→fr'.get 2=some (pt b 0)→LI h0.n h' b 60 [uv M.now] [vT,vC,nS,vK] [v1,v2,v3,v4,v5,v6,vM] [159,166,171,160] [RT,(List.zipWith (gM M.cl) (hH M.cl M.cl.length) cvs),[],RK]→Kp (LO b [vT,nS,nS,vK]) (LO b [vT,vC,nS,vK]) h h'→aw h0.n h0 h'→cvs.length=(hH M.cl M.cl.length).length→(∀ i (h1:i<cvs.length) (h2:i<(hH M.cl M.cl.length).length),RW (fun j=>h0.n≤j∧¬LO b [vT,vC,nS,vK] j) h' cvs[i] 2 (kW M.cl (hH M.cl M.cl.length)[i]))→Q .normal fr' h'):Iw.wp env 154 none fr h Q:=by
 unfold mp at *
 have s:=s0.ext X0
 have ww:=mW abe
 refine wk ?_
 refine aP (fun m fr' h''=>∃ (q:Nat) (vC:Value) (cvs:List Value),q≤M.cl.length∧m=M.cl.length-q∧fr'.get 95=some (iv q)∧LI h0.n h'' b 60 [uv M.now] [vT,vC,nS,vK] [v1,v2,v3,v4,v5,v6,vM] [159,166,171,160] [RT,(List.zipWith (gM M.cl) (hH M.cl q) cvs),[],RK]∧Kp (LO b [vT,nS,nS,vK]) (LO b [vT,vC,nS,vK]) h h''∧aw h0.n h0 h''∧cvs.length=(hH M.cl q).length∧∀ i (h1:i<cvs.length) (h2:i<(hH M.cl q).length),RW (fun j=>h0.n≤j∧¬LO b [vT,vC,nS,vK] j) h'' cvs[i] 2 (kW M.cl (hH M.cl q)[i])) M.cl.length ?_ ah ?_
 ·exact⟨0,nS,[],ah,ah,aA,L0,Kp.refl _ _,X0,rfl,fun i h1=>absurd h1 an⟩
 rintro m fr5 h5 ⟨q,vC,cvs,hq,rfl,f95,L,kp,X,hcl,hcv⟩ hag
 have q0:fr5.get 0=some (pt a.m 0):=(hag 0 rfl).trans (by simp[T.aj,f0])
 have q2:fr5.get 2=some (pt b 0):=(hag 2 rfl).trans (by simp[T.aj,f2])
 have s5:=s0.ext X
 have n5:=X.n
 have hil:=AU M.cl q
 by_cases aT:q<M.cl.length
 ·have wq:=rU q;have lq0:(q:Int)<(M.cl.length:Int):=ah;obtain⟨w,hwl,hw,cr,_,cA⟩:=s0.Bi (k:=q) aT;obtain⟨ra,rc,re,_⟩:=cr.ref.len;have rr:=cr.ref;rw[re]at rr;replace cA:=aG X (s0.lt _ uj) cA;have cA:av h5 (ad a.c (q*6)) 6=some [uv w.gen,.bool w.is,uv w.x.iP,uv w.x.ee,.slice ra (M.cl[q].x.ref.map RF.cells).length rc,iv w.x.dH]:=by rw[cA];simp only[Ob.cells,XW.cells,re]
  have ww:=mW (aN MT @lq0);refine wk ?_;obtain⟨h6,eh6⟩:=gz (ai h5 (.cells [uv w.gen,.bool w.is,uv w.x.iP,uv w.x.ee,.slice ra (M.cl[q].x.ref.map RF.cells).length rc,iv w.x.dH] 127 true));have X6:=tW eh6;have g6:=Dj eh6;have n6:=qk eh6;rw[eh6];have L6:=L.ext X6;have Y6:aw h0.n h0 h6:=X.trans (X6.mono n5);have hcv6:∀ i (h1:i<cvs.length) (h2:i<(hH M.cl q).length),RW (fun j=>h0.n≤j∧¬LO b [vT,vC,nS,vK] j) h6 cvs[i] 2 (kW M.cl (hH M.cl q)[i]):=fun i a c=>(hcv i a c).ext X6;have cis:=ay (off:=1) (show h5.n<h6.n by omega) g6 rfl;have r4:av h6 (ad h5.n 2) 4=some [uv w.x.iP,uv w.x.ee,.slice ra (M.cl[q].x.ref.map RF.cells).length rc,iv w.x.dH]:=aq ah g6 rfl rfl;have egen:=cr.gen;have eis:=cr.is;by_cases hi:M.cl[q].is=true
  ·rw[eis,hi]at cis;have hx:hH M.cl (q+1)=hH M.cl q++[q]:=by simp only[hH,bw aT,hi,if_true]
   have ww:=mW Mo;refine wk ?_;obtain⟨h7,eh7⟩:=gz (ai h6 (.cells [uv w.x.iP,uv w.x.ee,.slice ra (M.cl[q].x.ref.map RF.cells).length rc,iv w.x.dH] 88 true));have X7:=tW eh7;have g7:=Dj eh7;have n7:=qk eh7;rw[eh7];have hrl:=hrf q aT;have ww:=mW Lr;refine wk ?_;refine Fo (l:=M.cl[q].x.ref) (NW.ext (RS.F rr) (Y6.trans (X7.mono ah))) (by have:=Y6.n;omega) ah fun cv h8 ow x8=>?_;have n8:=x8.n;obtain⟨ca,cc,cvo,csp⟩:=Ik ow;obtain⟨cn,hcn⟩:∃ cn,cn=M.cl[q].x.ref.length:=⟨_,rfl⟩;rw[← hcn]at cvo;have rw8:RW (fun j=>h7.n≤j) h8 cv 2 (M.cl[q].x.ref.map RF.cells):=(RS.iS (O:=fun j=>j<h7.n) (h:=h8) (rows:=M.cl[q].x.ref.map RF.cells) (e:=103) (N:=h7.n) (by rw[aI];exact ow) (fun r hr=>by obtain ⟨x,_,rfl⟩:=bD.1 hr;rfl) (fun j hj=>hj) (by rw[aI];omega)).rw fun j _ h=>ah;subst cvo;have g78:=x8.cY g7;refine wk ?_;refine aM (off:=2) (cs':=[uv w.x.iP,uv w.x.ee,.slice ca cn cc,iv w.x.dH]) g78 rfl rfl rfl rfl ao ?_;obtain⟨hs,ehs⟩:=gz (aO h8 h6.n (.cells [uv w.x.iP,uv w.x.ee,.slice ca cn cc,iv w.x.dH] 88 true));have Xs:aw h6.n h6 hs:=ehs▸((X7.jI x8).trans (aw.set _ a_));have gs:=rS ehs;have rws:RW (fun j=>h7.n≤j) hs (.slice ca cn cc) 2 (M.cl[q].x.ref.map RF.cells):=ehs▸(rw8.bM a_ fun j hj _=>⟨aC ah,hj⟩);have ns:=sW ehs;rw[ehs];have Ls:=L6.ext Xs;have Ys:aw h0.n h0 hs:=Y6.trans (Xs.mono (by have:=Y6.n;omega));have cVs:cellAt hs (ad b 2)=some vC:=ay Ls.lt Ls.get rfl;have rxs:av hs (ad h6.n 0) 4=some [uv w.x.iP,uv w.x.ee,.slice ca cn cc,iv w.x.dH]:=aq ah gs rfl rfl;refine wk ?_;have ww:=mW aba;refine wk ?_;refine Fi (s0.ext Ys) aT fun h9 x9=>?_;have n9:=x9.n;have L9:=Ls.ext x9;have lb:=L9.lt;have cV9:cellAt h9 (ad b 2)=some vC:=ay L9.lt L9.get rfl;have gC:GR h0.n h9 166 vC (List.zipWith (gM M.cl) (hH M.cl q) cvs):=L9.gr 1 an an an;have same_v:=pf gC;have rx9:=aG x9 (show h6.n<hs.n by omega) rxs;have same_X:(bt 50 (.agg ⟨[uv w.x.iP,uv w.x.ee,.slice ca cn cc,iv w.x.dH]⟩) (.agg ⟨[uv w.x.iP,uv w.x.ee,.slice ca cn cc,iv w.x.dH]⟩)=true)=True:=by rcases csp with rfl|⟨i,rfl⟩<;>simp[bt,bt.go]
   have zl:(List.zipWith (gM M.cl) (hH M.cl q) cvs).length≤1000:=by rw[wJ];omega
   have ww:=ww.a (aN @same_v @same_X);refine wk ?_;refine oO (sz:=6) (new:=[iv q,uv M.cl[q].gen,uv w.x.iP,uv w.x.ee,.slice ca cn cc,iv w.x.dH]) gC (by have:=Ys.n;omega) rfl (fun r hr=>by obtain⟨i,hi,rfl⟩:=eU hr;rw[AY];exact zi) rfl rfl ah ao fun h10 g10 hn10 hk10=>?_;have gb:=L9.Dh (i:=1) an (aw.refl _ _) hk10;have nv:(ai h9 (.cells [iv q,uv M.cl[q].gen,uv w.x.iP,uv w.x.ee,.slice ca cn cc,iv w.x.dH] 166 true)).n=h9.n+1:=rfl;refine wk ?_;refine aM (off:=2) (cs':=[uv M.now,vT,(.slice (some ⟨h9.n+1,0,none⟩) ((List.zipWith (gM M.cl) (hH M.cl q) cvs).length+1) bh),nS,vK,v1,v2,v3,v4,v5,v6,vM]) gb rfl rfl rfl rfl ao ?_;obtain⟨L11,k11,x11⟩:=L9.step (i:=1) an an an (aw.refl _ _) hn10 g10 hk10 (w:=[uv M.now,vT,(.slice (some ⟨h9.n+1,0,none⟩) ((List.zipWith (gM M.cl) (hH M.cl q) cvs).length+1) bh),nS,vK,v1,v2,v3,v4,v5,v6,vM]) rfl;obtain⟨h11,eh11⟩:=gz (aO h10 b (.cells [uv M.now,vT,(.slice (some ⟨h9.n+1,0,none⟩) ((List.zipWith (gM M.cl) (hH M.cl q) cvs).length+1) bh),nS,vK,v1,v2,v3,v4,v5,v6,vM] 60 true));have nn:h11.n=h9.n+2:=eh11▸hn10;rw[eh11];try rw[eh11]at L11;try rw[eh11]at k11;try rw[eh11]at x11
   have hrow:gM M.cl q (.slice ca cn cc)=[iv q,uv M.cl[q].gen,uv w.x.iP,uv w.x.ee,.slice ca cn cc,iv w.x.dH]:=by unfold gM;rw[bw aT,cr.iP,cr.ee,cr.dH]
   have hZ:(List.zipWith (gM M.cl) (hH M.cl (q+1)) (cvs++[Value.slice ca cn cc]))=(List.zipWith (gM M.cl) (hH M.cl q) cvs)++[[iv q,uv M.cl[q].gen,uv w.x.iP,uv w.x.ee,.slice ca cn cc,iv w.x.dH]]:=by rw[hx,Gs hcl.symm,hrow]
   have L12:LI h0.n h11 b 60 [uv M.now] [vT,(.slice (some ⟨h9.n+1,0,none⟩) ((List.zipWith (gM M.cl) (hH M.cl q) cvs).length+1) bh),nS,vK] [v1,v2,v3,v4,v5,v6,vM] [159,166,171,160] [RT,(List.zipWith (gM M.cl) (hH M.cl (q+1)) (cvs++[Value.slice ca cn cc])),[],RK]:=by rw[hZ];exact L11
   have kc:Kp (LO b [vT,vC,nS,vK]) (LO b [vT,(.slice (some ⟨h9.n+1,0,none⟩) ((List.zipWith (gM M.cl) (hH M.cl q) cvs).length+1) bh),nS,vK]) h6 h11:=(Kp.ext Xs).trans ((Kp.ext x9).trans k11);have kb:Kp (LO b [vT,vC,nS,vK]) (LO b [vT,(.slice (some ⟨h9.n+1,0,none⟩) ((List.zipWith (gM M.cl) (hH M.cl q) cvs).length+1) bh),nS,vK]) hs h11:=(Kp.ext x9).trans k11;have hl2:(cvs++[Value.slice ca cn cc]).length=(hH M.cl (q+1)).length:=by rw[hx];simp[hcl]
   have ww:=mW (aN M7 @wq);refine wk ?_;refine⟨M.cl.length-(q+1),ah,q+1,_,cvs++[Value.slice ca cn cc],ah,rfl,aA,L12,(kp.trans (Kp.ext X6)).trans kc,Ys.trans ((x9.mono (by have:=Ys.n;omega)).trans x11),hl2,fun i h1 h2=>?_⟩;by_cases hi2:i<cvs.length
   ·have e1:(hH M.cl (q+1))[i]=(hH M.cl q)[i]'(by omega):=by
     have:(hH M.cl (q+1))[i]?=(hH M.cl q)[i]?:=by rw[hx,List.getElem?_append_left ah]
     rw[bw h2,bw ah]at this;exact gY this
    rw[e1,Ae hi2];exact(hcv6 i hi2 ah).bM kc.n fun j ho hj=>⟨kc.get j hj ho.2,ho.1,fun o=>ho.2 (kc.own j hj o)⟩
   ·have h1':i<cvs.length+1:=by simpa using h1
    obtain rfl:i=cvs.length:=ah;have e1:(hH M.cl (q+1))[cvs.length]=q:=by
     have:(hH M.cl (q+1))[cvs.length]?=some q:=by rw[hx,List.getElem?_append_right ah,hcl];simp
     rw[bw h2]at this;exact gY this
    have e2:(cvs++[Value.slice ca cn cc])[cvs.length]=Value.slice ca cn cc:=by rw[sH a_];simp
    have e3:kW M.cl q=M.cl[q].x.ref.map RF.cells:=by unfold kW;rw[bw aT]
    rw[e1,e2,e3];exact rws.bM kb.n fun j hj hjn=>by
     have ho:¬LO b [vT,vC,nS,vK] j:=fun o=>by have:=(L6.lo o).2;omega
     exact⟨kb.get j hjn ho,by have:=Y6.n;omega,fun o=>ho (kb.own j hjn o)⟩
  ·have hi':M.cl[q].is=false:=by simpa using hi
   rw[eis,hi']at cis;have hx:hH M.cl (q+1)=hH M.cl q:=by simp only[hH,bw aT,hi',dQ,if_false,ei]
   have ww:=mW (aN M7 @wq);refine wk ?_;exact⟨M.cl.length-(q+1),ah,q+1,vC,cvs,ah,rfl,aA,by rw[hx];exact L6,kp.trans (Kp.ext X6),Y6,by rw[hx];exact hcl,by rw[hx];exact hcv6⟩
 ·obtain rfl:q=M.cl.length:=ah;have ww:=mW M7;refine wk ?_;exact hQ _ h5 vC cvs (by simp[T.aj];exact q0) (by simp[T.aj];exact q2) L kp X hcl hcv
def aaD:=(aN (aN (aN (aN (aN @gE @gZ) @gu) (aN (aN @eO @eG) @f_)) (aN (aN (aN @eK @eF) @eC) (aN @ek @er))) (aN (aN (aN (aN @eM @ff) @eA) (aN (aN @eL @eP) @eD)) (aN (aN (aN @eJ @eH) @eI) (aN @eB @eE))))
def Vp:=(aN (aN (aN (aN (aN @gE @eQ) @eO) (aN (aN @eG @f_) @eK)) (aN (aN (aN @eF @eC) @ek) (aN @er @eM))) (aN (aN (aN (aN @ff @eA) @eL) (aN @eP @eD)) (aN (aN (aN @eJ @eH) @eI) (aN @eB @eE))))
def V30_3:=(aN (aN (aN (aN (aN @gE @gu) @eQ) (aN (aN @eO @eG) @f_)) (aN (aN (aN @eK @eF) @eC) (aN @ek @er))) (aN (aN (aN (aN @eM @ff) @eA) (aN (aN @eL @eP) @eD)) (aN (aN (aN @eJ @eH) @eI) (aN @eB @eE))))
theorem HB {a:Ad}{V:VD}{h0 h:ak}{M:MD}{b:Nat}{vT vC vK v1 v2 v3 v4 v5 v6 vM:Value}{RT RC RK:List (List Value)}{fr:Go.Ev.Fr}{Q:Ex→Go.Ev.Fr→ak→Prop}(s0:St a V h0 M) (X0:aw h0.n h0 h) (hgl:M.sh.length≤1000) (hca:Ke M.sh)
  (L0:LI h0.n h b 60 [uv M.now] [vT,vC,nS,vK] [v1,v2,v3,v4,v5,v6,vM] [159,166,171,160] [RT,RC,[],RK]) (f0:fr.get 0=some (mp a)) (f2:fr.get 2=some (pt b 0))
  (hQ:∀ fr' h' vD,fr'.get 0=some (mp a)→fr'.get 2=some (pt b 0)→LI h0.n h' b 60 [uv M.now] [vT,vC,vD,vK] [v1,v2,v3,v4,v5,v6,vM] [159,166,171,160] [RT,RC,qA M.sh M.sh.length,RK]→Kp (LO b [vT,vC,nS,vK]) (LO b [vT,vC,vD,vK]) h h'→aw h0.n h0 h'→Q .normal fr' h'):Hq.wp env 154 none fr h Q:=by
 unfold mp at *
 have s:=s0.ext X0
 have ww:=mW aaD
 refine wk ?_
 refine aP (fun m fr' h''=>∃ (q:Nat) (vD:Value),q≤M.sh.length∧m=M.sh.length-q∧fr'.get 127=some (iv q)∧LI h0.n h'' b 60 [uv M.now] [vT,vC,vD,vK] [v1,v2,v3,v4,v5,v6,vM] [159,166,171,160] [RT,RC,qA M.sh q,RK]∧Kp (LO b [vT,vC,nS,vK]) (LO b [vT,vC,vD,vK]) h h''∧aw h0.n h0 h'') M.sh.length ?_ ah ?_
 ·exact⟨0,nS,ah,ah,aA,L0,Kp.refl _ _,X0⟩
 rintro m fr5 h5 ⟨q,vD,hq,rfl,f127,L,kp,X⟩ hag
 have q0:fr5.get 0=some (pt a.m 0):=(hag 0 rfl).trans (by simp[T.aj,f0])
 have q2:fr5.get 2=some (pt b 0):=(hag 2 rfl).trans (by simp[T.aj,f2])
 have s5:=s0.ext X
 have n5:=X.n
 by_cases aT:q<M.sh.length
 ·have wq:=rU q;have lq0:(q:Int)<(M.sh.length:Int):=ah;have sA:=s5.sA aT;have ww:=mW (aN (aN Vp @sA) @lq0);refine wk ?_;obtain⟨h6,eh6⟩:=gz (ai h5 (.cells (Ob.cells SD.cells M.sh[q]) 129 true));have X6:=tW eh6;have g6:=Dj eh6;have n6:=qk eh6;rw[eh6];have L6:=L.ext X6;have Y6:aw h0.n h0 h6:=X.trans (X6.mono n5);have cis:=ay (off:=1) (show h5.n<h6.n by omega) g6 rfl;obtain⟨hz1,hz2⟩:=yx M.sh q;by_cases hi:M.sh[q].is=true
  ·rw[hi]at cis;have hx:D2 M.sh q=[(iv q::uv M.sh[q].gen::(iu M.sh ⟨(q:Int),(M.sh[q].gen:Int)⟩ M.sh[q].x M.sh.length).cells)]:=by unfold D2;rw[bw aT];simp only[hi,if_true]
   have cD:cellAt h6 (ad b 3)=some vD:=ay L6.lt L6.get rfl;have ww:=mW V30_3;refine wk ?_;refine vz (s0.ext Y6) aT fun h7 x7=>?_;have n7:=x7.n;have Y7:aw h0.n h0 h7:=Y6.trans (x7.mono (by have:=Y6.n;omega));have same_v:(bt 50 vD vD=true)=True:=pf (L6.gr 2 an an an);have cD7:cellAt h7 (ad b 3)=some vD:=ay (L6.ext x7).lt (L6.ext x7).get rfl;have ww:=ww.a @same_v;refine wk ?_;refine vz (s0.ext Y7) aT fun h8 x8=>?_;have n8:=x8.n;have Y8:aw h0.n h0 h8:=Y7.trans (x8.mono (by have:=Y7.n;omega));have cD8:cellAt h8 (ad b 3)=some vD:=ay ((L6.ext x7).ext x8).lt ((L6.ext x7).ext x8).get rfl;refine wk ?_;refine qY (r:=⟨(q:Int),(M.sh[q].gen:Int)⟩) (s0.ext Y8) hgl (fh aT hi) aT hca fun h9 x9=>?_;have n9:=x9.n;have Y9:aw h0.n h0 h9:=Y8.trans (x9.mono (by have:=Y8.n;omega));have x69:aw h6.n h6 h9:=x7.trans ((x8.mono ah).trans (x9.mono ah));have L9:=L6.ext x69;have lb:=L9.lt;have cD9:cellAt h9 (ad b 3)=some vD:=ay L9.lt L9.get rfl;have gD:GR h0.n h9 171 vD (qA M.sh q):=L9.gr 2 an an an;refine wk ?_;refine oO (sz:=13) (new:=(iv q::uv M.sh[q].gen::(iu M.sh ⟨(q:Int),(M.sh[q].gen:Int)⟩ M.sh[q].x M.sh.length).cells)) gD (by have:=Y9.n;omega) rfl hz2 rfl rfl ah ao fun h10 g10 hn10 hk10=>?_;have gb:=L9.Dh (i:=2) an (aw.refl _ _) hk10;have nv:(ai h9 (.cells (iv q::uv M.sh[q].gen::(iu M.sh ⟨(q:Int),(M.sh[q].gen:Int)⟩ M.sh[q].x M.sh.length).cells) 171 true)).n=h9.n+1:=rfl;refine wk ?_;refine aM (off:=3) (cs':=[uv M.now,vT,vC,(.slice (some ⟨h9.n+1,0,none⟩) ((qA M.sh q).length+1) bh),vK,v1,v2,v3,v4,v5,v6,vM]) gb rfl rfl rfl rfl ao ?_;obtain⟨L11,k11,x11⟩:=L9.step (i:=2) an an an (aw.refl _ _) hn10 g10 hk10 (w:=[uv M.now,vT,vC,(.slice (some ⟨h9.n+1,0,none⟩) ((qA M.sh q).length+1) bh),vK,v1,v2,v3,v4,v5,v6,vM]) rfl;obtain⟨h11,eh11⟩:=gz (aO h10 b (.cells [uv M.now,vT,vC,(.slice (some ⟨h9.n+1,0,none⟩) ((qA M.sh q).length+1) bh),vK,v1,v2,v3,v4,v5,v6,vM] 60 true));have nn:h11.n=h9.n+2:=eh11▸hn10;rw[eh11];try rw[eh11]at L11;try rw[eh11]at k11;try rw[eh11]at x11
   have L12:LI h0.n h11 b 60 [uv M.now] [vT,vC,(.slice (some ⟨h9.n+1,0,none⟩) ((qA M.sh q).length+1) bh),vK] [v1,v2,v3,v4,v5,v6,vM] [159,166,171,160] [RT,RC,qA M.sh (q+1),RK]:=by simp only[qA];rw[hx];exact L11
   have kc:Kp (LO b [vT,vC,vD,vK]) (LO b [vT,vC,(.slice (some ⟨h9.n+1,0,none⟩) ((qA M.sh q).length+1) bh),vK]) h5 h11:=(Kp.ext X6).trans ((Kp.ext x69).trans k11);have ww:=mW (aN M7 @wq);refine wk ?_;exact⟨M.sh.length-(q+1),ah,q+1,_,ah,rfl,aA,L12,kp.trans kc,Y9.trans x11⟩
  ·have hi':M.sh[q].is=false:=by simpa using hi
   rw[hi']at cis;have hx:D2 M.sh q=[]:=by unfold D2;rw[bw aT];simp only[hi',dQ,if_false]
   have ww:=mW (aN M7 @wq);refine wk ?_;exact⟨M.sh.length-(q+1),ah,q+1,vD,ah,rfl,aA,by simp only[qA];rw[hx,ei];exact L6,kp.trans (Kp.ext X6),Y6⟩
 ·obtain rfl:q=M.sh.length:=ah;have ww:=mW M7;refine wk ?_;exact hQ _ h5 vD (by simp[T.aj];exact q0) (by simp[T.aj];exact q2) L kp X
def YP:=(aN (aN (aN (aN (aN @gE @gZ) @gu) (aN (aN @eQ @eO) @eG)) (aN (aN (aN @f_ @eK) @eF) (aN @eC @ek))) (aN (aN (aN (aN @er @eM) @ff) (aN (aN @eA @eL) @eP)) (aN (aN (aN @eD @eJ) @eH) (aN @eI @eB))))
def Yx:=(aN (aN (aN (aN (aN @gE @gZ) @gu) (aN (aN @eQ @eO) @eG)) (aN (aN (aN @f_ @eK) @eF) (aN @eC @ek))) (aN (aN (aN (aN @er @eM) @ff) (aN (aN @eA @eL) @eP)) (aN (aN (aN @eD @eJ) @eH) (aN @eI @eE))))
def YX:=(aN (aN (aN (aN (aN @gE @gZ) @gu) (aN (aN @eQ @eO) @eG)) (aN (aN (aN @f_ @eK) @eF) (aN @eC @ek))) (aN (aN (aN (aN @er @eM) @ff) (aN (aN @eA @eL) @eP)) (aN (aN (aN @eD @eJ) @eH) (aN @eB @eE))))
def LS:=(aN (aN (aN (aN (aN @gE @gZ) @gu) (aN (aN @eQ @eO) @eG)) (aN (aN (aN @f_ @eK) @eF) (aN @eC @ek))) (aN (aN (aN (aN @er @ff) @eA) (aN @eL @eP)) (aN (aN (aN @eD @eJ) @eI) (aN @eB @eE))))
def MQ:=(aN (aN (aN (aN (aN @gE @gZ) @gu) (aN (aN @eQ @eO) @f_)) (aN (aN (aN @eK @eF) @eC) (aN @ek @eM))) (aN (aN (aN (aN @ff @eA) @eL) (aN @eP @eD)) (aN (aN (aN @eJ @eH) @eI) (aN @eB @eE))))
def OI:=(aN (aN (aN (aN (aN @gZ @gu) @eQ) (aN (aN @eG @f_) @eK)) (aN (aN (aN @eF @eC) @ek) (aN @er @eM))) (aN (aN (aN (aN @ff @eA) @eL) (aN @eP @eD)) (aN (aN (aN @eJ @eH) @eI) (aN @eB @eE))))
theorem RW.sl {P:Nat→Prop}{h:ak}{v:Value}{sz:Nat}{rows:List (List Value)}(r:RW P h v sz rows):aE v=true∧v.cells.toList=[v]:=by obtain⟨_,_,rfl,_⟩:=r;exact⟨rfl,rfl⟩
theorem Sk {a:Ad}{V:VD}{h:ak}{M:MD}{n:Nat}{K:Value→ak→Prop}(s:St a V h M) (I:Inv n M) (hn:n≤300) (hps:0<M.ps.length)
  (hK:∀ v h',aw h.n h h'→rH h.n h' v M→K v h'):cy env (.func 30) [mp a] h K:=by
 unfold mp at *
 refine F30 rfl ?_
 obtain⟨h1,eh1⟩:=gz (ai h (.cells [.int .u64 0,.slice none 0 0,.slice none 0 0,.slice none 0 0,.slice none 0 0,.slice none 0 0,.slice none 0 0,.slice none 0 0,.slice none 0 0,.slice none 0 0,.slice none 0 0,.slice none 0 0] 60 true))
 have X1:=tW eh1
 have g1:=Dj eh1
 have n1:=qk eh1
 have ww:=mW YP
 refine wk ?_
 rw[eh1]
 have s1:=s.ext X1
 have ww:=mW Yx
 refine wk ?_
 refine vZ s1 hps ?_
 have cl:=I.Iz hn
 have LF:=s1.LF
 obtain⟨ta,tc,te,_⟩:=s1.tm.len
 rw[te]at LF
 refine wk ?_
 have ww:=mW YX
 refine wk ?_
 refine Ht s1 I.q.Bj I.q.sm fun v1 v2 v3 v4 v5 v6 rvs O h2 hO x2 G1 G2 G3 G4 G5 hrl hrv r6=>?_
 have n2:=x2.n
 have s2:=s1.ext x2
 have kk27:=s2.LF
 rw[te]at kk27
 have tl:=I.Wb
 have rT:=RS.T s2.tm
 rw[te]at rT
 have same_T:=s2.tm.c.same
 rw[te]at same_T
 have ww:=ww.a @same_T
 refine wk ?_
 refine td rT a_ ah fun vM h3 oM x3=>?_
 have n3:=x3.n
 obtain⟨ma,mc,rfl,msp⟩:=Ik oM
 have s3:=s2.ext x3
 have k327:=s3.LF
 rw[te]at k327
 refine wk ?_
 have A1:RW (fun j=>h1.n≤j) h3 v1 1 (ba dh M.ps.length M.ps):=((G1).rw (nQ fun _=>rfl) (fun j hB _ _=>hB)).ext x3
 have A2:RW (fun j=>h1.n≤j) h3 v2 1 (ba dK M.ps.length M.ps):=((G2).rw (nQ fun _=>rfl) (fun j hB _ _=>hB)).ext x3
 have A3:RW (fun j=>h1.n≤j) h3 v3 1 (rvs.map da):=((G3).rw (fun r hr=>by obtain ⟨x,_,rfl⟩:=bD.1 hr;rfl) (fun j hB _ _=>hB)).ext x3
 have A4:RW (fun j=>h1.n≤j) h3 v4 1 (ba hG M.ps.length M.ps):=((G4).rw (nQ fun _=>rfl) (fun j hB _ _=>hB)).ext x3
 have A5:RW (fun j=>h1.n≤j) h3 v5 1 (ba gJ M.ps.length M.ps):=((G5).rw (nQ fun _=>rfl) (fun j hB _ _=>hB)).ext x3
 have A6:RW (fun j=>h1.n≤j) h3 v6 1 (M.all.map fun n=>[bZ n]):=(RI.rw r6 (P:=(fun j=>h1.n≤j)) fun j _ ho=>Nat.le_of_not_lt fun hj=>ho (hO j hj)).ext x3
 have A7:RW (fun j=>h1.n≤j) h3 (.slice ma M.tm.length mc) 2 (M.tm.map TD.cells):=(RS.iS (O:=fun j=>j<h2.n) (h:=h3) (rows:=M.tm.map TD.cells) (e:=137) (N:=h2.n) (by rw[aI];exact oM) (fun r hr=>by obtain ⟨x,_,rfl⟩:=bD.1 hr;rfl) (fun j hj=>hj) (by rw[aI];omega)).rw fun j _ h=>ah
 have AR:∀ i (h1':i<rvs.length) (h2':i<M.ps.length),RW (fun j=>h1.n≤j) h3 rvs[i] 1 (M.ps[i].ring.map fun n=>[bZ n]):=fun i a c=>(RI.rw (hrv i a c) (P:=(fun j=>h1.n≤j)) fun j _ ho=>Nat.le_of_not_lt fun hj=>ho (hO j hj)).ext x3
 have o1:=A1.sl.1
 have o2:=A2.sl.1
 have o3:=A3.sl.1
 have o4:=A4.sl.1
 have o5:=A5.sl.1
 have o6:=A6.sl.1
 have g3:=x3.cY (x2.cY g1)
 refine aM (off:=0) (l:=[.int .u64 (M.now:Int),.slice none 0 0,.slice none 0 0,.slice none 0 0,.slice none 0 0,v1,v2,v3,v4,v5,v6,(.slice ma M.tm.length mc)]) (cs':=[.int .u64 (M.now:Int),.slice none 0 0,.slice none 0 0,.slice none 0 0,.slice none 0 0,v1,v2,v3,v4,v5,v6,(.slice ma M.tm.length mc)]) g3 rfl rfl rfl (by simp only[hY,kE,o1,o2,o3,o4,o5,o6,jb,kI];rfl) ao ?_
 obtain⟨hS,ehS⟩:=gz (aO h3 h.n (.cells [.int .u64 (M.now:Int),.slice none 0 0,.slice none 0 0,.slice none 0 0,.slice none 0 0,v1,v2,v3,v4,v5,v6,(.slice ma M.tm.length mc)] 60 true))
 have gS:=rS ehS
 have XS:aw h.n h hS:=ehS▸((X1.trans ((x2.mono ah).trans (x3.mono ah))).trans (aw.set _ a_))
 have nS:=sW ehS
 have stp:∀ {v:Value}{sz:Nat}{rows:List (List Value)},RW (fun j=>h1.n≤j) h3 v sz rows→RW (fun j=>h1.n≤j) hS v sz rows:=ehS▸(fun r=>r.bM a_ fun j hj _=>⟨aC ah,hj⟩)
 have B1:=stp A1
 have B2:=stp A2
 have B3:=stp A3
 have B4:=stp A4
 have B5:=stp A5
 have B6:=stp A6
 have B7:=stp A7
 have BR:=fun i a c=>stp (AR i a c)
 clear stp A1 A2 A3 A4 A5 A6 A7 AR
 rw[ehS];try rw[ehS]at B1;try rw[ehS]at B2;try rw[ehS]at B3;try rw[ehS]at B4;try rw[ehS]at B5;try rw[ehS]at B6;try rw[ehS]at B7;try rw[ehS]at BR
 have L0:LI h.n hS h.n 60 [.int .u64 (M.now:Int)] [Value.slice none 0 0,Value.slice none 0 0,Value.slice none 0 0,Value.slice none 0 0] [v1,v2,v3,v4,v5,v6,(.slice ma M.tm.length mc)] [159,166,171,160] [[],[],[],[]]:=⟨gS,ah,aQ _,rfl,rfl,fun i h1 h2 h3=>by
   have:i=0∨i=1∨i=2∨i=3:=by simp at h1;omega
   rcases this with rfl|rfl|rfl|rfl<;>exact .inl ⟨rfl,rfl⟩,fun i k h1 h2 _ j r=>by
   have:i=0∨i=1∨i=2∨i=3:=by simp at h1;omega
   obtain⟨_,r⟩:=r;rcases this with rfl|rfl|rfl|rfl<;>cases r⟩
 refine wk ?_
 have fin:∀ fr:Go.Ev.Fr,fr.get 0=some (mp a)→fr.get 2=some (.pointer (some ⟨h.n,0,none⟩))→GI.wp env 154 none fr hS (cW env [.cell 2 60] K):=by
  intro fr f0 f2;have ww:=mW LS;refine wk ?_;refine H9 (v1:=v1) (v2:=v2) (v3:=v3) (v4:=v4) (v5:=v5) (v6:=v6) (vM:=(.slice ma M.tm.length mc)) s XS cl.1 I.bP (by have:=I.gl;omega) (fun v hv=>by
   simp only[cM,lF,or_false]at hv;rcases hv with rfl|rfl|rfl|rfl|rfl|rfl|rfl;·exact o1
   ·exact o2
   ·exact o3
   ·exact o4
   ·exact o5
   ·exact o6
   ·rfl) L0 f0 f2 fun fr1 hA vT vK kvs q0 q2 LA kA XA hkl hkv=>?_
  have ww:=mW MQ;refine wk ?_;refine IQ s XA I.cl I.C.ref LA q0 q2 fun fr2 hB vC cvs p0 p2 LB kB XB hcl hcv=>?_;have ww:=mW OI;refine wk ?_;refine HB s XB I.sl (I.JM hn) LB p0 p2 fun fr3 hC vD z0 z2 LC kC XC=>?_;have rc:av hC ⟨h.n,0,none⟩ 12=some [.int .u64 (M.now:Int),vT,vC,vD,vK,v1,v2,v3,v4,v5,v6,(.slice ma M.tm.length mc)]:=aq LC.lt LC.get rfl rfl;have gT:=LC.gr 0 an an an;have gC:=LC.gr 1 an an an;have gD:=LC.gr 2 an an an;have gK:=LC.gr 3 an an an;simp only[hJ,sT]at gT gC gD gK;have oT:=gT.one.1;have oC:=gC.one.1;have oD:=gD.one.1;have oK:=gK.one.1;have ww:=mW M7;refine wk ?_;refine aM (off:=0) (l:=[.int .u64 (M.now:Int),vT,vC,vD,vK,v1,v2,v3,v4,v5,v6,(.slice ma M.tm.length mc)]) (cs':=[.int .u64 (M.now:Int),vT,vC,vD,vK,v1,v2,v3,v4,v5,v6,(.slice ma M.tm.length mc)]) LC.get rfl rfl rfl (by simp only[hY,kE,o1,o2,o3,o4,o5,o6,oT,oC,oD,oK,jb,kI];rfl) ao ?_;have rF:av (aO hC h.n (.cells [.int .u64 (M.now:Int),vT,vC,vD,vK,v1,v2,v3,v4,v5,v6,(.slice ma M.tm.length mc)] 60 true)) ⟨h.n,0,none⟩ 12=some [.int .u64 (M.now:Int),vT,vC,vD,vK,v1,v2,v3,v4,v5,v6,(.slice ma M.tm.length mc)]:=aq (by show h.n<hC.n;exact LC.lt) aF rfl rfl;have XF:aw h.n h (aO hC h.n (.cells [.int .u64 (M.now:Int),vT,vC,vD,vK,v1,v2,v3,v4,v5,v6,(.slice ma M.tm.length mc)] 60 true)):=XC.trans (aw.set _ a_);have kF:Kp (LO h.n [vT,vC,vD,vK]) (LO h.n [vT,vC,vD,vK]) hC (aO hC h.n (.cells [.int .u64 (M.now:Int),vT,vC,vD,vK,v1,v2,v3,v4,v5,v6,(.slice ma M.tm.length mc)] 60 true)):=Kp.set (.inl rfl);have kC':=kC.trans kF;have kB':=kB.trans kC';have kA':=kA.trans kB';have low:∀ j,h1.n≤j→¬LO h.n [Value.slice none 0 0,Value.slice none 0 0,Value.slice none 0 0,Value.slice none 0 0] j:=fun j hj o=>by
   rcases o with rfl|⟨i,hi,_,r⟩;·omega
   ·have:i=0∨i=1∨i=2∨i=3:=by simp at hi;omega
    rcases this with rfl|rfl|rfl|rfl<;>cases r
  have keepL:∀ {v:Value}{sz:Nat}{rows:List (List Value)},RW (fun j=>h1.n≤j) hS v sz rows→RW (fun j=>h.n≤j) (aO hC h.n (.cells [.int .u64 (M.now:Int),vT,vC,vD,vK,v1,v2,v3,v4,v5,v6,(.slice ma M.tm.length mc)] 60 true)) v sz rows:=fun r=>r.bM kA'.n fun j hj hl=>⟨kA'.get j hl (low j hj),ah⟩;have keepK:∀ {v:Value}{sz:Nat}{rows:List (List Value)},RW (fun j=>h.n≤j∧¬LO h.n [vT,Value.slice none 0 0,Value.slice none 0 0,vK] j) hA v sz rows→RW (fun j=>h.n≤j) (aO hC h.n (.cells [.int .u64 (M.now:Int),vT,vC,vD,vK,v1,v2,v3,v4,v5,v6,(.slice ma M.tm.length mc)] 60 true)) v sz rows:=fun r=>r.bM kB'.n fun j hj hl=>⟨kB'.get j hl hj.2,hj.1⟩;have keepC:∀ {v:Value}{sz:Nat}{rows:List (List Value)},RW (fun j=>h.n≤j∧¬LO h.n [vT,vC,Value.slice none 0 0,vK] j) hB v sz rows→RW (fun j=>h.n≤j) (aO hC h.n (.cells [.int .u64 (M.now:Int),vT,vC,vD,vK,v1,v2,v3,v4,v5,v6,(.slice ma M.tm.length mc)] 60 true)) v sz rows:=fun r=>r.bM kC'.n fun j hj hl=>⟨kC'.get j hl hj.2,hj.1⟩;have keepG:∀ {e:TypeId}{v:Value}{sz:Nat}{rows:List (List Value)},GR h.n hC e v rows→(∀ r∈rows,r.length=sz)→RW (fun j=>h.n≤j) (aO hC h.n (.cells [.int .u64 (M.now:Int),vT,vC,vD,vK,v1,v2,v3,v4,v5,v6,(.slice ma M.tm.length mc)] 60 true)) v sz rows:=fun g hr=>((GR.bM (h':=aO hC h.n (.cells [.int .u64 (M.now:Int),vT,vC,vD,vK,v1,v2,v3,v4,v5,v6,(.slice ma M.tm.length mc)] 60 true)) g a_ fun j hj r=>aC fun q=>by obtain⟨_,_,cs,hc⟩:=g.lt r;rw[q,LC.get]at hc;injection hc with hc;injection hc with _ _ h3;cases h3).rw hr fun _ hB _ _=>hB);refine wk ?_;refine hK _ _ XF ⟨vT,vC,vD,vK,v1,v2,v3,v4,v5,v6,(.slice ma M.tm.length mc),rvs,kvs,cvs,rfl,keepG gT (wH _ _).2,keepG gC (fun r hr=>by obtain⟨i,hi,rfl⟩:=eU hr;rw[AY];exact zi),hcl,fun i a c=>keepC (hcv i a c),keepG gD (yx _ _).2,keepG gK (fun r hr=>by obtain ⟨x,_,rfl⟩:=bD.1 hr;rfl),hkl,fun i a=>keepK (hkv i a),keepL B1,keepL B2,keepL B3,hrl,fun i a c=>keepL (BR i a c),keepL B4,keepL B5,keepL B6,keepL B7⟩
 exact fin _ (by simp[T.aj,mp]) aA
theorem ki {E:Env}{t:TypeId}{c:Bool}{l:List Value}{K:Value→Prop}(hp:plainKey E 20 t=true) (he:nP E 100 t (.agg ⟨l⟩) (.agg ⟨l⟩)=some true):cH E .neq t c (.agg ⟨l⟩) (.agg ⟨l⟩) K=K (.bool false):=by rw[EI hp he];rfl
def Rfl (t:TypeId) (rows:List (List Value)):Prop:=∀ r∈rows,nP env 100 t (.agg ⟨r⟩) (.agg ⟨r⟩)=some true
theorem GB {P P':Nat→Prop}{v1 v2:Value}{rows:List (List Value)}{h:ak}{K:Value→ak→Prop}(r1:RW P h v1 12 rows) (r2:RW P' h v2 12 rows) (hl:rows.length≤100000) (he:Rfl 174 rows) (hK:K (.bool true) h):cy env (.func 33) [v1,v2] h K:=by
 obtain⟨a1,c1,rfl,_,q1⟩:=r1;obtain⟨a2,c2,rfl,_,q2⟩:=r2;refine F33 rfl ?_;refine wk ?_;refine aP (fun m fr' h''=>∃ (q:Nat),q≤rows.length∧m=rows.length-q∧fr'.get 5=some (iv q)∧h''=h) rows.length ?_ ah ?_;·exact⟨0,ah,ah,aA,rfl⟩
 rintro m fr2 h2 ⟨q,hq,rfl,f5,hh⟩ hag;rw[hh];clear hh h2;by_cases aT:q<rows.length;·obtain⟨i1,o1,rfl,_,hi1,g1⟩:=q1 q aT;obtain⟨i2,o2,rfl,_,hi2,g2⟩:=q2 q aT;have lq:(q:Int)<(rows.length:Int):=ah;have wq:=rU q;have nq:∀ {c:Bool}{K:Value→Prop},cH env .neq 174 c (.agg ⟨rows[q]⟩) (.agg ⟨rows[q]⟩) K=K (.bool false):=ki c_ (he _ (bG aT));have ww:=mW (aN (aN (aN @lq @g1) @g2) (aN @nq @wq));refine wk ?_;exact⟨rows.length-(q+1),ah,q+1,ah,rfl,aA⟩
 ·obtain rfl:q=rows.length:=ah;refine wk ?_;exact hK
theorem GF {P P':Nat→Prop}{v1 v2:Value}{rows:List (List Value)}{h:ak}{K:Value→ak→Prop}(r1:RW P h v1 21 rows) (r2:RW P' h v2 21 rows) (hl:rows.length≤100000) (he:Rfl 159 rows) (hK:K (.bool true) h):cy env (.func 57) [v1,v2] h K:=by
 obtain⟨a1,c1,rfl,_,q1⟩:=r1;obtain⟨a2,c2,rfl,_,q2⟩:=r2;refine F57 rfl ?_;refine wk ?_;refine aP (fun m fr' h''=>∃ (q:Nat),q≤rows.length∧m=rows.length-q∧fr'.get 5=some (iv q)∧h''=h) rows.length ?_ ah ?_;·exact⟨0,ah,ah,aA,rfl⟩
 rintro m fr2 h2 ⟨q,hq,rfl,f5,hh⟩ hag;rw[hh];clear hh h2;by_cases aT:q<rows.length;·obtain⟨i1,o1,rfl,_,hi1,g1⟩:=q1 q aT;obtain⟨i2,o2,rfl,_,hi2,g2⟩:=q2 q aT;have lq:(q:Int)<(rows.length:Int):=ah;have wq:=rU q;have nq:∀ {c:Bool}{K:Value→Prop},cH env .neq 159 c (.agg ⟨rows[q]⟩) (.agg ⟨rows[q]⟩) K=K (.bool false):=ki c_ (he _ (bG aT));have ww:=mW (aN (aN (aN @lq @g1) @g2) (aN @nq @wq));refine wk ?_;exact⟨rows.length-(q+1),ah,q+1,ah,rfl,aA⟩
 ·obtain rfl:q=rows.length:=ah;refine wk ?_;exact hK
theorem HV {P P':Nat→Prop}{v1 v2:Value}{rows:List (List Value)}{h:ak}{K:Value→ak→Prop}(r1:RW P h v1 13 rows) (r2:RW P' h v2 13 rows) (hl:rows.length≤100000) (he:Rfl 171 rows) (hK:K (.bool true) h):cy env (.func 58) [v1,v2] h K:=by
 obtain⟨a1,c1,rfl,_,q1⟩:=r1;obtain⟨a2,c2,rfl,_,q2⟩:=r2;refine F58 rfl ?_;refine wk ?_;refine aP (fun m fr' h''=>∃ (q:Nat),q≤rows.length∧m=rows.length-q∧fr'.get 5=some (iv q)∧h''=h) rows.length ?_ ah ?_;·exact⟨0,ah,ah,aA,rfl⟩
 rintro m fr2 h2 ⟨q,hq,rfl,f5,hh⟩ hag;rw[hh];clear hh h2;by_cases aT:q<rows.length;·obtain⟨i1,o1,rfl,_,hi1,g1⟩:=q1 q aT;obtain⟨i2,o2,rfl,_,hi2,g2⟩:=q2 q aT;have lq:(q:Int)<(rows.length:Int):=ah;have wq:=rU q;have nq:∀ {c:Bool}{K:Value→Prop},cH env .neq 171 c (.agg ⟨rows[q]⟩) (.agg ⟨rows[q]⟩) K=K (.bool false):=ki c_ (he _ (bG aT));have ww:=mW (aN (aN (aN @lq @g1) @g2) (aN @nq @wq));refine wk ?_;exact⟨rows.length-(q+1),ah,q+1,ah,rfl,aA⟩
 ·obtain rfl:q=rows.length:=ah;refine wk ?_;exact hK
theorem HC {P P':Nat→Prop}{v1 v2:Value}{rows:List (List Value)}{h:ak}{K:Value→ak→Prop}(r1:RW P h v1 2 rows) (r2:RW P' h v2 2 rows) (hl:rows.length≤100000) (he:Rfl 137 rows) (hK:K (.bool true) h):cy env (.func 60) [v1,v2] h K:=by
 obtain⟨a1,c1,rfl,_,q1⟩:=r1;obtain⟨a2,c2,rfl,_,q2⟩:=r2;refine F60 rfl ?_;refine wk ?_;refine aP (fun m fr' h''=>∃ (q:Nat),q≤rows.length∧m=rows.length-q∧fr'.get 5=some (iv q)∧h''=h) rows.length ?_ ah ?_;·exact⟨0,ah,ah,aA,rfl⟩
 rintro m fr2 h2 ⟨q,hq,rfl,f5,hh⟩ hag;rw[hh];clear hh h2;by_cases aT:q<rows.length;·obtain⟨i1,o1,rfl,_,hi1,g1⟩:=q1 q aT;obtain⟨i2,o2,rfl,_,hi2,g2⟩:=q2 q aT;have lq:(q:Int)<(rows.length:Int):=ah;have wq:=rU q;have nq:∀ {c:Bool}{K:Value→Prop},cH env .neq 137 c (.agg ⟨rows[q]⟩) (.agg ⟨rows[q]⟩) K=K (.bool false):=ki c_ (he _ (bG aT));have ww:=mW (aN (aN (aN @lq @g1) @g2) (aN @nq @wq));refine wk ?_;exact⟨rows.length-(q+1),ah,q+1,ah,rfl,aA⟩
 ·obtain rfl:q=rows.length:=ah;refine wk ?_;exact hK
theorem Gy {P P':Nat→Prop}{v1 v2:Value}{rows:List (List Value)}{h:ak}{K:Value→ak→Prop}(r1:RW P h v1 5 rows) (r2:RW P' h v2 5 rows) (hl:rows.length≤100000) (he:Rfl 163 rows) (hK:K (.bool true) h):cy env (.func 62) [v1,v2] h K:=by
 obtain⟨a1,c1,rfl,_,q1⟩:=r1;obtain⟨a2,c2,rfl,_,q2⟩:=r2;refine F62 rfl ?_;refine wk ?_;refine aP (fun m fr' h''=>∃ (q:Nat),q≤rows.length∧m=rows.length-q∧fr'.get 5=some (iv q)∧h''=h) rows.length ?_ ah ?_;·exact⟨0,ah,ah,aA,rfl⟩
 rintro m fr2 h2 ⟨q,hq,rfl,f5,hh⟩ hag;rw[hh];clear hh h2;by_cases aT:q<rows.length;·obtain⟨i1,o1,rfl,_,hi1,g1⟩:=q1 q aT;obtain⟨i2,o2,rfl,_,hi2,g2⟩:=q2 q aT;have lq:(q:Int)<(rows.length:Int):=ah;have wq:=rU q;have nq:∀ {c:Bool}{K:Value→Prop},cH env .neq 163 c (.agg ⟨rows[q]⟩) (.agg ⟨rows[q]⟩) K=K (.bool false):=ki c_ (he _ (bG aT));have ww:=mW (aN (aN (aN @lq @g1) @g2) (aN @nq @wq));refine wk ?_;exact⟨rows.length-(q+1),ah,q+1,ah,rfl,aA⟩
 ·obtain rfl:q=rows.length:=ah;refine wk ?_;exact hK
theorem ES {P P':Nat→Prop}{v1 v2:Value}{rows:List (List Value)}{h:ak}{K:Value→ak→Prop}(r1:RW P h v1 2 rows) (r2:RW P' h v2 2 rows) (hl:rows.length≤100000) (he:Rfl 103 rows) (hK:K (.bool true) h):cy env (.func 103) [v1,v2] h K:=by
 obtain⟨a1,c1,rfl,_,q1⟩:=r1;obtain⟨a2,c2,rfl,_,q2⟩:=r2;refine F103 rfl ?_;refine wk ?_;refine aP (fun m fr' h''=>∃ (q:Nat),q≤rows.length∧m=rows.length-q∧fr'.get 5=some (iv q)∧h''=h) rows.length ?_ ah ?_;·exact⟨0,ah,ah,aA,rfl⟩
 rintro m fr2 h2 ⟨q,hq,rfl,f5,hh⟩ hag;rw[hh];clear hh h2;by_cases aT:q<rows.length;·obtain⟨i1,o1,rfl,_,hi1,g1⟩:=q1 q aT;obtain⟨i2,o2,rfl,_,hi2,g2⟩:=q2 q aT;have lq:(q:Int)<(rows.length:Int):=ah;have wq:=rU q;have nq:∀ {c:Bool}{K:Value→Prop},cH env .neq 103 c (.agg ⟨rows[q]⟩) (.agg ⟨rows[q]⟩) K=K (.bool false):=ki c_ (he _ (bG aT));have ww:=mW (aN (aN (aN @lq @g1) @g2) (aN @nq @wq));refine wk ?_;exact⟨rows.length-(q+1),ah,q+1,ah,rfl,aA⟩
 ·obtain rfl:q=rows.length:=ah;refine wk ?_;exact hK
theorem lJ {P P':Nat→Prop}{v1 v2:Value}{rows:List (List Value)}{h:ak}{K:Value→ak→Prop}(r1:RW P h v1 1 rows) (r2:RW P' h v2 1 rows) (hl:rows.length≤100000) (he:∀ r∈rows,∃ x:Int,r=[iv x]) (hK:K (.bool true) h):cy env (.func 102) [v1,v2] h K:=by
 obtain⟨a1,c1,rfl,_,q1⟩:=r1;obtain⟨a2,c2,rfl,_,q2⟩:=r2;refine F102 rfl ?_;refine wk ?_;refine aP (fun m fr' h''=>∃ (q:Nat),q≤rows.length∧m=rows.length-q∧fr'.get 5=some (iv q)∧h''=h) rows.length ?_ ah ?_;·exact⟨0,ah,ah,aA,rfl⟩
 rintro m fr2 h2 ⟨q,hq,rfl,f5,hh⟩ hag;rw[hh];clear hh h2;by_cases aT:q<rows.length
 ·obtain⟨i1,o1,rfl,_,hi1,g1⟩:=q1 q aT;obtain⟨i2,o2,rfl,_,hi2,g2⟩:=q2 q aT;have lq:(q:Int)<(rows.length:Int):=ah;have wq:=rU q;obtain⟨x,hx⟩:=he _ (bG aT);rw[hx]at g1 g2;have g1':cellAt h (ad i1 (o1+q))=some (iv x):=by rw[bQ]at g1;unfold cellAt;rw[g1]
  have g2':cellAt h (ad i2 (o2+q))=some (iv x):=by rw[bQ]at g2;unfold cellAt;rw[g2]
  have ww:=mW (aN (aN @lq @bQ) @wq);refine wk ?_;exact⟨rows.length-(q+1),ah,q+1,ah,rfl,aA⟩
 ·obtain rfl:q=rows.length:=ah;refine wk ?_;exact hK
theorem C4 (h:ak) (c1 c2:iY):∃ h1,ai (ai h c1) c2=h1∧h1.b.get h.n=some c1∧h1.b.get (h.n+1)=some c2∧h1.n=h.n+2∧aw h.n h h1:=by have X1:aw h.n h (ai h c1):=br;have X2:aw (h.n+1) (ai h c1) (ai (ai h c1) c2):=br;exact⟨_,rfl,X2.cY (az _ _),az (ai h c1) c2,rfl,X1.jI X2⟩
theorem EK {P P':Nat→Prop}{iP ee dH:Int}{v1 v2:Value}{rows:List (List Value)}{h:ak}{K:Value→ak→Prop}(r1:RW P h v1 2 rows) (r2:RW P' h v2 2 rows) (hl:rows.length≤100000) (he:Rfl 103 rows) (hK:∀ h',aw h.n h h'→K (.bool true) h'):cy env (.func 61) [.agg ⟨[uv iP,uv ee,v1,iv dH]⟩,.agg ⟨[uv iP,uv ee,v2,iv dH]⟩] h K:=by obtain⟨a1,c1,rfl,q1⟩:=id r1;obtain⟨a2,c2,rfl,q2⟩:=id r2;refine F61 rfl ?_;obtain⟨h1,e1,G1,G2,n1,X⟩:=C4 h (.cells [uv iP,uv ee,.slice a1 rows.length c1,iv dH] 88 true) (.cells [uv iP,uv ee,.slice a2 rows.length c2,iv dH] 88 true);refine wk ?_;rw[e1];clear e1;have ww:=mW Vk;refine wk ?_;refine ES (r1.ext X) (r2.ext X) hl he ?_;refine wk ?_;exact hK _ X
def aa8:=(aN @zk @AT)
def aaw:=(aN @zk @zA)
def abf:=(aN @AT @zA)
abbrev TT:Nat→Prop:=fun _=>True
theorem RW.yM {P:Nat→Prop}{h:ak}{v:Value}{sz n:Nat}{rows:List (List Value)}(r:RW P h v sz rows) (hn:rows.length=n):∃ a c,v=.slice a n c:=by obtain⟨a,c,rfl,_⟩:=r;exact⟨a,c,by rw[hn]⟩
theorem RW.cell {P:Nat→Prop}{h:ak}{a:Option Addr}{n c:Nat}{l:List Value}(r:RW P h (.slice a n c) 1 (l.map da)) {i:Nat}(hi:i<l.length):∃ b off,a=some ⟨b,off,none⟩∧cellAt h (ad b (off+i))=some l[i]:=by obtain⟨_,_,e,_,q⟩:=r;cases e;obtain⟨b,off,e1,_,_,g⟩:=q i (by rw[aI];exact hi);rw[bQ,dr]at g;exact⟨b,off,e1,by unfold cellAt;rw[g];rfl⟩
def rD (R:List (List Value)):Prop:=∀ r∈R,∃ x:Int,r=[.int .i64 x]
structure JA (h:ak) (sz:Nat) (v w:Value) (RR:List (List (List Value))):Prop where
 ex:∃ l m:List Value,l.length=RR.length∧m.length=RR.length∧RW TT h v 1 (l.map da)∧RW TT h w 1 (m.map da)∧(∀ i (h1:i<l.length) (h2:i<RR.length),RW TT h l[i] sz RR[i])∧∀ i (h1:i<m.length) (h2:i<RR.length),RW TT h m[i] sz RR[i]
theorem JA.ext {h h':ak}{sz:Nat}{v w:Value}{RR:List (List (List Value))}(r:JA h sz v w RR) (x:aw h.n h h'):JA h' sz v w RR:=by obtain⟨l,m,h1,h2,a,b,c,d⟩:=r.ex;exact⟨l,m,h1,h2,a.ext x,b.ext x,fun i p q=>(c i p q).ext x,fun i p q=>(d i p q).ext x⟩
theorem JA.at_ {h:ak}{sz:Nat}{a a':Option Addr}{n n' c c':Nat}{RR:List (List (List Value))}(r:JA h sz (.slice a n c) (.slice a' n' c') RR) {i:Nat}(hi:i<RR.length):∃ b off b' off' x x',a=some ⟨b,off,none⟩∧a'=some ⟨b',off',none⟩∧cellAt h (ad b (off+i))=some x∧cellAt h (ad b' (off'+i))=some x'∧RW TT h x sz RR[i]∧RW TT h x' sz RR[i]:=by obtain⟨l,m,h1,h2,p,q,u,v⟩:=r.ex;obtain⟨b,off,e,g⟩:=p.cell (i:=i) ah;obtain⟨b',off',e',g'⟩:=q.cell (i:=i) ah;exact⟨b,off,b',off',_,_,e,e',g,g',u i ah hi,v i ah hi⟩
theorem JA.sl {h:ak}{sz:Nat}{v w:Value}{RR:List (List (List Value))}(r:JA h sz v w RR):(∃ a c,v=.slice a RR.length c)∧∃ a c,w=.slice a RR.length c:=by obtain⟨l,m,h1,h2,a,b,_⟩:=r.ex;exact⟨a.yM (by rw[aI,h1]),b.yM (by rw[aI,h2])⟩
theorem GM {h:ak}{v1 v2 v3 v4 v5 v6 w1 w2 w3 w4 w5 w6:Value}{R1 R2 R4 R6:List (List Value)}{T5:List Int}{RR:List (List (List Value))}{K:Value→ak→Prop}
  (a1:RW TT h v1 1 R1) (b1:RW TT h w1 1 R1) (a2:RW TT h v2 1 R2) (b2:RW TT h w2 1 R2) (a3:JA h 1 v3 w3 RR) (a4:RW TT h v4 1 R4) (b4:RW TT h w4 1 R4) (a5:RW TT h v5 1 (T5.map fun x=>[uv x])) (b5:RW TT h w5 1 (T5.map fun x=>[uv x])) (a6:RW TT h v6 1 R6) (b6:RW TT h w6 1 R6)
  (i1:rD R1) (i2:rD R2) (i4:rD R4) (i6:rD R6) (iR:∀ R∈RR,rD R) (l1:R1.length≤100000) (l2:R2.length≤100000) (l4:R4.length≤100000) (l5:T5.length≤100000) (l6:R6.length≤100000) (lR:RR.length≤100000) (lRR:∀ R∈RR,R.length≤100000)
  (hK:∀ h',aw h.n h h'→K (.bool true) h'):cy env (.func 59) [.agg ⟨[v1,v2,v3,v4,v5,v6]⟩,.agg ⟨[w1,w2,w3,w4,w5,w6]⟩] h K:=by
 obtain⟨p1,k1,rfl⟩:=a1.yM rfl
 obtain⟨p2,k2,rfl⟩:=a2.yM rfl
 obtain⟨⟨p3,k3,rfl⟩,q3,j3,rfl⟩:=a3.sl
 obtain⟨p4,k4,rfl⟩:=a4.yM rfl
 obtain⟨p5,k5,rfl⟩:=a5.yM (aI _)
 obtain⟨p6,k6,rfl⟩:=a6.yM rfl
 obtain⟨q1,j1,rfl⟩:=b1.yM rfl
 obtain⟨q2,j2,rfl⟩:=b2.yM rfl
 obtain⟨q4,j4,rfl⟩:=b4.yM rfl
 obtain⟨q5,j5,rfl⟩:=b5.yM (aI _)
 obtain⟨q6,j6,rfl⟩:=b6.yM rfl
 refine F59 rfl ?_
 obtain⟨h1,e1,G1,G2,n1,X⟩:=C4 h (.cells [.slice p1 R1.length k1,.slice p2 R2.length k2,.slice p3 RR.length k3,.slice p4 R4.length k4,.slice p5 T5.length k5,.slice p6 R6.length k6] 57 true) (.cells [.slice q1 R1.length j1,.slice q2 R2.length j2,.slice q3 RR.length j3,.slice q4 R4.length j4,.slice q5 T5.length j5,.slice q6 R6.length j6] 57 true)
 have ww:=mW aa8
 refine wk ?_
 rw[e1]
 clear e1
 replace a3:=a3.ext X
 replace a5:=a5.ext X
 replace b5:=b5.ext X
 have ww:=mW aaw
 refine wk ?_
 refine lJ (a1.ext X) (b1.ext X) l1 i1 ?_
 refine wk ?_
 refine lJ (a2.ext X) (b2.ext X) l2 i2 ?_
 refine wk ?_
 refine lJ (a4.ext X) (b4.ext X) l4 i4 ?_
 refine wk ?_
 refine lJ (a6.ext X) (b6.ext X) l6 i6 ?_
 refine wk ?_
 have fin:∀ fr:Go.Ev.Fr,fr.get 2=some (pt h.n 0)→fr.get 3=some (pt (h.n+1) 0)→Hn.wp env 92 none fr h1 (cW env [.tmp 4] K):=by
  intro fr f2 f3;have e2:=bf f2;have e3:=bf f3;have ww:=mW abf;refine wk ?_;refine aP (fun m fr' h''=>∃ (q:Nat),q≤RR.length∧m=RR.length-q∧fr'.get 5=some (iv q)∧h''=h1) RR.length ?_ ah ?_;·exact⟨0,ah,ah,aA,rfl⟩
  rintro m fr2 h2 ⟨q,hq,rfl,f5,hh⟩ hag;rw[hh];clear hh h2;have e5:=bf f5;have z2:fr2.get 2=some (pt h.n 0):=(hag 2 rfl).trans (by simp[T.aj,f2]);have z3:fr2.get 3=some (pt (h.n+1) 0):=(hag 3 rfl).trans (by simp[T.aj,f3]);have b2:=bf z2;have b3:=bf z3;by_cases aT:q<RR.length;·obtain⟨i1,o1,i2,o2,x,x',rfl,rfl,g1,g2,r1,r2⟩:=a3.at_ aT;have lq:(q:Int)<(RR.length:Int):=ah;have wq:=rU q;have ww:=ww.a (aN (aN (aN @lq @g1) @g2) (aN @bQ @wq));refine wk ?_;refine lJ r1 r2 (lRR _ (bG aT)) (iR _ (bG aT)) ?_;refine wk ?_;exact⟨RR.length-(q+1),ah,q+1,ah,rfl,aA⟩
  ·obtain rfl:q=RR.length:=ah;refine wk ?_;have fin2:∀ fr:Go.Ev.Fr,fr.get 2=some (pt h.n 0)→fr.get 3=some (pt (h.n+1) 0)→HS.wp env 92 none fr h1 (cW env [.tmp 4] K):=by
    clear e2 e3 e5 b2 b3 z2 z3 hag f5 f2 f3;intro fr f2 f3;have e2:=bf f2;have e3:=bf f3;have ww:=mW W59;refine wk ?_;refine aP (fun m fr' h''=>∃ (q:Nat),q≤T5.length∧m=T5.length-q∧fr'.get 6=some (iv q)∧h''=h1) T5.length ?_ ah ?_;·exact⟨0,ah,ah,aA,rfl⟩
    rintro m fr2 h2 ⟨q,hq,rfl,f6,hh⟩ hag;rw[hh];clear hh h2;have z2:fr2.get 2=some (pt h.n 0):=(hag 2 rfl).trans (by simp[T.aj,f2]);have z3:fr2.get 3=some (pt (h.n+1) 0):=(hag 3 rfl).trans (by simp[T.aj,f3]);have b2:=bf z2;have b3:=bf z3;by_cases aT:q<T5.length
    ·have e:(T5.map fun x=>[uv x])=(T5.map fun x=>uv x).map da:=by rw[th];rfl
     obtain⟨i1,o1,rfl,g1⟩:=RW.cell (l:=T5.map fun x=>uv x) (e▸a5) (i:=q) (by rw[aI];exact aT);obtain⟨i2,o2,rfl,g2⟩:=RW.cell (l:=T5.map fun x=>uv x) (e▸b5) (i:=q) (by rw[aI];exact aT);rw[dr]at g1 g2;have lq:(q:Int)<(T5.length:Int):=ah;have wq:=rU q;have ww:=ww.a (aN (aN (aN @lq @g1) @g2) (aN @bQ @wq));refine wk ?_;exact⟨T5.length-(q+1),ah,q+1,ah,rfl,aA⟩
    ·obtain rfl:q=T5.length:=ah;refine wk ?_;exact hK _ X
   exact fin2 _ (by simp[T.aj,z2]) (by simp[T.aj,z3])
 exact fin _ aA aA
end Go.Proofs.YthjlppdnlahhoaaGreat
