/- THE PLAIN MACHINE's FUNCTIONS, walked (23). Conditions: none beyond each theorem's own. -/
import Derived.Test.YthjlppdnlahhoaaGreatP22
set_option linter.unusedSimpArgs false
set_option linter.unusedVariables false
namespace Go.Proofs.YthjlppdnlahhoaaGreat
open Go.Ev
open Pl
set_option maxRecDepth 100000
set_option linter.defProp false
def Yf:=(aN @zV @zC)
def V32_35:=(aN @zV @yY)
def aaL:=(aN @zC @yY)
set_option maxHeartbeats 4000000
structure CX where
 i:Int
 gen:Int
 iP:Int
 ee:Int
 dH:Int
 rr:List (List Value)
def CX.row (c:CX) (rv:Value):List Value:=[.int .i64 c.i,.int .u64 c.gen,.int .u64 c.iP,.int .u64 c.ee,rv,.int .i64 c.dH]
structure Tr (h:ak) (v w:Value) (CL:List CX):Prop where
 ex:∃ l m:List Value,l.length=CL.length∧m.length=CL.length∧RW TT h v 6 (List.zipWith CX.row CL l)∧RW TT h w 6 (List.zipWith CX.row CL m)∧(∀ i (h1:i<l.length) (h2:i<CL.length),RW TT h l[i] 2 CL[i].rr)∧∀ i (h1:i<m.length) (h2:i<CL.length),RW TT h m[i] 2 CL[i].rr
theorem Tr.ext {h h':ak}{v w:Value}{CL:List CX}(r:Tr h v w CL) (x:aw h.n h h'):Tr h' v w CL:=by obtain⟨l,m,h1,h2,a,b,c,d⟩:=r.ex;exact⟨l,m,h1,h2,a.ext x,b.ext x,fun i p q=>(c i p q).ext x,fun i p q=>(d i p q).ext x⟩
theorem RW.at6 {P:Nat→Prop}{h:ak}{a:Option Addr}{n c:Nat}{CL:List CX}{l:List Value}(r:RW P h (.slice a n c) 6 (List.zipWith CX.row CL l)) (hl:l.length=CL.length) {i:Nat}(hi:i<CL.length):∃ b off,a=some ⟨b,off,none⟩∧av h (ad b (off+i*6)) 6=some (CX.row CL[i] l[i]):=by obtain⟨_,_,e,_,q⟩:=r;cases e;obtain⟨b,off,e1,_,_,g⟩:=q i (by rw[wJ];omega);rw[AY]at g;exact⟨b,off,e1,g⟩
theorem Tr.at_ {h:ak}{a a':Option Addr}{n n' c c':Nat}{CL:List CX}(r:Tr h (.slice a n c) (.slice a' n' c') CL) {i:Nat}(hi:i<CL.length):∃ b off b' off' x x',a=some ⟨b,off,none⟩∧a'=some ⟨b',off',none⟩∧av h (ad b (off+i*6)) 6=some (CX.row CL[i] x)∧av h (ad b' (off'+i*6)) 6=some (CX.row CL[i] x')∧RW TT h x 2 CL[i].rr∧RW TT h x' 2 CL[i].rr:=by obtain⟨l,m,h1,h2,p,q,u,v⟩:=r.ex;obtain⟨b,off,e,g⟩:=p.at6 h1 hi;obtain⟨b',off',e',g'⟩:=q.at6 h2 hi;exact⟨b,off,b',off',_,_,e,e',g,g',u i ah hi,v i ah hi⟩
theorem JA.one {h:ak}{sz:Nat}{v w:Value}{RR:List (List (List Value))}(r:JA h sz v w RR):aE v=true∧aE w=true:=by obtain⟨⟨_,_,rfl⟩,_,_,rfl⟩:=r.sl;exact⟨rfl,rfl⟩
theorem Tr.sl {h:ak}{v w:Value}{CL:List CX}(r:Tr h v w CL):(∃ a c,v=.slice a CL.length c)∧∃ a c,w=.slice a CL.length c:=by obtain⟨l,m,h1,h2,a,b,_⟩:=r.ex;exact⟨a.yM (by rw[wJ,h1,Nat.min_self]),b.yM (by rw[wJ,h2,Nat.min_self])⟩
theorem DK {h:ak}{b off:Nat}{c0 c1 c2 c3 c4 c5:Value}(g:av h (ad b off) 6=some [c0,c1,c2,c3,c4,c5]):av h (ad b off) 2=some [c0,c1]∧av h (ad b (off+2)) 4=some [c2,c3,c4,c5]:=by
 refine⟨jY [c0,c1] an fun j v hj=>dk g ?_,jY [c2,c3,c4,c5] an fun j v hj=>?_⟩
 ·match j,hj with
  | 0,hj=>exact hj
  | 1,hj=>exact hj
  | j+2,hj=>simp at hj
 ·rw[nu];refine dk g ?_;match j,hj with
  | 0,hj=>exact hj
  | 1,hj=>exact hj
  | 2,hj=>exact hj
  | 3,hj=>exact hj
  | j+4,hj=>simp at hj
theorem HD {h:ak}{now:Int}{v1 v2 v3 v4 v5 w1 w2 w3 w4 w5 pL1 pL2 pL3 pL4 pL5 pL6 qL1 qL2 qL3 qL4 qL5 qL6:Value}{R1 R3 R5 r1 r2 r4 r6:List (List Value)}{CL:List CX}{T5:List Int}{RR rR:List (List (List Value))}{K:Value→ak→Prop}
  (A1:RW TT h v1 21 R1) (B1:RW TT h w1 21 R1) (A2:Tr h v2 w2 CL) (A3:RW TT h v3 13 R3) (B3:RW TT h w3 13 R3) (A4:JA h 5 v4 w4 RR) (A5:RW TT h v5 2 R5) (B5:RW TT h w5 2 R5)
  (I1:Rfl 159 R1) (I2:∀ c∈CL,Rfl 103 c.rr) (I3:Rfl 171 R3) (I4:∀ R∈RR,Rfl 163 R) (I5:Rfl 137 R5) (L1:R1.length≤100000) (L2:CL.length≤100000) (L3:R3.length≤100000) (L4:RR.length≤100000) (L5:R5.length≤100000) (LC:∀ c∈CL,c.rr.length≤100000) (LR:∀ R∈RR,R.length≤100000)
  (a1:RW TT h pL1 1 r1) (b1:RW TT h qL1 1 r1) (a2:RW TT h pL2 1 r2) (b2:RW TT h qL2 1 r2) (a3:JA h 1 pL3 qL3 rR) (a4:RW TT h pL4 1 r4) (b4:RW TT h qL4 1 r4) (a5:RW TT h pL5 1 (T5.map fun x=>[uv x])) (b5:RW TT h qL5 1 (T5.map fun x=>[uv x])) (a6:RW TT h pL6 1 r6) (b6:RW TT h qL6 1 r6)
  (i1:rD r1) (i2:rD r2) (i4:rD r4) (i6:rD r6) (iR:∀ R∈rR,rD R) (l1:r1.length≤100000) (l2:r2.length≤100000) (l4:r4.length≤100000) (l5:T5.length≤100000) (l6:r6.length≤100000) (lR:rR.length≤100000) (lRR:∀ R∈rR,R.length≤100000)
  (hK:∀ h',aw h.n h h'→K (.bool true) h'):cy env (.func 32) [.agg ⟨[uv now,v1,v2,v3,v4,pL1,pL2,pL3,pL4,pL5,pL6,v5]⟩,.agg ⟨[uv now,w1,w2,w3,w4,qL1,qL2,qL3,qL4,qL5,qL6,w5]⟩] h K:=by
 obtain⟨p1,k1,rfl⟩:=A1.yM rfl
 obtain⟨⟨p2,k2,rfl⟩,q2,j2,rfl⟩:=A2.sl
 obtain⟨p3,k3,rfl⟩:=A3.yM rfl
 obtain⟨⟨p4,k4,rfl⟩,q4,j4,rfl⟩:=A4.sl
 obtain⟨p5,k5,rfl⟩:=A5.yM rfl
 obtain⟨q1,j1,rfl⟩:=B1.yM rfl
 obtain⟨q3,j3,rfl⟩:=B3.yM rfl
 obtain⟨q5,j5,rfl⟩:=B5.yM rfl
 refine F32 rfl ?_
 obtain⟨h1,e1,G1,G2,n1,X⟩:=C4 h (.cells [uv now,.slice p1 R1.length k1,.slice p2 CL.length k2,.slice p3 R3.length k3,.slice p4 RR.length k4,pL1,pL2,pL3,pL4,pL5,pL6,.slice p5 R5.length k5] 60 true) (.cells [uv now,.slice q1 R1.length j1,.slice q2 CL.length j2,.slice q3 R3.length j3,.slice q4 RR.length j4,qL1,qL2,qL3,qL4,qL5,qL6,.slice q5 R5.length j5] 60 true)
 have ww:=mW Yf
 refine wk ?_
 refine⟨by simp only[hY,kE,a1.sl.1,a2.sl.1,a3.one.1,a4.sl.1,a5.sl.1,a6.sl.1,jb,kI];rfl,by simp only[hY,kE,b1.sl.1,b2.sl.1,a3.one.2,b4.sl.1,b5.sl.1,b6.sl.1,jb,kI];rfl,?_⟩
 rw[e1]
 clear e1
 have x0:=ay (off:=0) (h:=h1) (i:=h.n) ah G1 rfl
 have y0:=ay (off:=0) (h:=h1) (i:=h.n+1) ah G2 rfl
 have x1:=ay (off:=1) (h:=h1) (i:=h.n) ah G1 rfl
 have y1:=ay (off:=1) (h:=h1) (i:=h.n+1) ah G2 rfl
 have x2:=ay (off:=2) (h:=h1) (i:=h.n) ah G1 rfl
 have y2:=ay (off:=2) (h:=h1) (i:=h.n+1) ah G2 rfl
 have x3:=ay (off:=3) (h:=h1) (i:=h.n) ah G1 rfl
 have y3:=ay (off:=3) (h:=h1) (i:=h.n+1) ah G2 rfl
 have x4:=ay (off:=4) (h:=h1) (i:=h.n) ah G1 rfl
 have y4:=ay (off:=4) (h:=h1) (i:=h.n+1) ah G2 rfl
 have x11:=ay (off:=11) (h:=h1) (i:=h.n) ah G1 rfl
 have y11:=ay (off:=11) (h:=h1) (i:=h.n+1) ah G2 rfl
 have x5:av h1 (ad h.n 5) 6=some [pL1,pL2,pL3,pL4,pL5,pL6]:=aq ah G1 rfl rfl
 have y5:av h1 (ad (h.n+1) 5) 6=some [qL1,qL2,qL3,qL4,qL5,qL6]:=aq ah G2 rfl rfl
 have ww:=mW V32_35
 refine wk ?_
 refine GF (A1.ext X) (B1.ext X) L1 I1 ?_
 refine wk ?_
 refine HV (A3.ext X) (B3.ext X) L3 I3 ?_
 refine wk ?_
 refine GM (a1.ext X) (b1.ext X) (a2.ext X) (b2.ext X) (a3.ext X) (a4.ext X) (b4.ext X) (a5.ext X) (b5.ext X) (a6.ext X) (b6.ext X) i1 i2 i4 i6 iR l1 l2 l4 l5 l6 lR lRR fun h2 X2=>?_
 clear a1 b1 a2 b2 a3 a4 b4 a5 b5 a6 b6
 replace A2:=(A2.ext X).ext X2
 replace A4:=(A4.ext X).ext X2
 replace A5:=(A5.ext X).ext X2
 replace B5:=(B5.ext X).ext X2
 have X3:aw h.n h h2:=X.jI X2
 replace G1:=X2.cY G1
 replace G2:=X2.cY G2
 have n2:=X2.n
 replace x0:=ay (off:=0) (h:=h2) (i:=h.n) ah G1 rfl
 replace y0:=ay (off:=0) (h:=h2) (i:=h.n+1) ah G2 rfl
 replace x1:=ay (off:=1) (h:=h2) (i:=h.n) ah G1 rfl
 replace y1:=ay (off:=1) (h:=h2) (i:=h.n+1) ah G2 rfl
 replace x2:=ay (off:=2) (h:=h2) (i:=h.n) ah G1 rfl
 replace y2:=ay (off:=2) (h:=h2) (i:=h.n+1) ah G2 rfl
 replace x3:=ay (off:=3) (h:=h2) (i:=h.n) ah G1 rfl
 replace y3:=ay (off:=3) (h:=h2) (i:=h.n+1) ah G2 rfl
 replace x4:=ay (off:=4) (h:=h2) (i:=h.n) ah G1 rfl
 replace y4:=ay (off:=4) (h:=h2) (i:=h.n+1) ah G2 rfl
 replace x11:=ay (off:=11) (h:=h2) (i:=h.n) ah G1 rfl
 replace y11:=ay (off:=11) (h:=h2) (i:=h.n+1) ah G2 rfl
 clear x5 y5
 refine wk ?_
 refine HC A5 B5 L5 I5 ?_
 refine wk ?_
 have fin:∀ fr:Go.Ev.Fr,fr.get 2=some (pt h.n 0)→fr.get 3=some (pt (h.n+1) 0)→H3.wp env 117 none fr h2 (cW env [.tmp 4] K):=by
  clear x0 y0 x1 y1 x2 y2 x3 y3 x4 y4 x11 y11;intro fr f2 f3;have e2:=bf f2;have e3:=bf f3;have ww:=mW aaL;refine wk ?_;refine aP (fun m fr' h''=>∃ (q:Nat),q≤CL.length∧m=CL.length-q∧fr'.get 5=some (iv q)∧aw h2.n h2 h'') CL.length ?_ ah ?_;·exact⟨0,ah,ah,aA,aw.refl _ _⟩
  rintro m fr2 h3 ⟨q,hq,rfl,f5,X4⟩ hag;have e5:=bf f5;have z2:fr2.get 2=some (pt h.n 0):=(hag 2 rfl).trans (by simp[T.aj,f2]);have z3:fr2.get 3=some (pt (h.n+1) 0):=(hag 3 rfl).trans (by simp[T.aj,f3]);have b2:=bf z2;have b3:=bf z3;have n3:=X4.n;have U1:=X4.cY G1;have U2:=X4.cY G2;have x2:=ay (off:=2) (h:=h3) (i:=h.n) ah U1 rfl;have y2:=ay (off:=2) (h:=h3) (i:=h.n+1) ah U2 rfl;by_cases aT:q<CL.length;·obtain⟨i1,o1,i2,o2,x,x',rfl,rfl,g1,g2,r1,r2⟩:=(A2.ext X4).at_ aT;have lq:(q:Int)<(CL.length:Int):=ah;have wq:=rU q;obtain⟨u1,u2⟩:=DK g1;obtain⟨u3,u4⟩:=DK g2;have nq:∀ {c:Bool}{K:Value→Prop},cH env .neq 38 c (.agg ⟨[iv CL[q].i,uv CL[q].gen]⟩) (.agg ⟨[iv CL[q].i,uv CL[q].gen]⟩) K=K (.bool false):=ki c_ (by rw[GW];simp);have ww:=ww.a (aN (aN (aN @lq @u1) (aN @u2 @u3)) (aN (aN @u4 @nq) @wq));refine wk ?_;refine EK r1 r2 (LC _ (bG aT)) (I2 _ (bG aT)) fun h4 X5=>?_;have n4:=X5.n;replace U1:=X5.cY U1;replace U2:=X5.cY U2;replace x2:=ay (off:=2) (h:=h4) (i:=h.n) ah U1 rfl;replace y2:=ay (off:=2) (h:=h4) (i:=h.n+1) ah U2 rfl;obtain⟨_,_,_,_,y,y',e6,e7,g1,g2,_,_⟩:=((A2.ext X4).ext X5).at_ aT;cases e6;cases e7;obtain⟨u1,u2⟩:=DK g1;obtain⟨u3,u4⟩:=DK g2;refine wk ?_;exact⟨CL.length-(q+1),ah,q+1,ah,rfl,aA,X4.jI X5⟩
  ·obtain rfl:q=CL.length:=ah;refine wk ?_;have fin2:∀ fr:Go.Ev.Fr,fr.get 2=some (pt h.n 0)→fr.get 3=some (pt (h.n+1) 0)→GX.wp env 117 none fr h3 (cW env [.tmp 4] K):=by
    clear e2 e3 e5 b2 b3 z2 z3 hag f5 f2 f3 x2 y2;replace A4:=A4.ext X4;replace X3:=X3.jI X4;have x4:=ay (off:=4) (h:=h3) (i:=h.n) ah U1 rfl;have y4:=ay (off:=4) (h:=h3) (i:=h.n+1) ah U2 rfl;clear G1 G2 U1 U2;intro fr f2 f3;have e2:=bf f2;have e3:=bf f3;have ww:=mW W32;refine wk ?_;refine aP (fun m fr' h''=>∃ (q:Nat),q≤RR.length∧m=RR.length-q∧fr'.get 6=some (iv q)∧h''=h3) RR.length ?_ ah ?_;·exact⟨0,ah,ah,aA,rfl⟩
    rintro m fr2 h2 ⟨q,hq,rfl,f6,hh⟩ hag;rw[hh];clear hh;have e6:=bf f6;have z2:fr2.get 2=some (pt h.n 0):=(hag 2 rfl).trans (by simp[T.aj,f2]);have z3:fr2.get 3=some (pt (h.n+1) 0):=(hag 3 rfl).trans (by simp[T.aj,f3]);have b2:=bf z2;have b3:=bf z3;by_cases aT:q<RR.length;·obtain⟨i1,o1,i2,o2,x,x',rfl,rfl,g1,g2,r1,r2⟩:=A4.at_ aT;have lq:(q:Int)<(RR.length:Int):=ah;have wq:=rU q;have ww:=ww.a (aN (aN (aN @lq @g1) @g2) (aN @bQ @wq));refine wk ?_;refine Gy r1 r2 (LR _ (bG aT)) (I4 _ (bG aT)) ?_;refine wk ?_;exact⟨RR.length-(q+1),ah,q+1,ah,rfl,aA⟩
    ·obtain rfl:q=RR.length:=ah;refine wk ?_;exact hK _ X3
   exact fin2 _ (by simp[T.aj,z2]) (by simp[T.aj,z3])
 exact fin _ aA aA
theorem Q_ {k g:Int}{x:GD}:nP env 100 159 (.agg ⟨iv k::uv g::x.cells⟩) (.agg ⟨iv k::uv g::x.cells⟩)=some true:=by have e:nP env 100 159 (.agg ⟨iv k::uv g::x.cells⟩) (.agg ⟨iv k::uv g::x.cells⟩)=bL (bL (some (k==k)) (bL (some (g==g)) (some true))) (bL (bL (some (x.st==x.st)) (bL (some (x.su==x.su)) (bL (bL (some (x.gG.i==x.gG.i)) (bL (some (x.gG.g==x.gG.g)) (some true))) (bL (bL (some (x.ctx.i==x.ctx.i)) (bL (some (x.ctx.g==x.ctx.g)) (some true))) (bL (some ((x.jF:Int)==(x.jF:Int))) (bL (some (x.prog==x.prog)) (bL (some (x.pc==x.pc)) (bL (bL (some (x.r0==x.r0)) (bL (some (x.r1==x.r1)) (bL (some (x.r2==x.r2)) (bL (some (x.r3==x.r3)) (bL (some (x.r4==x.r4)) (bL (some (x.r5==x.r5)) (bL (some (x.r6==x.r6)) (bL (some (x.r7==x.r7)) (some true))))))))) (bL (some (x.code==x.code)) (bL (some (x.til==x.til)) (some true))))))))))) (some true)):=c_;rw[e];simp only[jg,beq_self_eq_true,dP]
theorem rflT (gs:List (Ob GD)):∀ k,Rfl 159 (jE gs k)
 | 0=>fun r h=>absurd h (by simp[jE])
 | k+1=>fun r h=>by
   rcases dV.1 h with h|h;· exact rflT gs k r h
   · unfold vE at h;split at h
     · split at h;· simp only[jC]at h;subst h;exact Q_
       · cases h
     · cases h
theorem rflD (sh:List (Ob SD)):∀ k,Rfl 171 (qA sh k)
 | 0=>fun r h=>absurd h (by simp[qA])
 | k+1=>fun r h=>by
   rcases dV.1 h with h|h;· exact rflD sh k r h
   · unfold D2 at h;split at h
     · split at h;· simp only[jC]at h;subst h;simp only[DV.cells];rw[Vh];simp
       · cases h
     · cases h
theorem rflH (l:List KD) (g:Int):∀ k,Rfl 163 (iM l g k)
 | 0=>fun r h=>absurd h (by simp[iM])
 | k+1=>fun r h=>by
   rcases dV.1 h with h|h;· exact rflH l g k r h
   · unfold vN at h;split at h
     · split at h;· simp only[jC]at h;subst h;simp only[U7];rw[T9];simp
       · cases h
     · cases h
theorem rflF (l:List RF):Rfl 103 (l.map RF.cells):=fun r h=>by obtain⟨x,_,rfl⟩:=bD.1 h;simp only[RF.cells];rw[SZ];simp
theorem rflTm (l:List TD):Rfl 137 (l.map TD.cells):=fun r h=>by obtain⟨x,_,rfl⟩:=bD.1 h;simp only[TD.cells];rw[TV];simp
theorem rflL (l:List LD):Rfl 174 (l.map LD.cells):=fun r h=>by obtain⟨x,_,rfl⟩:=bD.1 h;simp only[LD.cells];rw[Uq];simp
theorem Fp (l:List Nat):rD (l.map fun n=>[bZ n]):=fun r h=>by obtain⟨x,_,rfl⟩:=bD.1 h;exact⟨_,rfl⟩
theorem zJ {α:Type}{f:α→List Value}(hf:∀ x,∃ y:Int,f x=[iv y]) (k:Nat) (l:List α):rD (ba f k l):=fun r h=>by unfold ba at h;obtain⟨x,_,rfl⟩:=bD.1 h;exact hf x
def GU (cl:List (Ob XD)) (k:Nat):CX:=match cl[k]? with|some o=>⟨(k:Int),(o.gen:Int),o.x.iP,o.x.ee,o.x.dH,kW cl k⟩|none=>⟨0,0,0,0,0,kW cl k⟩
theorem Rj {cl:List (Ob XD)}{k:Nat}{rv:Value}:gM cl k rv=(GU cl k).row rv:=by unfold gM GU;cases cl[k]?<;>rfl
theorem yQ {cl:List (Ob XD)}{k:Nat}:(GU cl k).rr=kW cl k:=by unfold GU;split<;>rfl
theorem IX {cl:List (Ob XD)}{k:Nat}(h:kQ cl):(kW cl k).length≤16:=by
 unfold kW;split;·rename_i o e;obtain⟨hk,rfl⟩:=cQ.1 e;rw[aI];exact h k hk
 ·simp
theorem rflC {cl:List (Ob XD)}{k:Nat}:Rfl 103 (kW cl k):=by
 unfold kW;split;·exact rflF _
 ·exact fun r h=>absurd h an
theorem Wf {cl:List (Ob XD)}{I:List Nat}{l:List Value}:List.zipWith (gM cl) I l=List.zipWith CX.row (I.map (GU cl)) l:=by
 rw[List.zipWith_map_left];have:gM cl=fun a b=>(GU cl a).row b:=by funext a b;exact Rj
 rw[this]
theorem RW.tt {P:Nat→Prop}{h:ak}{v:Value}{sz:Nat}{rows:List (List Value)}(r:RW P h v sz rows):RW TT h v sz rows:=r.mono fun _ _=>trivial
theorem KH {h:ak}{v w:Value}{M:MD}{n:Nat}{K:Value→ak→Prop}{B B':Nat}(a:rH B h v M) (b:rH B' h w M) (I:Inv n M) (hn:n≤300) (hK:∀ h',aw h.n h h'→K (.bool true) h'):cy env (.func 32) [v,w] h K:=by
 obtain⟨vT,vC,vD,vK,v1,v2,v3,v4,v5,v6,vM,rvs,kvs,cvs,rfl,a1,a2,a3,a4,a5,a6,a7,a8,a9,a10,a11,a12,a13,a14,a15,a16,a17⟩:=a.ex;obtain⟨wT,wC,wD,wK,w1,w2,w3,w4,w5,w6,wM,rws,kws,cws,rfl,b1,b2,b3,b4,b5,b6,b7,b8,b9,b10,b11,b12,b13,b14,b15,b16,b17⟩:=b.ex;replace a1:=a1.tt;replace a2:=a2.tt;replace a5:=a5.tt;replace a6:=a6.tt;replace a9:=a9.tt;replace a10:=a10.tt;replace a11:=a11.tt;replace a14:=a14.tt;replace a15:=a15.tt;replace a16:=a16.tt;replace a17:=a17.tt;replace a4:=fun i p q=>(a4 i p q).tt;replace a8:=fun i p=>(a8 i p).tt;replace a13:=fun i p q=>(a13 i p q).tt;replace b1:=b1.tt;replace b2:=b2.tt;replace b5:=b5.tt;replace b6:=b6.tt;replace b9:=b9.tt;replace b10:=b10.tt;replace b11:=b11.tt;replace b14:=b14.tt;replace b15:=b15.tt;replace b16:=b16.tt;replace b17:=b17.tt;replace b4:=fun i p q=>(b4 i p q).tt;replace b8:=fun i p=>(b8 i p).tt;replace b13:=fun i p q=>(b13 i p q).tt;have t1:=(wH M.gs M.gs.length).1;have t2:=AU M.cl M.cl.length;have t3:=(yx M.sh M.sh.length).1;have gl:=I.gl;have sl:=I.sl;have cl:=I.cl;have so:=I.bP;have ps:=I.q.Bj;have al:=I.q.abV;have tl:=I.Wb;rw[Wf]at a2 b2;have mt:∀ k,(ba gJ k M.ps)=((M.ps.take k).map PD.turns).map fun x=>[uv x]:=fun k=>by rw[th];rfl
 rw[mt]at a15 b15;have CC:Tr h vC wC ((hH M.cl M.cl.length).map (GU M.cl)):=⟨cvs,cws,by rw[aI,a3],by rw[aI,b3],a2,b2,fun i h1 h2=>by
  rw[dr,yQ];exact a4 i h1 (by rw[aI]at h2;exact h2),fun i h1 h2=>by
  rw[dr,yQ];exact b4 i h1 (by rw[aI]at h2;exact h2)⟩
 have RK:JA h 5 vK wK ((List.range M.gs.length).map fun (i:Nat)=>iM M.ax (i:Int) M.cfg.bP):=⟨kvs,kws,by rw[aI,zg,a7],by rw[aI,zg,b7],a6,b6,fun i h1 h2=>by
  rw[dr,List.getElem_range];exact a8 i h1,fun i h1 h2=>by
  rw[dr,List.getElem_range];exact b8 i h1⟩
 have Rr:JA h 1 v3 w3 (M.ps.map fun p=>p.ring.map fun n=>[bZ n]):=⟨rvs,rws,by rw[aI,a12],by rw[aI,b12],a11,b11,fun i h1 h2=>by
  rw[dr];exact a13 i h1 (by rw[aI]at h2;exact h2),fun i h1 h2=>by
  rw[dr];exact b13 i h1 (by rw[aI]at h2;exact h2)⟩
 have l1:=mS (f:=dh) (l:=M.ps) a_;have l2:=mS (f:=dK) (l:=M.ps) a_;have l4:=mS (f:=hG) (l:=M.ps) a_;refine HD a1 b1 CC a5 b5 RK a17 b17 (rflT _ _) (fun c hc=>by
  obtain⟨k,_,rfl⟩:=bD.1 hc;rw[yQ];exact rflC) (rflD _ _) (fun R hR=>by
  obtain⟨k,_,rfl⟩:=bD.1 hR;exact rflH _ _ _) (rflTm _) ah (by rw[aI];omega) ah (by rw[aI,zg];omega) (by rw[aI];omega) (fun c hc=>by
  obtain⟨k,_,rfl⟩:=bD.1 hc;rw[yQ];have:=IX (k:=k) I.C.ref;omega) (fun R hR=>by
  obtain⟨k,_,rfl⟩:=bD.1 hR;have:=(vr M.ax (k:Int) M.cfg.bP).1;omega)
  a9 b9 a10 b10 Rr a14 b14 a15 b15 a16 b16 (zJ (fun _=>⟨_,rfl⟩) _ _) (zJ (fun _=>⟨_,rfl⟩) _ _) (zJ (fun _=>⟨_,rfl⟩) _ _) (Fp _) (fun R hR=>by
  obtain⟨p,_,rfl⟩:=bD.1 hR;exact Fp _) ah ah ah (by rw[aI,fp];omega) (by rw[aI];omega) (by rw[aI];omega) (fun R hR=>by
  obtain⟨p,hp,rfl⟩:=bD.1 hR;obtain⟨i,hi,rfl⟩:=eU hp;rw[aI];have:=I.q.FI hi;omega) hK
theorem RS.L {O:Nat→Prop}{h:ak}{v:Value}{l:List LD}(r:RS O 12 h v (l.map LD.cells)):XH h.n h v l:=by obtain⟨a,c,e,hc,q⟩:=r.r;rw[aI]at e hc;exact⟨a,c,e,hc,q⟩
theorem Lf {a:Ad}{V:VD}{h:ak}{M:MD}{n:Nat}{K:Value→ak→Prop}(s:St a V h M) (I:Inv n M) (hps:0<M.ps.length) (hK:∀ v h',aw h.n h h'→RW (fun j=>h.n≤j) h' v 12 (M.log.map LD.cells)→K v h'):cy env (.func 31) [mp a] h K:=by
 unfold mp at *
 refine F31 rfl ?_;refine wk ?_;refine vZ s hps ?_;have k28:=s.k28;have ll:=I.log;have la:=I.Sp;obtain⟨ta,tc,te,_⟩:=s.log.len;have rl:=RS.L s.log;rw[te]at k28 rl;refine wk ?_;refine Ha rl a_ ah fun v h' o x=>?_;obtain⟨ma,mc,rfl,msp⟩:=Ik o;have n1:=x.n;have A:=(RS.iS (O:=fun j=>j<h.n) (h:=h') (rows:=M.log.map LD.cells) (e:=174) (N:=h.n) (by rw[aI];exact o) (fun r hr=>by obtain ⟨x,_,rfl⟩:=bD.1 hr;rfl) (sz:=12) (fun j hj=>hj) (by rw[aI];omega)).rw (P:=fun j=>h.n≤j) fun j _ hj=>Nat.le_of_not_lt hj;refine wk ?_;exact hK _ _ x A
theorem Ai {a:Ad}{V:VD}{h:ak}{M:MD}{K:Value→ak→Prop}(s:St a V h M) (hps:0<M.ps.length) (hK:K (iv M.aX) h):cy env (.func 9) [mp a] h K:=by
 unfold mp at *
 refine F9 rfl ?_;refine wk ?_;refine vZ s hps ?_;refine wk ?_;exact hK
structure ur (h:ak) (v:Value) (M:MD):Prop where
 ex:∃ vT vC vD vK v1 v2 v3 v4 v5 v6 vM va:Value,v=.agg ⟨[uv M.now,vT,vC,vD,vK,v1,v2,v3,v4,v5,v6,vM,va,iv M.aX]⟩∧rH 0 h (.agg ⟨[uv M.now,vT,vC,vD,vK,v1,v2,v3,v4,v5,v6,vM]⟩) M∧RW TT h va 12 (M.log.map LD.cells)
theorem rH.one {B:Nat}{h:ak}{v:Value}{M:MD}(a:rH B h v M):∃ vT vC vD vK v1 v2 v3 v4 v5 v6 vM:Value,v=.agg ⟨[uv M.now,vT,vC,vD,vK,v1,v2,v3,v4,v5,v6,vM]⟩∧aE vT=true∧aE vC=true∧aE vD=true∧aE vK=true∧aE v1=true∧aE v2=true∧aE v3=true∧aE v4=true∧aE v5=true∧aE v6=true∧aE vM=true:=by obtain⟨vT,vC,vD,vK,v1,v2,v3,v4,v5,v6,vM,rvs,kvs,cvs,rfl,a1,a2,a3,a4,a5,a6,a7,a8,a9,a10,a11,a12,a13,a14,a15,a16,a17⟩:=a.ex;exact⟨vT,vC,vD,vK,v1,v2,v3,v4,v5,v6,vM,rfl,a1.sl.1,a2.sl.1,a5.sl.1,a6.sl.1,a9.sl.1,a10.sl.1,a11.sl.1,a14.sl.1,a15.sl.1,a16.sl.1,a17.sl.1⟩
theorem rH.bM {B B':Nat}{h h':ak}{v:Value}{M:MD}(a:rH B h v M) (hB:B'≤B) (hn:h.n≤h'.n) (hk:∀ j,B≤j→j<h.n→h'.b.get j=h.b.get j):rH B' h' v M:=by obtain⟨vT,vC,vD,vK,v1,v2,v3,v4,v5,v6,vM,rvs,kvs,cvs,rfl,a1,a2,a3,a4,a5,a6,a7,a8,a9,a10,a11,a12,a13,a14,a15,a16,a17⟩:=a.ex;exact⟨vT,vC,vD,vK,v1,v2,v3,v4,v5,v6,vM,rvs,kvs,cvs,rfl,a1.bM hn (fun j hj hl=>⟨hk j hj hl,ah⟩),a2.bM hn (fun j hj hl=>⟨hk j hj hl,ah⟩),a3,fun i p q=>(a4 i p q).bM hn (fun j hj hl=>⟨hk j hj hl,ah⟩),a5.bM hn (fun j hj hl=>⟨hk j hj hl,ah⟩),a6.bM hn (fun j hj hl=>⟨hk j hj hl,ah⟩),a7,fun i p=>(a8 i p).bM hn (fun j hj hl=>⟨hk j hj hl,ah⟩),a9.bM hn (fun j hj hl=>⟨hk j hj hl,ah⟩),a10.bM hn (fun j hj hl=>⟨hk j hj hl,ah⟩),a11.bM hn (fun j hj hl=>⟨hk j hj hl,ah⟩),a12,fun i p q=>(a13 i p q).bM hn (fun j hj hl=>⟨hk j hj hl,ah⟩),a14.bM hn (fun j hj hl=>⟨hk j hj hl,ah⟩),a15.bM hn (fun j hj hl=>⟨hk j hj hl,ah⟩),a16.bM hn (fun j hj hl=>⟨hk j hj hl,ah⟩),a17.bM hn (fun j hj hl=>⟨hk j hj hl,ah⟩)⟩
theorem rH.ext {B:Nat}{h h':ak}{v:Value}{M:MD}(a:rH B h v M) (x:aw h.n h h'):rH B h' v M:=a.bM a_ x.n fun j _ hl=>x.get j hl
theorem ur.ext {h h':ak}{v:Value}{M:MD}(a:ur h v M) (x:aw h.n h h'):ur h' v M:=by obtain⟨vT,vC,vD,vK,v1,v2,v3,v4,v5,v6,vM,va,rfl,a1,a2⟩:=a.ex;exact⟨vT,vC,vD,vK,v1,v2,v3,v4,v5,v6,vM,va,rfl,a1.ext x,a2.ext x⟩
theorem Ce {a:Ad}{V:VD}{h:ak}{M:MD}{n:Nat}{K:Value→ak→Prop}(s:St a V h M) (I:Inv n M) (hn:n≤300) (hps:0<M.ps.length) (hK:∀ v h',aw h.n h h'→ur h' v M→K v h'):cy env (.func 8) [mp a] h K:=by refine F8 rfl ?_;unfold mp;obtain⟨h1,eh1⟩:=gz (ai h (.cells [uv 0,nS,nS,nS,nS,nS,nS,nS,nS,nS,nS,nS,nS,iv 0] 63 true));have X1:=tW eh1;have g1:=Dj eh1;have n1:=qk eh1;refine wk ?_;rw[eh1];have s1:=s.ext X1;have ww:=mW s8_1_w;refine wk ?_;refine Sk s1 I hn hps fun v h2 x2 vv=>?_;obtain⟨vT,vC,vD,vK,v1,v2,v3,v4,v5,v6,vM,rfl,o1,o2,o3,o4,o5,o6,o7,o8,o9,o10,o11⟩:=vv.one;have n2:=x2.n;have s2:=s1.ext x2;refine wk ?_;refine Lf s2 I hps fun va h3 x3 ra=>?_;obtain⟨pa,ka,rfl⟩:=ra.yM rfl;have n3:=x3.n;have s3:=s2.ext x3;refine wk ?_;refine Ai s3 hps ?_;have g3:=x3.cY (x2.cY g1);have ww:=ww.a (aN (aN (aN (aN @o1 @o2) @o3) (aN (aN @o4 @o5) @o6)) (aN (aN (aN @o7 @o8) @o9) (aN @o10 @o11)));refine wk ?_;refine aM (off:=0) (l:=[uv M.now,vT,vC,vD,vK,v1,v2,v3,v4,v5,v6,vM,.slice pa (M.log.map LD.cells).length ka,iv M.aX]) (cs':=[uv M.now,vT,vC,vD,vK,v1,v2,v3,v4,v5,v6,vM,.slice pa (M.log.map LD.cells).length ka,iv M.aX]) g3 rfl rfl rfl (by simp only[hY,kE,o1,o2,o3,o4,o5,o6,o7,o8,o9,o10,o11,jb,kI];rfl) ao ?_;have rF:av (aO h3 h.n (.cells [uv M.now,vT,vC,vD,vK,v1,v2,v3,v4,v5,v6,vM,.slice pa (M.log.map LD.cells).length ka,iv M.aX] 63 true)) ⟨h.n,0,none⟩ 14=some [uv M.now,vT,vC,vD,vK,v1,v2,v3,v4,v5,v6,vM,.slice pa (M.log.map LD.cells).length ka,iv M.aX]:=aq (by show h.n<h3.n;omega) aF rfl rfl;have XF:aw h.n h (aO h3 h.n (.cells [uv M.now,vT,vC,vD,vK,v1,v2,v3,v4,v5,v6,vM,.slice pa (M.log.map LD.cells).length ka,iv M.aX] 63 true)):=(X1.trans ((x2.mono ah).trans (x3.mono ah))).trans (aw.set _ a_);refine wk ?_;refine hK _ _ XF ⟨vT,vC,vD,vK,v1,v2,v3,v4,v5,v6,vM,_,rfl,(vv.ext x3).bM (eX _) a_ fun j hj hl=>aC ah,ra.bM a_ fun j hj hl=>⟨aC ah,trivial⟩⟩
theorem GZ {h:ak}{v w:Value}{M:MD}{n:Nat}{K:Value→ak→Prop}(a:ur h v M) (b:ur h w M) (I:Inv n M) (hn:n≤300) (hK:∀ h',aw h.n h h'→K (.bool true) h'):cy env (.func 11) [v,w] h K:=by
 obtain⟨vT,vC,vD,vK,v1,v2,v3,v4,v5,v6,vM,va,rfl,a1,a2⟩:=a.ex;obtain⟨wT,wC,wD,wK,w1,w2,w3,w4,w5,w6,wM,wa,rfl,b1,b2⟩:=b.ex;obtain⟨_,_,_,_,_,_,_,_,_,_,_,ea,o1,o2,o3,o4,o5,o6,o7,o8,o9,o10,o11⟩:=a1.one;obtain⟨_,_,_,_,_,_,_,_,_,_,_,eb,p1,p2,p3,p4,p5,p6,p7,p8,p9,p10,p11⟩:=b1.one;cases ea;cases eb;obtain⟨pa,pc,rfl⟩:=a2.yM rfl;obtain⟨qa,qc,rfl⟩:=b2.yM rfl;have hN:(M.log.map LD.cells).length≤256:=by rw[aI];have:=I.log;have:=I.Sp;omega
 obtain⟨N,eN⟩:∃ N,N=(M.log.map LD.cells).length:=⟨_,rfl⟩;rw[← eN]at a2 b2 hN ⊢;refine F11 rfl ?_;obtain⟨h1,e1,G1,G2,n1,X⟩:=C4 h (.cells [uv M.now,vT,vC,vD,vK,v1,v2,v3,v4,v5,v6,vM,.slice pa N pc,iv M.aX] 63 true) (.cells [uv M.now,wT,wC,wD,wK,w1,w2,w3,w4,w5,w6,wM,.slice qa N qc,iv M.aX] 63 true);refine wk ?_;refine⟨by simp only[hY,kE,o1,o2,o3,o4,o5,o6,o7,o8,o9,o10,o11,jb,kI];rfl,by simp only[hY,kE,p1,p2,p3,p4,p5,p6,p7,p8,p9,p10,p11,jb,kI];rfl,?_⟩;rw[e1];clear e1;have x0:av h1 (ad h.n 0) 12=some [uv M.now,vT,vC,vD,vK,v1,v2,v3,v4,v5,v6,vM]:=aq ah G1 rfl rfl;have y0:av h1 (ad (h.n+1) 0) 12=some [uv M.now,wT,wC,wD,wK,w1,w2,w3,w4,w5,w6,wM]:=aq ah G2 rfl rfl;have x12:=ay (off:=12) (h:=h1) (i:=h.n) ah G1 rfl;have y12:=ay (off:=12) (h:=h1) (i:=h.n+1) ah G2 rfl;have ww:=mW Uc;refine wk ?_;refine KH (a1.ext X) (b1.ext X) I hn fun h2 X2=>?_;have n2:=X2.n;replace x12:=aD X2 ah x12;replace y12:=aD X2 ah y12;refine wk ?_;rw[eN]at a2 b2 ⊢;refine GB ((a2.ext X).ext X2) ((b2.ext X).ext X2) ah (rflL _) ?_;refine wk ?_;exact hK _ (X.jI X2)
theorem Hi {h:ak}{K:Value→ak→Prop}(hK:∀ h',aw h.n h h'→K (.bool true) h'):cy env (.func 10) [.agg ⟨[iv 0,uv 0,iv 0,iv 0,iv 0,uv 0,iv 0,iv 0,uv 0,uv 0,uv 0,uv 0,uv 0,iv 0,uv 0,nS]⟩,.agg ⟨[iv 0,uv 0,iv 0,iv 0,iv 0,uv 0,iv 0,iv 0,uv 0,uv 0,uv 0,uv 0,uv 0,iv 0,uv 0,nS]⟩] h K:=by
 refine F10 rfl ?_;obtain⟨h1,e1,G1,G2,n1,X⟩:=C4 h (.cells [iv 0,uv 0,iv 0,iv 0,iv 0,uv 0,iv 0,iv 0,uv 0,uv 0,uv 0,uv 0,uv 0,iv 0,uv 0,nS] 46 true) (.cells [iv 0,uv 0,iv 0,iv 0,iv 0,uv 0,iv 0,iv 0,uv 0,uv 0,uv 0,uv 0,uv 0,iv 0,uv 0,nS] 46 true);refine wk ?_;rw[e1];clear e1;have x4:av h1 (ad h.n 4) 2=some [iv 0,uv 0]:=aq ah G1 rfl rfl;have y4:av h1 (ad (h.n+1) 4) 2=some [iv 0,uv 0]:=aq ah G2 rfl rfl;have x7:av h1 (ad h.n 7) 6=some [iv 0,uv 0,uv 0,uv 0,uv 0,uv 0]:=aq ah G1 rfl rfl;have y7:av h1 (ad (h.n+1) 7) 6=some [iv 0,uv 0,uv 0,uv 0,uv 0,uv 0]:=aq ah G2 rfl rfl;have q38:∀ {c:Bool}{K:Value→Prop},cH env .neq 38 c (.agg ⟨[iv 0,uv 0]⟩) (.agg ⟨[iv 0,uv 0]⟩) K=K (.bool false):=ki c_ (by rw[GW];simp);have q43:∀ {c:Bool}{K:Value→Prop},cH env .neq 43 c (.agg ⟨[iv 0,uv 0,uv 0,uv 0,uv 0,uv 0]⟩) (.agg ⟨[iv 0,uv 0,uv 0,uv 0,uv 0,uv 0]⟩) K=K (.bool false):=ki c_ (by rw[eqA_43];simp);have ww:=mW (aN (aN Pw @q38) @q43);refine wk ?_;refine aP (fun m fr' h''=>m=0∧fr'.get 5=some (iv 0)∧h''=h1) 0 ?_ ah ?_;·exact⟨rfl,aA,rfl⟩
 rintro m fr2 h2 ⟨rfl,f5,hh⟩ hag;rw[hh];clear hh h2;have z2:fr2.get 2=some (pt h.n 0):=(hag 2 rfl).trans aA;refine wk ?_;exact hK _ X
def MB (B:Nat) (h:ak) (v:Value) (l:List UInt8):Prop :=
 ∃ a c,v=.slice a l.length c∧(l≠[]→∃ i o,a=some ⟨i,o,none⟩∧i<B∧av h (ad i o) l.length=some (l.map bK))
def Eo (B:Nat) (h:ak) (v:Value) (P:List (List UInt8)):Prop :=
 ∃ a c,v=.slice a P.length c∧∀ (k:Nat) l,P[k]?=some l→∃ i o u,a=some ⟨i,o,none⟩∧i<B∧cellAt h (ad i (o+k))=some u∧MB B h u l
theorem MB.ext {B:Nat}{h h':ak}{v:Value}{l:List UInt8}(r:MB B h v l) (x:aw B h h'):MB B h' v l:=by obtain⟨a,c,e,q⟩:=r;exact⟨a,c,e,fun hl=>let ⟨i,o,e1,e2,e3⟩:=q hl;⟨i,o,e1,e2,aG x e2 e3⟩⟩
theorem Eo.ext {B:Nat}{h h':ak}{v:Value}{l:List (List UInt8)}(r:Eo B h v l) (x:aw B h h'):Eo B h' v l:=by obtain⟨a,c,e,q⟩:=r;exact⟨a,c,e,fun k y hy=>let ⟨i,o,u,e1,e2,e3,e4⟩:=q k y hy;⟨i,o,u,e1,e2,aD x e2 e3,e4.ext x⟩⟩
theorem ML (l:List UInt8):(l.map bK).all aE=true:=by simp[dX,bK,aE]
theorem MB.own {B:Nat}{h:ak}{v:Value}{l:List UInt8}(o:bT B h 5 v l.length (l.map bK)):MB h.n h v l:=by
 generalize hc:l.map bK=cs at o;generalize hn:l.length=n at o;cases o with
 | nil=>exact⟨_,_,by rw[hn],fun hl=>absurd (dq.1 hn) hl⟩
 | emp i hi=>exact⟨_,_,by rw[hn],fun hl=>absurd (dq.1 hn) hl⟩
 | row i n cs h1 h2 h3=>exact⟨_,_,by rw[hn],fun hl=>⟨i,0,rfl,h2,aq h2 h3 (by rw[← hc,← aI (f:=bK),eh,iF]) an⟩⟩
theorem MB.first {B:Nat}{h:ak}{v:Value}{l:List UInt8}(r:MB B h v l) (h0:l.length≠0):firstCells h 1 l.length v=some (l.map bK):=by obtain⟨a,c,rfl,q⟩:=r;obtain⟨i,o,rfl,_,q⟩:=q fun e=>h0 (by rw[e];rfl);simp only[firstCells,bQ];exact q
theorem IE {B:Nat}{v:Value}{l:List UInt8}{h:ak}{K:Value→ak→Prop}(r:MB B h v l) (hB:B≤h.n) (hN:l.length≤50000) (hK:∀ v' h',bT h.n h' 5 v' l.length (l.map bK)→aw h.n h h'→K v' h'):cy env (.func 36) [v] h K:=by
 refine F36 rfl ?_;obtain⟨a,c,rfl,q⟩:=id r;cases a with
 | none =>
   have hN0:l=[]:=by
     rcases l with _|⟨x,l⟩;· rfl
     · obtain⟨i,o,e,_⟩:=q an;cases e
   subst hN0
   have ww:=mW (aN @Jd @pD.{0})
   refine wk ?_
   exact hK _ h .nil (aw.refl _ _)
 | some a =>
   have ww:=mW (aN @Jd @ti.{0})
   refine wk ?_
   have X1:aw h.n h (ai h (.cells [] 5 true)):=br
   have hn1:(ai h (.cells [] 5 true)).n=h.n+1:=rfl
   refine lN (l:=[]) rfl ?_
   generalize ai h (.cells [] 5 true)=h1 at X1 hn1 ⊢
   refine wk ?_
   refine o0 (bT.emp (B:=h.n) h.n (by omega)) (by omega) rfl rfl (by omega) (fun h0=>((r.ext (X1.mono hB)).first h0)) (by simp) (ML l) (by decide) fun v' h' o X2=>?_
   rw[cb,gy]at o
   have n2:=X2.n
   refine wk ?_
   exact hK v' h' o (X1.trans X2)
def bU (c:Nat→Int) (pv:Value):List Value:=[.int .i64 (c 0),.int .i64 (c 1),.int .i64 (c 2),.int .i64 (c 3),.int .i64 (c 4),.int .i64 (c 5),.int .i64 (c 6),.int .i64 (c 7),.int .i64 (c 8),.int .i64 (c 9),.int .u64 (c 10),.int .u64 (c 11),.int .u64 (c 12),.int .u64 (c 13),pv]
theorem iI.cfg {h:ak}{i:Nat}{c:Nat→Int}{pv:Value}(b:iI h i (bU c pv) 25):av h (ad i 0) 15=some (bU c pv)∧cellAt h (ad i 14)=some pv:=⟨aq b.lt b.get rfl rfl,ay b.lt b.get rfl⟩
theorem lu {c:Nat→Int}{a:Option Addr}{n cc:Nat}:(bU c (.slice a n cc)).all aE=true:=rfl
theorem Eo.at_ {B:Nat}{h:ak}{a:Option Addr}{n c:Nat}{P:List (List UInt8)}(r:Eo B h (.slice a n c) P) {k:Nat}(hk:k<P.length) :
  ∃ i o ua uc,a=some ⟨i,o,none⟩∧i<B∧cellAt h (ad i (o+k))=some (.slice ua P[k].length uc)∧MB B h (.slice ua P[k].length uc) P[k]:=by
 obtain⟨a',c',e,q⟩:=r
 cases e
 obtain⟨i,o,u,e1,hi,hc,hb⟩:=q k _ (bw hk)
 obtain⟨ua,uc,rfl,_⟩:=id hb
 exact⟨i,o,ua,uc,e1,hi,hc,hb⟩
theorem fi {B i:Nat}{h:ak}{e:TypeId}{v:Value}{n:Nat}{cs:List Value}{k:iY}(o:bT B h e v n cs) (hi:i<B):bT B { h with b:=h.b.set i k } e v n cs:=by
 cases o with
 | nil=>exact .nil
 | emp j hj=>exact .emp j hj
 | row j n cs h1 h2 h3=>exact .row j n cs h1 h2 (by show T.get (T.set h.b i k) j=_;rw[T.aR _ _ ah];exact h3)
theorem J0 {B B0:Nat}{h h':ak}{e e':TypeId}{v s:Value}{n m:Nat}{cs ds:List Value}(o:bT B h e' v n cs) (os:bT B0 h e s m ds) (hne:e≠e') (h0:m=0→s=nS) (hn:h.n≤h'.n) (hf:∀ j,j<h.n→Ot s j→h'.b.get j=h.b.get j):bT B h' e' v n cs:=by
 cases o with
 | nil=>exact .nil
 | emp j hj=>exact .emp j ah
 | row j n cs h1 h2 h3 =>
   refine .row j n cs h1 ah ?_
   rw[hf j h2 ?_,h3]
   intro a n' c' e1 e2
   cases os with
   | nil=>cases e1
   | emp i hi=>exact absurd (h0 rfl) an
   | row i n2 cs2 g1 g2 g3 =>
     cases e1
     simp only at e2
     subst e2
     rw[h3]at g3
     simp only[aS,iY.cells.injEq]at g3
     exact hne g3.2.1.symm
def lV (B:Nat) (h:ak) (v:Value) (P:List (List UInt8)):Prop :=
 ∃ us:List Value,us.length=P.length∧bT B h 71 v P.length us∧(P.length=0→v=nS)∧∀ (k:Nat) u l,us[k]?=some u→P[k]?=some l→bT B h 5 u l.length (l.map bK)
theorem lV.nil (B:Nat) (h:ak):lV B h (nS) []:=⟨[],rfl,.nil,fun _=>rfl,fun k u l e=>by simp at e⟩
theorem lV.NT {B i:Nat}{h:ak}{v:Value}{P:List (List UInt8)}{k:iY}(o:lV B h v P) (hi:i<B):lV B { h with b:=h.b.set i k } v P:=by obtain⟨us,e1,e2,e3,e4⟩:=o;exact⟨us,e1,fi e2 hi,e3,fun k u l h1 h2=>fi (e4 k u l h1 h2) hi⟩
theorem lV.ext {B B':Nat}{h h':ak}{v:Value}{P:List (List UInt8)}(o:lV B h v P) (x:aw B' h h') (hB:h.n≤B'):lV B h' v P:=by obtain⟨us,e1,e2,e3,e4⟩:=o;exact⟨us,e1,e2.ext x hB,e3,fun k u l h1 h2=>(e4 k u l h1 h2).ext x hB⟩
theorem lV.rd {B:Nat}{h:ak}{v:Value}{P:List (List UInt8)}(o:lV B h v P):Eo h.n h v P:=by
 obtain⟨us,e1,e2,e3,e4⟩:=o;generalize hn:P.length=n at e2 e1;cases e2 with
 | nil=>exact⟨_,_,by rw[hn],fun k l e=>by have:=(cQ.1 e).1;omega⟩
 | emp i hi=>exact⟨_,_,by rw[hn],fun k l e=>by have:=(cQ.1 e).1;omega⟩
 | row i n us g1 g2 g3 =>
   refine⟨_,_,by rw[hn],fun k l e=>?_⟩
   have hk:=(cQ.1 e).1
   have hu:us[k]?=some (us[k]'(by omega)):=bw _
   exact⟨i,0,_,rfl,g2,ay g2 g3 (by rw[cb];exact hu),MB.own (e4 k _ l hu e)⟩
theorem lV.val {B:Nat}{h:ak}{v:Value}{P:List (List UInt8)}(o:lV B h v P):∃ a c,v=.slice a P.length c:=by obtain⟨a,c,e,_⟩:=o.rd;exact⟨a,c,e⟩
theorem vo {B:Nat}{e:TypeId}{sz n j:Nat}{s:Value}{cs new:List Value}{h1:ak}{K:Value→ak→Prop}(o:bT B h1 e s n cs) (hB:B≤h1.n) (hlen:cs.length=n*sz) (hsz:n+1≤1000000)
  (hnl:new.length=sz) (hone:new.all aE=true) (hpos:sz≠0) (hj:j=h1.n)
  (k:∀ v' h',bT B h' e v' (n+1) (cs++new)→aw B h1 h'→h1.n+1≤h'.n→(∀ j,j<h1.n→Ot s j→h'.b.get j=h1.b.get j)→K v' h'):iK e sz s (.slice (some ⟨j,0,none⟩) 1 1) (ai h1 (.cells new e true)) K:=by
 subst hj
 refine Px (o.new _) (bO hB (aL _)) hlen (m:=1) rfl ao hsz (new:=new) ?_ ah hone hpos fun v' h' o' x' f'=>k v' h' o' ((aw.new _ hB).trans x') x'.n fun j hj hno=>by rw[f' j (vl hj) hno,aK _ hj]
 simp only[firstCells,fk]
 exact aV hnl
theorem lV.app {B j:Nat}{h:ak}{v u:Value}{P:List (List UInt8)}{l:List UInt8}{K:Value→ak→Prop}(o:lV B h v P) (ou:bT B h 5 u l.length (l.map bK)) (hB:B≤h.n) (hP:P.length+1≤1000000) (hone:aE u=true) (hj:j=h.n)
  (k:∀ v' h',lV B h' v' (P++[l])→aw B h h'→h.n+1≤h'.n→K v' h'):iK 71 1 v (.slice (some ⟨j,0,none⟩) 1 1) (ai h (.cells [u] 71 true)) K:=by
 obtain⟨us,e1,e2,e3,e4⟩:=o
 refine vo e2 hB (by rw[bQ];exact e1) hP rfl (by simp[hone]) ao hj fun v' h' o' x xn f=>k v' h' ⟨us++[u],by simp[e1],by simpa using o',fun h0=>by simp at h0,fun i w m h1 h2=>?_⟩ x xn
 rw[pE]at h1 h2
 have nn:=x.n
 by_cases hi:i<us.length
 ·rw[if_pos hi]at h1;rw[if_pos ah]at h2;exact J0 (e4 i w m h1 h2) e2 ao e3 nn f
 ·rw[if_neg hi]at h1;rw[if_neg ah]at h2;have hz:i-us.length=0:=by
   rcases Nat.eq_zero_or_pos (i-us.length) with h0|h0;·exact h0
   ·rw[qK (by simp;omega)]at h1;cases h1
  rw[hz]at h1;rw[show i-P.length=0 by omega]at h2;cases h1;cases h2;exact J0 ou e2 ao e3 nn f
theorem str_inj {l m:List UInt8}:((⟨l.toArray⟩:ByteArray)=⟨m.toArray⟩)↔l=m:=by
 constructor;·intro h;have:=congrArg (fun b=>b.data.toList) h;simpa using this
 ·rintro rfl;rfl
theorem wY {B B':Nat}{h:ak}{e:TypeId}{v:Value}{n:Nat}{cs:List Value}(o:bT B' h e v n cs) (hb:B≤B'):bT B h e v n cs:=by
 cases o with
 | nil=>exact .nil
 | emp j hj=>exact .emp j hj
 | row j n cs h1 h2 h3=>exact .row j n cs ah h2 h3
theorem il {B:Nat}{h:ak}{e:TypeId}{v:Value}{n:Nat}{cs:List Value}(o:bT B h e v n cs):∃ a c,v=.slice a n c:=by
 cases o with
 | nil=>exact⟨_,_,rfl⟩
 | emp j hj=>exact⟨_,_,rfl⟩
 | row j n cs h1 h2 h3=>exact⟨_,_,rfl⟩
theorem lV.mono {B B':Nat}{h:ak}{v:Value}{P:List (List UInt8)}(o:lV B' h v P) (hb:B≤B'):lV B h v P:=by obtain⟨us,e1,e2,e3,e4⟩:=o;exact⟨us,e1,wY e2 hb,e3,fun k u l h1 h2=>wY (e4 k u l h1 h2) hb⟩
theorem iI.vf {h:ak}{i j:Nat}{cs:List Value}{e:TypeId}{k:iY}(b:iI h i cs e) (hj:j≠i):iI { h with b:=h.b.set j k } i cs e:=⟨b.lt,by show T.get (T.set h.b j k) i=_;rw[T.aR _ _ hj];exact b.get⟩
def zc:Nat→Int:=fun _=>0
theorem NQ {B:Nat}{h:ak}{e:TypeId}{v:Value}{n k:Nat}{cs:List Value}(o:bT B h e v n cs):bt k v v=true:=by
 cases o with
 | nil=>cases k<;>simp[bt]
 | emp j hj=>cases k<;>simp[bt]
 | row j n cs h1 h2 h3=>cases k<;>simp[bt]
theorem lV.same {B:Nat}{h:ak}{v:Value}{P:List (List UInt8)}{k:Nat}(o:lV B h v P):bt k v v=true:=by obtain⟨us,e1,e2,_⟩:=o;exact NQ e2
theorem Mf {B:Nat}{c:Nat→Int}{pv:Value}{P:List (List UInt8)}{h:ak}{K:Value→ak→Prop}(r:Eo B h pv P) (hB:B≤h.n) (hp:P.length≤40∧∀ l∈P,l.length≤40000)
  (hK:∀ pv' h',aw h.n h h'→lV h.n h' pv' P→K (.agg ⟨bU c pv'⟩) h'):cy env (.func 16) [.agg ⟨bU c pv⟩] h K:=by
 obtain⟨pa,pc,rfl,_⟩:=id r
 refine F16 rfl ?_
 have ww:=mW @lu
 refine wk ?_
 have V:=iI.new h (bU c (.slice pa P.length pc)) 25
 obtain⟨h1,eh1⟩:=gz (ai h (.cells (bU c (.slice pa P.length pc)) 25 true))
 have X:=tW eh1
 have hn1:=qk eh1
 rw[eh1];try rw[eh1]at V
 refine wk ?_
 have W:=iI.new h1 (bU zc (nS)) 25
 have X1:aw h1.n h1 (ai h1 (.cells (bU zc (nS)) 25 true)):=br
 have hn2:(ai h1 (.cells (bU zc (nS)) 25 true)).n=h.n+2:=by show h1.n+1=_;omega
 have e0:[iv 0,iv 0,iv 0,iv 0,iv 0,iv 0,iv 0,iv 0,iv 0,iv 0,uv 0,uv 0,uv 0,uv 0,nS]=bU zc (nS):=rfl
 rw[e0]
 rw[hn1]at W;try rw[hn1]
 replace V:=V.ext X1 ah
 replace X:=X.jI X1
 generalize ai h1 (.cells (bU zc (nS)) 25 true)=h2 at V W X hn2 ⊢
 clear X1 hn1
 have dv:=V.cfg
 have ww:=ww.a @dv
 refine wk ?_
 refine fa (cs':=bU c (nS)) V.get rfl rfl rfl rfl ao ?_
 have V3:=V.set (cs':=bU c (nS))
 have W3:iI { h2 with b:=h2.b.set h.n (.cells (bU c (nS)) 25 true) } (h.n+1) (bU zc (nS)) 25:=W.vf ah
 have X3:aw h.n h2 { h2 with b:=h2.b.set h.n (.cells (bU c (nS)) 25 true) }:=aw.set _ a_
 obtain⟨h3,eh3⟩:=gz ({ h2 with b:=h2.b.set h.n (.cells (bU c (nS)) 25 true) }:ak)
 have n3:h3.n=h2.n:=eh3▸rfl
 rw[eh3];try rw[eh3]at V3;try rw[eh3]at W3;try rw[eh3]at X3
 replace X:=X.trans X3
 clear V W dv X3
 refine wk ?_
 refine aP (fun m fr' h'=>∃ (k:Nat) (v:Value),k≤P.length∧m=40-k∧aw h.n h h'∧h.n+2≤h'.n∧fr'.get 11=some (iv k)∧iI h' h.n (bU c v) 25∧iI h' (h.n+1) (bU zc (nS)) 25∧lV (h.n+2) h' v (P.take k)) 40 ?_ ah ?_
 ·exact⟨0,_,ah,ah,X,ah,aA,V3,W3,lV.nil _ _⟩
 rintro m fr2 h' ⟨k,v,hk,rfl,XX,nn,f11,V',W',O⟩ hag
 have dw:=V'.cfg
 obtain⟨va,vc,hv⟩:=O.val
 have htl:(P.take k).length=k:=by rw[fp];omega
 rw[htl]at hv
 subst hv
 have sv:∀ n,(bt n (.slice va k vc) (.slice va k vc)=true)=True:=fun n=>by simp[O.same]
 by_cases aT:k<P.length
 ·obtain⟨i,o,ua,uc,rfl,hi,hc,hu⟩:=r.at_ aT;have hu':=hu.ext (XX.mono hB);have hc':=aD (XX.mono hB) hi hc;have hlk:=hp.2 P[k] (bG _);have ww:=ww.a (aN @dw @bQ);refine wk ?_;refine IE hu' ah ah fun u h4 o4 X4=>?_;have n4:=X4.n;obtain⟨ub,uc2,rfl⟩:=il o4;have O4:=O.ext X4 a_;have V4:=V'.ext X4 ah;have W4:=W'.ext X4 ah;have dv4:=V4.cfg;have ww:=ww.a (aN @dv4 @sv);refine wk ?_;refine lV.app O4 (wY o4 nn) ah (by rw[htl];omega) rfl rfl fun v' h5 O5 X5 n5=>?_;rw[List.take_append_getElem]at O5;obtain⟨va',vc',hv'⟩:=O5.val;rw[fp,jv ah]at hv';subst hv';have V5:=V4.ext X5 ah;have W5:=W4.ext X5 ah;refine wk ?_;refine fa (cs':=bU c (.slice va' (k+1) vc')) V5.get rfl rfl rfl rfl ao ?_;have O6:=O5.NT (i:=h.n) (k:=.cells (bU c (.slice va' (k+1) vc')) 25 true) ah;have V6:=V5.set (cs':=bU c (.slice va' (k+1) vc'));have W6:iI { h5 with b:=h5.b.set h.n (.cells (bU c (.slice va' (k+1) vc')) 25 true) } (h.n+1) (bU zc (nS)) 25:=W5.vf ah;have X6:aw h.n h5 { h5 with b:=h5.b.set h.n (.cells (bU c (.slice va' (k+1) vc')) 25 true) }:=aw.set _ ah;obtain⟨h6,eh6⟩:=gz ({ h5 with b:=h5.b.set h.n (.cells (bU c (.slice va' (k+1) vc')) 25 true) }:ak);have n6:h6.n=h5.n:=eh6▸rfl;rw[eh6];try rw[eh6]at O6;try rw[eh6]at V6;try rw[eh6]at W6;try rw[eh6]at X6
  refine wk ?_;exact⟨40-(k+1),ah,k+1,_,ah,rfl,((XX.jI X4).trans (X5.mono ah)).trans X6,ah,by simp[T.aj,bC (show k≤4611686018427387904 by omega)],V6,W6,O6⟩
 ·have hkl:k=P.length:=ah;subst hkl;rw[iF]at O;have ww:=ww.a @dw;refine wk ?_;refine fa (cs':=bU c (.slice va P.length vc)) W'.get rfl rfl rfl rfl ao ?_;have O6:=O.NT (i:=h.n+1) (k:=.cells (bU c (.slice va P.length vc)) 25 true) ah;have V6:=W'.set (cs':=bU c (.slice va P.length vc));have X6:aw h.n h' { h' with b:=h'.b.set (h.n+1) (.cells (bU c (.slice va P.length vc)) 25 true) }:=aw.set _ ah;generalize ({ h' with b:=h'.b.set (h.n+1) (.cells (bU c (.slice va P.length vc)) 25 true) }:ak)=h6 at O6 V6 X6 ⊢;have dv6:=V6.cfg;have ww:=ww.a @dv6;refine wk ?_;exact hK _ h6 (XX.trans X6) (O6.mono ah)
end Go.Proofs.YthjlppdnlahhoaaGreat
