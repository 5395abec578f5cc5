/- THE PLAIN MACHINE's FUNCTIONS, walked (25). Conditions: none beyond each theorem's own. -/
import Derived.Test.YthjlppdnlahhoaaGreatP24
import Derived.Test.YthjlppdnlahhoaaGreatP23
set_option linter.unusedSimpArgs false
set_option linter.unusedVariables false
namespace Go.Proofs.YthjlppdnlahhoaaGreat
open Go.Ev
open Pl
set_option maxRecDepth 100000
set_option maxHeartbeats 800000
def mw (C:xO):Nat→Int:=fun k=>[(C.ps:Int),(C.ring:Int),(C.gs:Int),(C.gO:Int),(C.ir:Int),(C.nodes:Int),(C.bP:Int),(C.refs:Int),(C.fm:Int),(C.slice:Int),C.x_,C.ee,C.iP,C.each].getD k 0
def zGD:GD:=⟨0,false,⟨0,0⟩,⟨0,0⟩,0,0,0,0,0,0,0,0,0,0,0,0,0⟩
def zXD:XD:=⟨0,0,[],0⟩
def zSD:SD:=⟨⟨0,0⟩,0,0,0,0,0⟩
def Xz:PD:=⟨[],[],[],0,0⟩
def ku (C:xO):MD:={ cfg:=C,now:=0,aX:=0,gs:=List.replicate C.gs ⟨1,false,zGD⟩,fg:=lA C.gs C.gs,cl:=List.replicate C.gO ⟨1,false,zXD⟩,fc:=lA C.gO C.gO,sh:=List.replicate C.ir ⟨1,false,zSD⟩,fs:=lA C.ir C.ir,ax:=[],cw:=0,ps:=List.replicate C.ps Xz,all:=[],tm:=[],log:=[],calls:=0 }
def uL (C:xO) (pv fg fc fs:Value):VD:={ cG:=pv,fg:=fg,fc:=fc,fs:=fs,ax:=.slice none 0 0,all:=.slice none 0 0,tm:=.slice none 0 0,log:=.slice none 0 0,ps:=List.replicate C.ps ⟨.slice none 0 0,.slice none 0 0,.slice none 0 0,0,0⟩,cl:=List.replicate C.gO ⟨1,false,⟨0,0,.slice none 0 0,0⟩⟩ }
theorem yO {n:Nat}:(lA n n).length=n:=by simp[lA]
theorem GN {N n:Nat}{h:ak}{v:Value}(o:bT N h 3 v n ((lA n n).map bZ)) (h0:1≤n):Go.Proofs.YthjlppdnlahhoaaGreat.Fr h v (lA n n):=by
 have hl:=yO (n:=n);have hne:lA n n≠[]:=fun e=>by rw[e]at hl;simp at hl;omega
 generalize hc:(lA n n).map bZ=cs at o;cases o with
 | nil=>omega
 | emp i hi=>omega
 | row i n cs h1 h2 h3 =>
   subst hc
   exact⟨fun j bj=>(by obtain ⟨x,e,rfl,_⟩:=aU.1 bj;cases e;exact h2),some ⟨i,0,none⟩,bh,by rw[hl],fun _=>⟨i,[],false,rfl,by rw[ei];exact h3⟩,.inr ⟨rfl,hne,i,rfl,h3⟩⟩
theorem zF {α:Type}(f:α→Value):∀ l:List α,(l.map fun x=>[f x]).flatten=l.map f
 | []=>rfl
 | x::l=>by rw[dT,mG,zF f l];rfl
theorem tz {N n:Nat}{h:ak}{e:TypeId}{v:Value}{cs:List Value}(o:bT N h e v n cs) {j:Nat}(b:fT v j):N≤j∧j<h.n:=by
 cases o with
 | nil=>obtain⟨x,e,_⟩:=aU.1 b;cases e
 | emp i hi=>obtain⟨x,e,_,h0⟩:=aU.1 b;exact absurd rfl h0
 | row i n cs h1 h2 h3=>obtain⟨x,e,rfl,_⟩:=aU.1 b;cases e;exact⟨h1,h2⟩
def N4 (C:xO) (m g c s p:Nat) (pv fg fc fs:Value):List Value:=[.int .i64 (C.ps:Int),.int .i64 (C.ring:Int),.int .i64 (C.gs:Int),.int .i64 (C.gO:Int),.int .i64 (C.ir:Int),.int .i64 (C.nodes:Int),.int .i64 (C.bP:Int),.int .i64 (C.refs:Int),.int .i64 (C.fm:Int),.int .i64 (C.slice:Int),
 .int .u64 C.x_,.int .u64 C.ee,.int .u64 C.iP,.int .u64 C.each,pv,.int .u64 0,.int .i64 0,sl g C.gs,fg,sl c C.gO,fc,sl s C.ir,fs,.slice none 0 0,.int .i64 0,sl p C.ps,.slice none 0 0,.slice none 0 0,.slice none 0 0,.int .u64 0]
theorem Hh {C:xO}{m g c s p:Nat}{pv fg fc fs:Value}:N4 C m g c s p pv fg fc fs=cL ⟨m,g,c,s,p⟩ (uL C pv fg fc fs) (ku C):=by simp only[cL,ku,uL,iU,N4];rfl
theorem WI {C:xO}{pv fg fc fs:Value}{h2 h4 h5 h6 h7:ak}(F5:bT (h4.n+2) h5 3 fg C.gs ((lA C.gs C.gs).map bZ)) (F6:bT (h5.n+2) h6 3 fc C.gO ((lA C.gO C.gO).map bZ)) (F7:bT (h6.n+2) h7 3 fs C.ir ((lA C.ir C.ir).map bZ)) {j:Nat}
  (o:own ⟨h7.n,h4.n+1,h5.n+1,h6.n+1,h2.n⟩ (uL C pv fg fc fs) j):j=h2.n∨h4.n≤j∨h5.n≤j∨h6.n≤j∨h7.n≤j:=by
 rcases o with o|o|o|o|o|o|o|o|o
 ·simp only at o;omega
 ·simp only at o;omega
 ·simp only at o;omega
 ·simp only at o;omega
 ·exact .inl o
 ·have:=tz F5 o;omega
 ·have:=tz F6 o;omega
 ·have:=tz F7 o;omega
 ·obtain⟨x,e,_⟩:=aU.1 o;cases e
theorem HL {C:xO}{pv fg fc fs:Value}{h2 h3 h4 h5 h6 h7:ak}(b1:1≤C.gs) (b2:1≤C.gO) (b3:1≤C.ir) (hp:C.cG.length≤1000) (hpl:∀ l∈C.cG,l.length≤40000)
  (n3:h3.n=h2.n+1) (gp:h3.b.get h2.n=some (.cells (rep C.ps [.slice none 0 0,.slice none 0 0,.slice none 0 0,.int .i64 0,.int .u64 0]) 113 true))
  (X4:aw h3.n h3 h4) (O4:lV h3.n h4 pv C.cG)
  (X5:aw h4.n h4 h5) (l5:h4.n+1<h5.n) (G5:h5.b.get (h4.n+1)=some (.cells (List.replicate C.gs (Ob.cells GD.cells ⟨1,false,zGD⟩)).flatten 125 true)) (F5:bT (h4.n+2) h5 3 fg C.gs ((lA C.gs C.gs).map bZ))
  (X6:aw h5.n h5 h6) (l6:h5.n+1<h6.n) (G6:h6.b.get (h5.n+1)=some (.cells (List.replicate C.gO (Ob.cells XW.cells ⟨1,false,⟨0,0,.slice none 0 0,0⟩⟩)).flatten 127 true)) (F6:bT (h5.n+2) h6 3 fc C.gO ((lA C.gO C.gO).map bZ))
  (X7:aw h6.n h6 h7) (l7:h6.n+1<h7.n) (G7:h7.b.get (h6.n+1)=some (.cells (List.replicate C.ir (Ob.cells SD.cells ⟨1,false,zSD⟩)).flatten 129 true)) (F7:bT (h6.n+2) h7 3 fs C.ir ((lA C.ir C.ir).map bZ)) :
  St ⟨h7.n,h4.n+1,h5.n+1,h6.n+1,h2.n⟩ (uL C pv fg fc fs) (ai h7 (.cells (cL ⟨h7.n,h4.n+1,h5.n+1,h6.n+1,h2.n⟩ (uL C pv fg fc fs) (ku C)) 98 true)) (ku C):=by
 obtain⟨hm,em⟩:∃ hm,hm=ai h7 (.cells (cL ⟨h7.n,h4.n+1,h5.n+1,h6.n+1,h2.n⟩ (uL C pv fg fc fs) (ku C)) 98 true):=⟨_,rfl⟩
 have X8:aw h7.n h7 hm:=em▸aw.new _ a_
 have gm:hm.b.get h7.n=some (.cells (cL ⟨h7.n,h4.n+1,h5.n+1,h6.n+1,h2.n⟩ (uL C pv fg fc fs) (ku C)) 98 true):=by rw[em];exact az _ _
 have n8:hm.n=h7.n+1:=by rw[em];rfl
 rw[← em]
 clear em
 have n4:=X4.n
 have n5:=X5.n
 have n6:=X6.n
 have n7:=X7.n
 have Y7:aw h6.n h6 hm:=X7.trans (X8.mono n7)
 have Y6:aw h5.n h5 hm:=X6.trans (Y7.mono n6)
 have Y5:aw h4.n h4 hm:=X5.trans (Y6.mono n5)
 have Y4:aw h3.n h3 hm:=X4.trans (Y5.mono n4)
 have fo5:bT (h4.n+2) hm 3 fg C.gs _:=F5.ext Y6 a_
 have fo6:bT (h5.n+2) hm 3 fc C.gO _:=F6.ext Y7 a_
 have fo7:bT (h6.n+2) hm 3 fs C.ir _:=F7.ext X8 a_
 have bg:∀ j,fT fg j→h4.n+2≤j∧j<h5.n:=fun j b=>tz F5 b
 have bc:∀ j,fT fc j→h5.n+2≤j∧j<h6.n:=fun j b=>tz F6 b
 have bs:∀ j,fT fs j→h6.n+2≤j∧j<h7.n:=fun j b=>tz F7 b
 have bn:∀ j,¬fT (.slice none 0 0) j:=fun j b=>by obtain ⟨x,e,_⟩:=aU.1 b;cases e
 have ow:∀ j,own ⟨h7.n,h4.n+1,h5.n+1,h6.n+1,h2.n⟩ (uL C pv fg fc fs) j→j=h2.n∨(h4.n<j∧j<hm.n):=fun j o=>by
  rcases o with o|o|o|o|o|o|o|o|o;·simp only at o;omega
  ·simp only at o;omega
  ·simp only at o;omega
  ·simp only at o;omega
  ·exact .inl o
  ·have:=bg j o;omega
  ·have:=bc j o;omega
  ·have:=bs j o;omega
  ·exact absurd o (bn j)
 have lt:∀ j,own ⟨h7.n,h4.n+1,h5.n+1,h6.n+1,h2.n⟩ (uL C pv fg fc fs) j→j<hm.n:=fun j o=>by rcases ow j o with e|e<;>omega
 have KP:Kp (fun j=>j<h3.n) (own ⟨h7.n,h4.n+1,h5.n+1,h6.n+1,h2.n⟩ (uL C pv fg fc fs)) h4 hm:=⟨Y5.n,fun j hj _=>Y5.get j hj,fun j hj o=>by rcases ow j o with e|e<;>omega⟩
 have ri:RI (own ⟨h7.n,h4.n+1,h5.n+1,h6.n+1,h2.n⟩ (uL C pv fg fc fs)) hm (.slice none 0 0) []:=RI.nil lt
 refine⟨lt,gm,⟨true,?_⟩,⟨true,?_⟩,⟨true,?_⟩,⟨true,?_⟩,GN fo5 b1,GN fo6 b2,GN fo7 b3,⟨fun j a b=>?_,fun j a b=>?_,fun j a b=>?_⟩,?_,ri,RS.nil,RS.nil,?_,fun p h1 h2'=>?_,?_,fun p h1 h2'=>?_,?_⟩
 ·show hm.b.get (h4.n+1)=some (.cells (((List.replicate C.gs (⟨1,false,zGD⟩:Ob GD)).map (Ob.cells GD.cells)).flatten) 125 true);rw[wL];exact(Y6.get _ ah).trans G5
 ·show hm.b.get (h5.n+1)=some (.cells (((List.replicate C.gO (⟨1,false,⟨0,0,.slice none 0 0,0⟩⟩:Ob XW)).map (Ob.cells XW.cells)).flatten) 127 true);rw[wL];exact(Y7.get _ ah).trans G6
 ·show hm.b.get (h6.n+1)=some (.cells (((List.replicate C.ir (⟨1,false,zSD⟩:Ob SD)).map (Ob.cells SD.cells)).flatten) 129 true);rw[wL];exact X8.cY G7
 ·show hm.b.get h2.n=some (.cells (((List.replicate C.ps (⟨.slice none 0 0,.slice none 0 0,.slice none 0 0,0,0⟩:PW)).map PW.cells).flatten) 113 true);rw[wL,(Y4.get _ ah),gp,r9];rfl
 ·have:=bg j a;have:=bc j b;omega
 ·have:=bg j a;have:=bs j b;omega
 ·have:=bc j a;have:=bs j b;omega
 ·exact⟨none,0,rfl,aQ _,ao,fun _=>rfl,(fun x e=>by cases e),fun e=>absurd rfl e⟩
 ·show (List.replicate C.ps _).length=(List.replicate C.ps _).length;rw[iU,iU]
 ·simp only[uL,ku,qU];exact⟨ri,ri,ri,rfl,rfl⟩
 ·show (List.replicate C.gO _).length=(List.replicate C.gO _).length;rw[iU,iU]
 ·simp only[uL,ku,qU];exact⟨rfl,rfl,rfl,rfl,rfl,RS.nil⟩
 ·obtain⟨us,e1,e2,e3,e4⟩:=O4;refine⟨us,RS.kp (O:=fun j=>j<h3.n) (RS.iS (N:=h3.n) (e:=71) ?_ (fun r hr=>by obtain ⟨x,_,rfl⟩:=bD.1 hr;rfl) (fun j hj=>hj) (by rw[aI];omega)) KP,e1,fun i h1 h2'=>RS.kp (O:=fun j=>j<h3.n) (RS.iS (N:=h3.n) (e:=5) ?_ (fun r hr=>by obtain ⟨x,_,rfl⟩:=bD.1 hr;rfl) (fun j hj=>hj) ?_) KP⟩;·rw[aI,e1];rw[zF (fun v=>v),List.map_id'];exact e2
  ·have h2'':i<C.cG.length:=h2';have:=e4 i us[i] C.cG[i] (bw h1) (bw h2'');rw[aI,zF];exact this
  ·rw[aI];have:=hpl (ku C).cfg.cG[i] (bG (l:=C.cG) h2');omega
set_option linter.defProp false
def V6_25:=(aN (aN (aN @qv @qW) @qx) (aN (aN @qj @qC) @qZ))
def V6_23:=(aN (aN (aN @qv @qW) @qQ) (aN (aN @qj @qC) @qZ))
def V6_21:=(aN (aN (aN @qv @qx) @qQ) (aN (aN @qj @qC) @qZ))
set_option maxHeartbeats 4000000
theorem tu {n:Nat}(h:1≤n):∃ f,lA n n=f++[0]:=by obtain⟨m,rfl⟩:∃ m,n=m+1:=⟨n-1,ah⟩;exact⟨(List.range m).map fun i=>m+1-1-i,by simp[lA,List.range_succ]⟩
theorem yN {n i:Nat}(h:i∈lA n n):i<n:=by simp only[lA,bD,sj]at h;obtain⟨j,hj,rfl⟩:=h;omega
def Og (C:xO):List (Ob SD):=(List.replicate C.ir ⟨1,false,zSD⟩).set 0 ⟨1,true,⟨⟨0,0⟩,(C.gs:Int),C.x_,C.ee,1,0⟩⟩
def Fu (C:xO):List (Ob XD):=(List.replicate C.gO ⟨1,false,zXD⟩).set 0 ⟨1,true,⟨C.iP,C.each,[⟨C.iP,0⟩],1⟩⟩
def g1D (C:xO):GD:=⟨1,false,⟨0,1⟩,⟨0,1⟩,2 ^ C.ps-1,0,0,0,0,0,0,0,0,0,0,0,0⟩
def Hc (C:xO):List (Ob GD):=(List.replicate C.gs ⟨1,false,zGD⟩).set 0 ⟨1,true,g1D C⟩
def oj (C:xO) (fs:List Nat):MD:={ ku C with fs:=fs,sh:=Og C }
def u0 (C:xO) (fs fc:List Nat):MD:={ oj C fs with fc:=fc,cl:=Fu C }
def NL (C:xO) (fs fc fg:List Nat):MD:={ u0 C fs fc with fg:=fg,gs:=Hc C }
def zM (C:xO) (fs fc fg:List Nat):MD:={ NL C fs fc fg with all:=[0] }
theorem Mz {a:Ad}{V:VD}{C:xO}{pv:Value}{i0:Nat}{h:ak}{fr:Go.Ev.Fr}{K:Value→ak→Prop}(S:St a V h (ku C)) (lo:∀ j,own a V j→i0<j) (bx:iI h i0 (bU (mw C) pv) 25)
  (hb:C.ps≤8∧C.gs≤1000∧C.gO≤1000∧C.ir≤1000) (hb1:1≤C.gs∧1≤C.gO∧1≤C.ir)
  (f1:fr.get 1=some (pt i0 0)) (f5:fr.get 5=some (mp a))
  (hN:∀ V' h' fs0 (fr':Go.Ev.Fr),lA C.ir C.ir=fs0++[0]→St a V' h' (oj C fs0)→(∀ j,own a V' j→i0<j)→iI h' i0 (bU (mw C) pv) 25→Kp (own a V) (own a V') h h'→fr'.get 1=some (pt i0 0)→fr'.get 5=some (mp a)→fr'.get 6=some (pt h.n 0)→h'.b.get h.n=some (.cells [iv 0,uv 1] 38 true)→h.n<h'.n→¬own a V' h.n→Fs.wp env 106 none fr' h' (cW env [.tmp 2,.tmp 3] K)):EN.wp env 106 none fr h (cW env [.tmp 2,.tmp 3] K):=by
 unfold mp at f5
 have e1:=bf f1
 have e5:=bf f5
 have no:=S.lt
 have d2:cellAt h (ad i0 2)=some (iv C.gs):=bx.at_ rfl
 have d10:cellAt h (ad i0 10)=some (uv C.x_):=bx.at_ rfl
 have d11:cellAt h (ad i0 11)=some (uv C.ee):=bx.at_ rfl
 have ww:=mW V6_25
 refine wk ?_
 have no1:¬own a V h.n:=fun o=>absurd (S.lt _ o) ah
 have X1:aw h.n h (ai h (.cells [iv 0,uv 0] 38 true)):=br
 have gt1:(ai h (.cells [iv 0,uv 0] 38 true)).b.get h.n=some (.cells [iv 0,uv 0] 38 true):=az _ _
 have n1:(ai h (.cells [iv 0,uv 0] 38 true)).n=h.n+1:=rfl
 obtain⟨fs0,efs⟩:=tu hb1.2.2
 obtain⟨fc0,efc⟩:=tu hb1.2.1
 obtain⟨fg0,efg⟩:=tu hb1.1
 refine Gl (x:=⟨⟨0,0⟩,(C.gs:Int),C.x_,C.ee,1,0⟩) (S.ext X1) (fun i hi=>by simp only[ku,iU];exact yN hi) (by simp only[ku,yO];omega) (by simp only[ku,iU];omega) (fun e=>by simp only[ku]at e;rw[efs]at e;simp at e) fun f i hi e V1 h1 s1 k1=>?_
 have e':fs0++[0]=f++[i]:=efs.symm.trans e
 obtain⟨rfl,e2⟩:=mT e' rfl
 cases e2
 have n2:=k1.n
 have gt2:=(k1.get h.n ah no1).trans gt1
 have not2:¬own a V1 h.n:=fun o=>no1 (k1.own _ ah o)
 have bx1:iI h1 i0 (bU (mw C) pv) 25:=⟨by have:=bx.lt;omega,(k1.get i0 (by have:=bx.lt;omega) fun o=>by have:=lo _ o;omega).trans ((X1.get i0 bx.lt).trans bx.get)⟩
 have lo1:∀ j,own a V1 j→i0<j:=fun j o=>by
  by_cases hj:j<h.n+1;·exact lo _ (k1.own j hj o)
  ·have:=bx.lt;omega
 replace d2:cellAt h1 (ad i0 2)=some (iv C.gs):=bx1.at_ rfl
 replace d10:cellAt h1 (ad i0 10)=some (uv C.x_):=bx1.at_ rfl
 replace d11:cellAt h1 (ad i0 11)=some (uv C.ee):=bx1.at_ rfl
 have eg:(ku C).sh[0].gen=1:=by simp only[ku,qU]
 have ww:=ww.a @eg
 refine wk ?_
 refine aM (off:=0) (l:=[iv 0,uv 1]) (cs':=[iv 0,uv 1]) gt2 rfl rfl rfl rfl ao ?_
 have s2:=s1.loc (cs':=[iv 0,uv 1]) gt2 not2
 have k2:=((Kp.ext X1).trans k1).loc (j:=h.n) (k:=.cells [iv 0,uv 1] 38 true) a_
 obtain⟨h2,eh2⟩:=gz (aO h1 h.n (.cells [iv 0,.int .u64 1] 38 true))
 have gt3:=rS eh2
 have bx2:iI h2 i0 (bU (mw C) pv) 25:=eh2▸(bx1.vf (by have:=bx.lt;omega))
 have n3:=sW eh2
 rw[eh2];try rw[eh2]at s2;try rw[eh2]at k2
 refine wk ?_
 have step:∀ fr:Go.Ev.Fr,fr.get 1=some (pt i0 0)→fr.get 5=some (mp a)→fr.get 6=some (pt h.n 0)→Fs.wp env 106 none fr h2 (cW env [.tmp 2,.tmp 3] K):=by clear d2 d10 d11 e1 e5 f1 f5;intro fr f1 f5 f6;rw[eg]at s2;exact hN _ _ _ _ efs s2 lo1 bx2 (k2) f1 f5 f6 gt3 ah not2
 exact step _ (by simp[T.aj];exact f1) (by simp[T.aj];exact f5) aA
theorem Lc {a:Ad}{V:VD}{C:xO}{pv:Value}{i0 r6:Nat}{fs0:List Nat}{h:ak}{fr:Go.Ev.Fr}{K:Value→ak→Prop}(S:St a V h (oj C fs0)) (lo:∀ j,own a V j→i0<j) (bx:iI h i0 (bU (mw C) pv) 25)
  (hb:C.gO≤1000) (hb1:1≤C.gO) (f1:fr.get 1=some (pt i0 0)) (f5:fr.get 5=some (mp a)) (f6:fr.get 6=some (pt r6 0)) (g6:h.b.get r6=some (.cells [iv 0,uv 1] 38 true)) (l6:r6<h.n) (no6:¬own a V r6)
  (hN:∀ V' h' fc0 (fr':Go.Ev.Fr) r8,lA C.gO C.gO=fc0++[0]→St a V' h' (u0 C fs0 fc0)→(∀ j,own a V' j→i0<j)→iI h' i0 (bU (mw C) pv) 25→Kp (own a V) (own a V') h h'→fr'.get 1=some (pt i0 0)→fr'.get 5=some (mp a)→fr'.get 6=some (pt r6 0)→h'.b.get r6=some (.cells [iv 0,uv 1] 38 true)→¬own a V' r6 →
   fr'.get 8=some (pt r8 0)→h'.b.get r8=some (.cells [iv 0,uv 1] 38 true)→r8<h'.n→¬own a V' r8→JQ.wp env 106 none fr' h' (cW env [.tmp 2,.tmp 3] K)):Fs.wp env 106 none fr h (cW env [.tmp 2,.tmp 3] K):=by
 unfold mp at f5
 have bl:=bx.lt
 have d12:cellAt h (ad i0 12)=some (uv C.iP):=bx.at_ rfl
 have d13:cellAt h (ad i0 13)=some (uv C.each):=bx.at_ rfl
 have ww:=mW V6_23
 refine wk ?_
 have rr:FR h.n (ai h (.cells [.int .u64 C.iP,uv 0] 103 true)) (.slice (some ⟨h.n,0,none⟩) 1 1) [⟨C.iP,0⟩]:=FR.lit (l:=[⟨C.iP,0⟩]) a_ (cK _) (az _ _) an
 have X1:aw h.n h (ai (ai h (.cells [.int .u64 C.iP,uv 0] 103 true)) (.cells [iv 0,uv 0] 38 true)):=(aw.new _ a_).trans (aw.new _ (aL _))
 have r1:=(rr.rs S.lt an).ext (aw.new (B:=h.n+1) (.cells [iv 0,uv 0] 38 true) a_)
 have gt1:(ai (ai h (.cells [.int .u64 C.iP,uv 0] 103 true)) (.cells [iv 0,uv 0] 38 true)).b.get (h.n+1)=some (.cells [iv 0,uv 0] 38 true):=az _ _
 have n1:(ai (ai h (.cells [.int .u64 C.iP,uv 0] 103 true)) (.cells [iv 0,uv 0] 38 true)).n=h.n+2:=rfl
 have no1:¬own a V (h.n+1):=fun o=>absurd (S.lt _ o) ah
 obtain⟨fc0,efc⟩:=tu hb1
 change cy env (.func 21) _ (ai (ai h (.cells [.int .u64 C.iP,uv 0] 103 true)) (.cells [iv 0,uv 0] 38 true)) _
 refine ED (x:=⟨C.iP,C.each,.slice (some ⟨h.n,0,none⟩) 1 1,1⟩) (refs:=[⟨C.iP,0⟩]) (S.ext X1) r1 (fun i hi=>by simp only[oj,ku,iU];exact yN hi) (by simp only[oj,ku,yO];omega) (by simp only[oj,ku,iU];omega) (fun e=>by simp only[oj,ku]at e;rw[efc]at e;simp at e) fun f i hi e V1 h1 s1 k1=>?_
 have e':fc0++[0]=f++[i]:=efc.symm.trans e
 obtain⟨rfl,e2⟩:=mT e' rfl
 cases e2
 have n2:=k1.n
 have gt2:=(k1.get (h.n+1) ah no1).trans gt1
 have not2:¬own a V1 (h.n+1):=fun o=>no1 (k1.own _ ah o)
 have bx1:iI h1 i0 (bU (mw C) pv) 25:=⟨ah,(k1.get i0 ah fun o=>by have:=lo _ o;omega).trans ((X1.get i0 bx.lt).trans bx.get)⟩
 have lo1:∀ j,own a V1 j→i0<j:=fun j o=>by
  by_cases hj:j<h.n+2;·exact lo _ (k1.own j hj o)
  ·omega
 have g61:=(k1.get r6 ah no6).trans ((X1.get r6 l6).trans g6)
 have no61:¬own a V1 r6:=fun o=>no6 (k1.own _ ah o)
 replace d12:cellAt h1 (ad i0 12)=some (uv C.iP):=bx1.at_ rfl
 replace d13:cellAt h1 (ad i0 13)=some (uv C.each):=bx1.at_ rfl
 have eg:(oj C fs0).cl[0].gen=1:=by simp only[oj,ku,qU]
 have ww:=ww.a @eg
 refine wk ?_
 refine aM (off:=0) (l:=[iv 0,uv 1]) (cs':=[iv 0,uv 1]) gt2 rfl rfl rfl rfl ao ?_
 have s2:=s1.loc (cs':=[iv 0,uv 1]) gt2 not2
 have k2:=((Kp.ext X1).trans k1).loc (j:=h.n+1) (k:=.cells [iv 0,uv 1] 38 true) ah
 obtain⟨h2,eh2⟩:=gz (aO h1 (h.n+1) (.cells [iv 0,.int .u64 1] 38 true))
 have gt3:=rS eh2
 have bx2:iI h2 i0 (bU (mw C) pv) 25:=eh2▸(bx1.vf ah)
 have g62:h2.b.get r6=some (.cells [iv 0,.int .u64 1] 38 true):=eh2▸((aC ah).trans g61)
 have n3:=sW eh2
 rw[eh2];try rw[eh2]at s2;try rw[eh2]at k2
 refine wk ?_
 rw[eg]at s2
 exact hN _ _ _ _ _ efc s2 lo1 bx2 k2 (by simp[T.aj];exact f1) (by simp[T.aj];exact f5) (by simp[T.aj];exact f6) g62 no61 aA gt3 ah not2
theorem LP {a:Ad}{V:VD}{C:xO}{pv:Value}{i0 r6 r8:Nat}{fs0 fc0:List Nat}{h:ak}{fr:Go.Ev.Fr}{K:Value→ak→Prop}(S:St a V h (u0 C fs0 fc0)) (lo:∀ j,own a V j→i0<j) (bx:iI h i0 (bU (mw C) pv) 25)
  (hp:C.ps≤8) (hb:C.gs≤1000) (hb1:1≤C.gs) (f1:fr.get 1=some (pt i0 0)) (f5:fr.get 5=some (mp a)) (f6:fr.get 6=some (pt r6 0)) (g6:h.b.get r6=some (.cells [iv 0,uv 1] 38 true)) (l6:r6<h.n) (no6:¬own a V r6)
  (f8:fr.get 8=some (pt r8 0)) (g8:h.b.get r8=some (.cells [iv 0,uv 1] 38 true)) (l8:r8<h.n) (no8:¬own a V r8)
  (hN:∀ V' h' fg0 (fr':Go.Ev.Fr) r10,lA C.gs C.gs=fg0++[0]→St a V' h' (NL C fs0 fc0 fg0)→Kp (own a V) (own a V') h h'→fr'.get 5=some (mp a)→fr'.get 6=some (pt r6 0)→h'.b.get r6=some (.cells [iv 0,uv 1] 38 true)→¬own a V' r6 →
   fr'.get 8=some (pt r8 0)→h'.b.get r8=some (.cells [iv 0,uv 1] 38 true)→¬own a V' r8→fr'.get 10=some (pt r10 0)→h'.b.get r10=some (.cells [iv 0,uv 1] 38 true)→r10<h'.n→¬own a V' r10→Ju.wp env 106 none fr' h' (cW env [.tmp 2,.tmp 3] K)):JQ.wp env 106 none fr h (cW env [.tmp 2,.tmp 3] K):=by
 unfold mp at f5
 have bl:=bx.lt
 have d0:cellAt h (ad i0 0)=some (iv C.ps):=bx.at_ rfl
 have d6:av h (ad r6 0) 2=some [iv 0,uv 1]:=aq l6 g6 rfl rfl
 have d8:av h (ad r8 0) 2=some [iv 0,uv 1]:=aq l8 g8 rfl rfl
 obtain⟨af,haf⟩:∃ af,af=2 ^ C.ps-1:=⟨_,rfl⟩
 have ww:=mW V6_21
 refine wk ?_
 have X1:aw h.n h (ai h (.cells [iv 0,uv 0] 38 true)):=br
 have gt1:(ai h (.cells [iv 0,uv 0] 38 true)).b.get h.n=some (.cells [iv 0,uv 0] 38 true):=az _ _
 have n1:(ai h (.cells [iv 0,uv 0] 38 true)).n=h.n+1:=rfl
 have sR:(bt 50 (.agg ⟨[iv 0,uv 1]⟩) (.agg ⟨[iv 0,uv 1]⟩)=true)=True:=by simp[bt,bt.go]
 have x6:=aG X1 l6 d6
 have x8:=aG X1 l8 d8
 have no1:¬own a V h.n:=fun o=>absurd (S.lt _ o) ah
 obtain⟨fg0,efg⟩:=tu hb1
 refine vW hp ?_
 have ww:=ww.a @sR
 refine wk ?_
 refine Fm (x:=g1D C) (S.ext X1) (fun i hi=>by simp only[u0,oj,ku,iU];exact yN hi) (by simp only[u0,oj,ku,yO];omega) (by simp only[u0,oj,ku,iU];omega) (fun e=>by simp only[u0,oj,ku]at e;rw[efg]at e;simp at e) fun f i hi e V1 h1 s1 k1=>?_
 have e':fg0++[0]=f++[i]:=efg.symm.trans e
 obtain⟨rfl,e2⟩:=mT e' rfl
 cases e2
 have n2:=k1.n
 have gt2:=(k1.get h.n ah no1).trans gt1
 have not2:¬own a V1 h.n:=fun o=>no1 (k1.own _ ah o)
 have g61:=(k1.get r6 ah no6).trans ((X1.get r6 l6).trans g6)
 have no61:¬own a V1 r6:=fun o=>no6 (k1.own _ ah o)
 have g81:=(k1.get r8 ah no8).trans ((X1.get r8 l8).trans g8)
 have no81:¬own a V1 r8:=fun o=>no8 (k1.own _ ah o)
 have y6:av h1 (ad r6 0) 2=some [iv 0,uv 1]:=aq ah g61 rfl rfl
 have y8:av h1 (ad r8 0) 2=some [iv 0,uv 1]:=aq ah g81 rfl rfl
 have bx1:iI h1 i0 (bU (mw C) pv) 25:=⟨ah,(k1.get i0 ah fun o=>by have:=lo _ o;omega).trans ((X1.get i0 bx.lt).trans bx.get)⟩
 replace d0:cellAt h1 (ad i0 0)=some (iv C.ps):=bx1.at_ rfl
 have eg:(u0 C fs0 fc0).gs[0].gen=1:=by simp only[u0,oj,ku,qU]
 have ww:=ww.a @eg
 refine wk ?_
 refine aM (off:=0) (l:=[iv 0,uv 1]) (cs':=[iv 0,uv 1]) gt2 rfl rfl rfl rfl ao ?_
 have s2:=s1.loc (cs':=[iv 0,uv 1]) gt2 not2
 have k2:=((Kp.ext X1).trans k1).loc (j:=h.n) (k:=.cells [iv 0,uv 1] 38 true) ah
 obtain⟨h2,eh2⟩:=gz (aO h1 h.n (.cells [iv 0,.int .u64 1] 38 true))
 have gt3:=rS eh2
 have g62:h2.b.get r6=some (.cells [iv 0,.int .u64 1] 38 true):=eh2▸((aC ah).trans g61)
 have g82:h2.b.get r8=some (.cells [iv 0,.int .u64 1] 38 true):=eh2▸((aC ah).trans g81)
 have n3:=sW eh2
 rw[eh2];try rw[eh2]at s2;try rw[eh2]at k2
 refine wk ?_
 rw[eg]at s2
 exact hN _ _ _ _ _ efg s2 k2 (by simp[T.aj];exact f5) (by simp[T.aj];exact f6) g62 no61 (by simp[T.aj];exact f8) g82 no81 aA gt3 ah not2
def V6_19:=(aN (aN (aN @qW @qx) @qQ) (aN (aN @qj @qC) @qZ))
def aaj (q:Nat):CD:=⟨3-(q:Int),0,1,255⟩
def zy (M:MD):Nat→MD
 | 0=>M
 | q+1=>(zy M q).rO 0 0 (q:Int) (aaj q)
theorem Cs (M:MD):∀ q,(zy M q).ax.length=M.ax.length+q∧(zy M q).cw=M.cw+q
 | 0=>⟨rfl,rfl⟩
 | q+1=>by obtain⟨h1,h2⟩:=Cs M q;simp only[zy,MD.rO,dA,dn,cF];omega
theorem MU {a:Ad}{V:VD}{C:xO}{r6 r8 r10:Nat}{fs0 fc0 fg0:List Nat}{h:ak}{fr:Go.Ev.Fr}{K:Value→ak→Prop}(S:St a V h (NL C fs0 fc0 fg0))
  (f5:fr.get 5=some (mp a)) (f6:fr.get 6=some (pt r6 0)) (g6:h.b.get r6=some (.cells [iv 0,uv 1] 38 true)) (l6:r6<h.n) (no6:¬own a V r6)
  (f8:fr.get 8=some (pt r8 0)) (g8:h.b.get r8=some (.cells [iv 0,uv 1] 38 true)) (l8:r8<h.n) (no8:¬own a V r8)
  (f10:fr.get 10=some (pt r10 0)) (g10:h.b.get r10=some (.cells [iv 0,uv 1] 38 true)) (l10:r10<h.n) (no10:¬own a V r10)
  (hK:∀ V' h',St a V' h' (zy (zM C fs0 fc0 fg0) 3)→Kp (own a V) (own a V') h h'→K (.tuple #[mp a,iv 0]) h'):Ju.wp env 106 none fr h (cW env [.tmp 2,.tmp 3] K):=by
 unfold mp at f5 hK
 have e5:=bf f5
 have e6:=bf f6
 have e8:=bf f8
 have e10:=bf f10
 have c10:cellAt h (ad r10 0)=some (iv 0):=ay l10 g10 rfl
 have ww:=mW V6_19
 refine wk ?_
 refine xL (S.new _) (l:=[0]) (RI.lit S.lt) fun V1 h1 s1 k1 n1=>?_
 have n1':h1.n=h.n+1:=n1
 replace k1:=(Kp.new).trans k1
 have s1:St a V1 h1 (zM C fs0 fc0 fg0):=s1
 have q6:=(k1.get r6 l6 no6).trans g6
 have q8:=(k1.get r8 l8 no8).trans g8
 have q10:=(k1.get r10 l10 no10).trans g10
 have d6:av h1 (ad r6 0) 2=some [iv 0,uv 1]:=aq ah q6 rfl rfl
 have d8:av h1 (ad r8 0) 2=some [iv 0,uv 1]:=aq ah q8 rfl rfl
 have d10:av h1 (ad r10 0) 2=some [iv 0,uv 1]:=aq ah q10 rfl rfl
 have ww:=mW W6
 refine wk ?_
 refine lN (l:=[iv 3,iv 0,uv 1,.int .u8 0,iv 2,iv 0,uv 1,.int .u8 0,iv 1,iv 0,uv 1,.int .u8 0]) rfl ?_
 refine wk ?_
 have X2:aw h1.n h1 (ai h1 (.cells [iv 3,iv 0,uv 1,.int .u8 0,iv 2,iv 0,uv 1,.int .u8 0,iv 1,iv 0,uv 1,.int .u8 0] 109 true)):=br
 have gb:(ai h1 (.cells [iv 3,iv 0,uv 1,.int .u8 0,iv 2,iv 0,uv 1,.int .u8 0,iv 1,iv 0,uv 1,.int .u8 0] 109 true)).b.get h1.n=some (.cells [iv 3,iv 0,uv 1,.int .u8 0,iv 2,iv 0,uv 1,.int .u8 0,iv 1,iv 0,uv 1,.int .u8 0] 109 true):=az _ _
 have n2:(ai h1 (.cells [iv 3,iv 0,uv 1,.int .u8 0,iv 2,iv 0,uv 1,.int .u8 0,iv 1,iv 0,uv 1,.int .u8 0] 109 true)).n=h1.n+1:=rfl
 have s2:=s1.ext X2
 have k2:Kp (own a V) (own a V1) h (ai h1 (.cells [iv 3,iv 0,uv 1,.int .u8 0,iv 2,iv 0,uv 1,.int .u8 0,iv 1,iv 0,uv 1,.int .u8 0] 109 true)):=k1.trans (Kp.ext X2)
 have nb:¬own a V1 h1.n:=fun o=>absurd (s1.lt _ o) ah
 have p10:=X2.cY q10
 have np10:¬own a V1 r10:=fun o=>no10 (k1.own _ l10 o)
 have ez:(zM C fs0 fc0 fg0).ax.length=0∧(zM C fs0 fc0 fg0).cw=0:=⟨rfl,rfl⟩
 refine aP (fun m fr' h'=>∃ (q:Nat) (V':VD),q≤3∧m=3-q∧fr'.get 92=some (iv q)∧St a V' h' (zy (zM C fs0 fc0 fg0) q)∧Kp (own a V) (own a V') h h'∧h'.b.get h1.n=some (.cells [iv 3,iv 0,uv 1,.int .u8 0,iv 2,iv 0,uv 1,.int .u8 0,iv 1,iv 0,uv 1,.int .u8 0] 109 true)∧h'.b.get r10=some (.cells [iv 0,uv 1] 38 true)∧¬own a V' h1.n∧¬own a V' r10∧h1.n<h'.n) 3 ?_ ah ?_
 ·exact⟨0,V1,ah,ah,aA,s2,k2,gb,p10,nb,np10,ah⟩
 clear s2 k2 gb p10 nb np10 X2 n2 d6 d8 d10 q6 q8 q10 e5 e6 e8 e10
 rintro m fr2 h2 ⟨q,V2,hq,rfl,f92,s2,k2,gb,p10,nb,np10,lb⟩ hag
 have z5:fr2.get 5=some (pt a.m 0):=(hag 5 rfl).trans (by simp[T.aj,f5])
 have z10:fr2.get 10=some (pt r10 0):=(hag 10 rfl).trans (by simp[T.aj,f10])
 have hh2:=k2.n
 by_cases aT:q<3
 ·have lq:(q:Int)<3:=ah;have wq:=rU q;have rc:av h2 (ad h1.n (q*4)) 4=some [iv (3-(q:Int)),iv 0,uv 1,.int .u8 0]:=by refine aq lb gb ?_ rfl;have:q=0∨q=1∨q=2:=ah;rcases this with rfl|rfl|rfl<;>rfl
  have ww:=ww.a (aN @lq @rc);refine wk ?_;have gn:(ai h2 (.cells [iv (3-(q:Int)),iv 0,uv 1,.int .u8 0] 109 true)).b.get h2.n=some (.cells [iv (3-(q:Int)),iv 0,uv 1,.int .u8 0] 109 true):=az _ _;have X3:aw h2.n h2 (ai h2 (.cells [iv (3-(q:Int)),iv 0,uv 1,.int .u8 0] 109 true)):=br;refine aM (off:=3) (l:=[.int .u8 255]) (cs':=[iv (3-(q:Int)),iv 0,uv 1,.int .u8 255]) gn rfl rfl rfl rfl ao ?_;obtain⟨h3,eh3⟩:=gz (aO (ai h2 (.cells [iv (3-(q:Int)),iv 0,uv 1,.int .u8 0] 109 true)) h2.n (.cells [iv (3-(q:Int)),iv 0,uv 1,.int .u8 255] 109 true));have X4:aw h2.n h2 h3:=eh3▸(X3.trans (aw.set _ a_));have r3:av h3 (ad h2.n 0) 4=some [iv (3-(q:Int)),iv 0,uv 1,.int .u8 255]:=eh3▸(aq (cK h2.n) aF rfl rfl);rw[eh3];have n3:=X4.n;have s3:=s2.ext X4;have c3:cellAt h3 (ad r10 0)=some (iv 0):=ay ah (X4.cY p10) rfl;refine wk ?_;obtain⟨sl1,sl2⟩:=Cs (zM C fs0 fc0 fg0) q;refine yT (c:=aaj q) s3 ah ah fun V4 h4 s4 k4=>?_;have n4:=k4.n;have kk:=(Kp.ext (O:=own a V2) X4).trans k4;have ww:=ww.a @wq;refine wk ?_;exact⟨3-(q+1),ah,q+1,V4,ah,rfl,aA,s4,k2.trans kk,(kk.get h1.n lb nb).trans gb,(kk.get r10 ah np10).trans p10,fun o=>nb (kk.own _ lb o),fun o=>np10 (kk.own _ ah o),ah⟩
 ·obtain rfl:q=3:=ah;refine wk ?_;exact hK V2 h2 s2 k2
theorem set0 {α:Type}{n:Nat}{z y:α}(h:1≤n):(List.replicate n z).set 0 y=y::List.replicate (n-1) z:=by obtain⟨m,rfl⟩:∃ m,n=m+1:=⟨n-1,ah⟩;rfl
structure One {α:Type}(l:List (Ob α)) (n:Nat) (z y:α):Prop where
 len:l.length=n
 MZ:∀ h:0<l.length,l[0]=⟨1,true,y⟩
 at1:∀ k (h:k<l.length),k≠0→l[k]=⟨1,false,z⟩
theorem HG {α:Type}{n:Nat}{z y:α}:One ((List.replicate n (⟨1,false,z⟩:Ob α)).set 0 ⟨1,true,y⟩) n z y :=
 ⟨an,fun h=>an,fun k h hk=>by rw[cV (bV hk),qU]⟩
theorem One.gen {α:Type}{l:List (Ob α)}{n:Nat}{z y:α}(o:One l n z y):nT 0 l:=fun k h=>by
 by_cases hk:k=0;·subst hk;rw[o.MZ h];exact⟨aQ _,aQ _⟩
 ·rw[o.at1 k h hk];exact⟨aQ _,aQ _⟩
theorem One.live {α:Type}{l:List (Ob α)}{n:Nat}{z y:α}(o:One l n z y) {k:Nat}(h:k<l.length) (hi:l[k].is=true):k=0:=by
 by_cases hk:k=0;·exact hk
 ·rw[o.at1 k h hk]at hi;cases hi
theorem One.at {α:Type}{l:List (Ob α)}{n:Nat}{z y:α}(o:One l n z y) (hn:1≤n):aB l ⟨0,1⟩=some 0 :=
 aH.2 ⟨by rw[o.len];omega,rfl,by rw[o.MZ],by rw[o.MZ];rfl⟩
theorem One.fr {α:Type}{l:List (Ob α)}{n:Nat}{z y:α}(o:One l n z y) (hn:1≤n) {f:List Nat}(hf:lA n n=f++[0]):uU l f:=by
 have nd:(lA n n).Nodup:=by unfold lA;refine List.pairwise_map.2 (List.nodup_range.imp_of_mem fun {a b} ha hb hne e=>?_);rw[sj]at ha hb;omega
 rw[hf]at nd;refine⟨(qb.1 nd).1,fun i hi=>?_⟩;have hl:i<n:=yN (by rw[hf];simp[hi]);have h0:i≠0:=(qb.1 nd).2.2 i hi 0 an;have hl':i<l.length:=by rw[o.len];exact hl
 exact⟨hl',by rw[o.at1 i hl' h0]⟩
theorem One.dead {α:Type}{l:List (Ob α)}{n:Nat}{z y:α}(o:One l n z y):aB l ⟨0,0⟩=none:=by
 cases hc:aB l ⟨0,0⟩ with
 | none=>rfl
 | some k =>
   obtain⟨hk,_,_,hg⟩:=aH.1 hc
   have:=(o.gen k hk).1
   simp only at hg
   omega
theorem JF {α:Type}{n:Nat}{z y:α}(hn:1≤n) {p:Ob α→Bool}(h1:p ⟨1,true,y⟩=true) (h2:p ⟨1,false,z⟩=false):((List.replicate n (⟨1,false,z⟩:Ob α)).set 0 ⟨1,true,y⟩).countP p=1:=by
 rw[set0 hn,List.countP_cons,if_pos h1];have:(List.replicate (n-1) (⟨1,false,z⟩:Ob α)).countP p=0:=by rw[tq];intro a ha;rw[List.eq_of_mem_replicate ha,h2];exact Bool.false_ne_true
 omega
theorem Gf {n p:Nat}(h:p<(List.replicate n Xz).length):(List.replicate n Xz)[p].next.length≤1∧(List.replicate n Xz)[p].runs.length≤1:=by rw[qU];exact⟨eX _,eX _⟩
theorem KM (n z:Nat):mU (List.replicate n Xz) z=0:=by
 induction n with
 | zero=>rfl
 | succ n ih =>
   simp only[mU,Ar,dT,lE]at ih ⊢
   rw[ih];rfl
structure Rg (C:xO):Prop where
 ps:1≤C.ps∧C.ps≤8
 ring:2≤C.ring∧C.ring≤32
 gs:1≤C.gs∧C.gs≤16
 gO:1≤C.gO∧C.gO≤32
 ir:1≤C.ir∧C.ir≤32
 bP:C.bP≤32
 refs:C.refs≤16
 fm:1≤C.fm∧C.fm≤256
 ee:1≤C.ee
 cG:1≤C.cG.length
theorem Yj {n:Nat}(h:n≤8):2 ^ n-1<256:=by have:n=0∨n=1∨n=2∨n=3∨n=4∨n=5∨n=6∨n=7∨n=8:=ah;rcases this with rfl|rfl|rfl|rfl|rfl|rfl|rfl|rfl|rfl<;>decide
theorem Wx {C:xO}{fs fc fg:List Nat}(c:Rg C) (es:lA C.ir C.ir=fs++[0]) (ec:lA C.gO C.gO=fc++[0]) (eg:lA C.gs C.gs=fg++[0]):Inv 0 (zy (zM C fs fc fg) 3):=by
 have oS:One (Og C) C.ir zSD ⟨⟨0,0⟩,(C.gs:Int),C.x_,C.ee,1,0⟩:=HG;have oC:One (Fu C) C.gO zXD ⟨C.iP,C.each,[⟨C.iP,0⟩],1⟩:=HG;have oG:One (Hc C) C.gs zGD (g1D C):=HG;have c1:=c.ps;have c2:=c.ring;have c3:=c.gs;have c4:=c.gO;have c5:=c.ir;have hoc:∀ z,dS [0] (List.replicate C.ps Xz) z=[0].count z:=fun z=>by rw[dS,KM];rfl
 have h0:∀ z,0<dS [0] (List.replicate C.ps Xz) z→z=0:=fun z h=>by rw[hoc]at h;have:=kD.1 h;simpa using this
 refine { q:=⟨by show (List.replicate _ _).length≤8;rw[iU];exact c1.2,by show (Hc C).length≤64;rw[oG.len];omega,fun z=>?_,fun z hz=>?_,fun p h=>?_,fun p h=>?_,c2.2,c2.1⟩,lv:=fun z hz=>?_,t:=?_,tn:=List.nodup_nil,gl:=(by show (Hc C).length≤16;rw[oG.len];omega),sl:=(by show (Og C).length≤1000;rw[oS.len];omega),cl:=(by show (Fu C).length≤1000;rw[oC.len];omega),refs:=c.refs,bP:=bO c.bP ao,Sp:=c.fm,Su:=(by show (List.replicate _ _).length=_;rw[iU];rfl),now:=aQ _,S:=⟨oS.gen,oS.fr c5.1 es,fun k h hi=>?_,fun k h hi=>?_,fun k h hi=>?_⟩,C:=⟨oC.gen,oC.fr c4.1 ec,fun k h=>?_⟩,G:=⟨oG.gen,oG.fr c3.1 eg,fun k h=>?_,fun k h hi=>?_⟩,T:=⟨fun d h hi=>?_,fun j h hi=>?_⟩,K:=⟨fun x hx=>?_,?_,fun x hx=>?_⟩,kl:=aQ _,cw:=aQ _,log:=eX _,calls:=aQ _ }
 ·show dS [0] (List.replicate C.ps Xz) z≤1;rw[hoc];by_cases e:z=0;·subst e;decide
  ·rw[pe.2 (by simpa using e)];omega
 ·rw[h0 z hz];show 0<(Hc C).length;rw[oG.len];omega
 ·exact(Gf (n:=C.ps) h).1
 ·exact(Gf (n:=C.ps) h).2
 ·rw[h0 z hz];have hl:0<(Hc C).length:=by rw[oG.len];omega
  exact⟨hl,by show (Hc C)[0].is=true;rw[oG.MZ hl]⟩
 ·exact fun t ht=>by cases ht
 ·have hk:=oS.live h hi;subst hk;show (Og C)[0].x.ee≠0;rw[oS.MZ h];have:=c.ee;show C.ee≠0;omega
 ·have hk:=oS.live h hi;subst hk;have a:=oS.MZ h;refine⟨[⟨0,1⟩],?_,ao⟩;have e1:(⟨((0:Nat):Int),(((Og C)[0]'h).gen:Int)⟩:RR)=⟨0,1⟩:=by rw[a];rfl
  show tP (Og C) ⟨((0:Nat):Int),(((Og C)[0]'h).gen:Int)⟩ _;rw[e1];refine tP.cons (oS.at c5.1) h ?_;rw[a];exact tP.nil oS.dead
 ·have hk:=oS.live h hi;subst hk;show (Og C)[0].x.par.g=0∨_;rw[oS.MZ h];exact .inl rfl
 ·show (Fu C)[k].x.ref.length≤16;by_cases hk:k=0;·subst hk;rw[oC.MZ h];exact fX rfl
  ·rw[oC.at1 k h hk];exact eX _
 ·show (Hc C)[k].x.jF<256;by_cases hk:k=0;·subst hk;rw[oG.MZ h];exact Yj c1.2
  ·rw[oG.at1 k h hk];decide
 ·have hk:=oG.live h hi;subst hk;show Yo (Og C) (Fu C) C.cG.length (Hc C)[0].x;rw[oG.MZ h];refine⟨⟨0,oS.at c5.1⟩,⟨0,oC.at c4.1⟩,⟨bN _,?_⟩,?_⟩;·have:=c.cG;show (0:Int)<_;omega
  ·refine⟨?_,?_,?_,?_,?_,?_,?_,?_⟩<;>exact bN _
 ·have hk:=oS.live h hi;subst hk;show (Og C)[0].x.own=(((Hc C).countP (oP ⟨((0:Nat):Int),(((Og C)[0]'h).gen:Int)⟩):Nat):Int);rw[oS.MZ h];have:=JF (n:=C.gs) (z:=zGD) (y:=g1D C) c3.1 (p:=oP ⟨((0:Nat):Int),((1:Nat):Int)⟩) (by rfl) (by rfl);show (1:Int)=(((Hc C).countP (oP ⟨((0:Nat):Int),((1:Nat):Int)⟩):Nat):Int);unfold Hc;rw[this];rfl
 ·have hk:=oC.live h hi;subst hk;show (Fu C)[0].x.dH=(((Hc C).countP (nZ ⟨((0:Nat):Int),(((Fu C)[0]'h).gen:Int)⟩):Nat):Int);rw[oC.MZ h];have:=JF (n:=C.gs) (z:=zGD) (y:=g1D C) c3.1 (p:=nZ ⟨((0:Nat):Int),((1:Nat):Int)⟩) (by rfl) (by rfl);show (1:Int)=(((Hc C).countP (nZ ⟨((0:Nat):Int),((1:Nat):Int)⟩):Nat):Int);unfold Hc;rw[this];rfl
 ·have hx:x∈[(⟨((0+1:Nat):Int),0,0,0,3,0,1,255⟩:KD),⟨((0+1+1:Nat):Int),0,0,1,2,0,1,255⟩,⟨((0+1+1+1:Nat):Int),0,0,2,1,0,1,255⟩]:=hx;simp only[cM,lF,or_false]at hx;rcases hx with rfl|rfl|rfl;·exact⟨1,rfl,ao,fX rfl⟩
  ·exact⟨2,rfl,ao,fX rfl⟩
  ·exact⟨3,rfl,ao,fX rfl⟩
 ·show ([((0+1:Nat):Int),((0+1+1:Nat):Int),((0+1+1+1:Nat):Int)]:List Int).Nodup;decide
 ·have hx:x∈[(⟨((0+1:Nat):Int),0,0,0,3,0,1,255⟩:KD),⟨((0+1+1:Nat):Int),0,0,1,2,0,1,255⟩,⟨((0+1+1+1:Nat):Int),0,0,2,1,0,1,255⟩]:=hx;simp only[cM,lF,or_false]at hx;rcases hx with rfl|rfl|rfl<;>exact .inl rfl
def V6_37:=(aN (aN (aN @qv @qW) @qx) (aN (aN @qQ @qj) @qC))
def V6_29:=(aN (aN (aN @qv @qW) @qx) (aN (aN @qQ @qj) @qZ))
def V6_27:=(aN (aN (aN @qv @qW) @qx) (aN (aN @qQ @qC) @qZ))
theorem mk_95 {fr:Go.Ev.Fr}{h:ak}{K:Value→ak→Prop}{x y:Operand}:fY env (.makeSlice 95 x y) fr h K=dM env fr x fun a=>dM env fr y fun b=>IK 113 [nS,nS,nS,iv 0,uv 0] a b h K:=k_ c_
theorem Ux {B:Nat}{C:xO}{pv:Value}{h:ak}{K:Value→ak→Prop}(r:Eo B h pv C.cG) (hB:B≤h.n) (hm:qE (mw C) C.cG=0) (hp:C.cG.length≤40∧∀ l∈C.cG,l.length≤40000) (co:Rg C)
  (hK:∀ a V M h',aw h.n h h'→St a V h' M→Inv 0 M→M.cfg=C→M.aX=0→(∀ j,own a V j→h.n≤j)→K (.tuple #[mp a,iv 0]) h'):cy env (.func 6) [.agg ⟨bU (mw C) pv⟩] h K:=by
 have c1:=co.ps
 have c3:=co.gs
 have c4:=co.gO
 have c5:=co.ir
 have hb:C.ps≤1000∧C.gs≤1000∧C.gO≤1000∧C.ir≤1000:=ah
 have hb1:1≤C.gs∧1≤C.gO∧1≤C.ir:=ah
 obtain⟨pa,pc,rfl,_⟩:=id r
 refine F6 rfl ?_
 have V:=iI.new h (bU (mw C) (.slice pa C.cG.length pc)) 25
 obtain⟨h1,eh1⟩:=gz (ai h (.cells (bU (mw C) (.slice pa C.cG.length pc)) 25 true))
 have X:=tW eh1
 have hn1:=qk eh1
 have ww:=mW (aN V6_37 @lu)
 refine wk ?_
 rw[eh1];try rw[eh1]at V
 have dv:=V.cfg
 have ww:=mW (aN V6_29 @dv)
 refine wk ?_
 refine Bo (r.ext (X.mono hB)) ah ah fun h2 X2=>?_
 rw[hm]
 have n2:=X2.n
 have V2:=V.ext X2 ah
 have dv:=V2.cfg
 have d0:cellAt h2 (ad h.n 0)=some (iv C.ps):=V2.at_ rfl
 have d2:cellAt h2 (ad h.n 2)=some (iv C.gs):=V2.at_ rfl
 have d3:cellAt h2 (ad h.n 3)=some (iv C.gO):=V2.at_ rfl
 have d4:cellAt h2 (ad h.n 4)=some (iv C.ir):=V2.at_ rfl
 have ww:=mW (aN (aN V6_27 @dv) (aN @mk_95 @vb))
 refine wk ?_
 have X3:aw h2.n h2 (ai h2 (.cells (rep C.ps [nS,nS,nS,iv 0,uv 0]) 113 true)):=br
 have gp3:(ai h2 (.cells (rep C.ps [nS,nS,nS,iv 0,uv 0]) 113 true)).b.get h2.n=some (.cells (rep C.ps [nS,nS,nS,iv 0,uv 0]) 113 true):=az _ _
 have n3:(ai h2 (.cells (rep C.ps [nS,nS,nS,iv 0,uv 0]) 113 true)).n=h2.n+1:=rfl
 have Y3:aw h.n h (ai h2 (.cells (rep C.ps [nS,nS,nS,iv 0,uv 0]) 113 true)):=X.trans ((X2.mono ah).trans (X3.mono ah))
 refine Mf (r.ext (Y3.mono hB)) (by rw[n3];omega) hp fun pv' h4 X4 O4=>?_
 generalize ai h2 (.cells (rep C.ps [nS,nS,nS,iv 0,uv 0]) 113 true)=h3 at X3 gp3 n3 Y3 X4 O4
 have n4:=X4.n
 have V4:=(V2.ext X3 ah).ext X4 ah
 obtain⟨qa,qc,rfl⟩:=O4.val
 have d0:cellAt h4 (ad h.n 0)=some (iv C.ps):=V4.at_ rfl
 have d2:cellAt h4 (ad h.n 2)=some (iv C.gs):=V4.at_ rfl
 have d3:cellAt h4 (ad h.n 3)=some (iv C.gO):=V4.at_ rfl
 have d4:cellAt h4 (ad h.n 4)=some (iv C.ir):=V4.at_ rfl
 have dv:=V4.cfg
 have oc:(bU (mw C) (.slice qa C.cG.length qc)).all aE=true:=rfl
 refine wk ?_
 refine FW ah fun fg h5 X5 l5 G5 F5=>?_
 have n5:=X5.n
 have V5:=V4.ext X5 ah
 have d0:cellAt h5 (ad h.n 0)=some (iv C.ps):=V5.at_ rfl
 have d2:cellAt h5 (ad h.n 2)=some (iv C.gs):=V5.at_ rfl
 have d3:cellAt h5 (ad h.n 3)=some (iv C.gO):=V5.at_ rfl
 have d4:cellAt h5 (ad h.n 4)=some (iv C.ir):=V5.at_ rfl
 refine wk ?_
 refine F1 ah fun fc h6 X6 l6 G6 F6=>?_
 have n6:=X6.n
 have V6:=V5.ext X6 ah
 have d0:cellAt h6 (ad h.n 0)=some (iv C.ps):=V6.at_ rfl
 have d2:cellAt h6 (ad h.n 2)=some (iv C.gs):=V6.at_ rfl
 have d3:cellAt h6 (ad h.n 3)=some (iv C.gO):=V6.at_ rfl
 have d4:cellAt h6 (ad h.n 4)=some (iv C.ir):=V6.at_ rfl
 refine wk ?_
 refine Fq ah fun fs h7 X7 l7 G7 F7=>?_
 have n7:=X7.n
 have V7:=V6.ext X7 ah
 obtain⟨ga,gc,rfl⟩:=il F5
 obtain⟨ca,cc,rfl⟩:=il F6
 obtain⟨sa,sc,rfl⟩:=il F7
 have d0:cellAt h7 (ad h.n 0)=some (iv C.ps):=V7.at_ rfl
 have d2:cellAt h7 (ad h.n 2)=some (iv C.gs):=V7.at_ rfl
 have d3:cellAt h7 (ad h.n 3)=some (iv C.gO):=V7.at_ rfl
 have d4:cellAt h7 (ad h.n 4)=some (iv C.ir):=V7.at_ rfl
 refine wk ?_
 refine(show GC.wp env 106 none EN _ (ai h7 (.cells (N4 C h7.n (h4.n+1) (h5.n+1) (h6.n+1) h2.n (.slice qa C.cG.length qc) (.slice ga C.gs gc) (.slice ca C.gO cc) (.slice sa C.ir sc)) 98 true)) _ from ?_)
 rw[Hh]
 have S:=HL hb1.1 hb1.2.1 hb1.2.2 ah hp.2 n3 gp3 X4 O4 X5 l5 G5 F5 X6 l6 G6 F6 X7 l7 G7 F7
 obtain⟨hm,ehm⟩:=gz (ai h7 (.cells (cL ⟨h7.n,h4.n+1,h5.n+1,h6.n+1,h2.n⟩ (uL C (.slice qa C.cG.length qc) (.slice ga C.gs gc) (.slice ca C.gO cc) (.slice sa C.ir sc)) (ku C)) 98 true))
 have X8:=tW ehm
 have V8:=V7.ext X8 ah
 have Y7:aw h.n h h7:=Y3.trans ((X4.mono ah).trans ((X5.mono ah).trans ((X6.mono ah).trans (X7.mono ah))))
 have Y8:=Y7.trans (X8.mono Y7.n)
 have lo:∀ j,own ⟨h7.n,h4.n+1,h5.n+1,h6.n+1,h2.n⟩ (uL C (.slice qa C.cG.length qc) (.slice ga C.gs gc) (.slice ca C.gO cc) (.slice sa C.ir sc)) j→h.n<j:=fun j o=>by rcases WI F5 F6 F7 o with e|e|e|e|e<;>omega
 rw[ehm];try rw[ehm]at S;try rw[ehm]at V8;try rw[ehm]at Y8
 have fin:∀ (a:Ad) (W:VD) (fr:Go.Ev.Fr),St a W hm (ku C)→(∀ j,own a W j→h.n<j)→fr.get 1=some (pt h.n 0)→fr.get 5=some (mp a)→EN.wp env 106 none fr hm (cW env [.tmp 2,.tmp 3] K):=by
  clear S lo V V2 V4 V5 V6 V7 d0 d2 d3 d4 dv oc X3 X4 O4 X5 G5 F5 X6 G6 F6 X7 G7 F7 X8 Y7 X2 X n2 n3 n4 n5 n6 n7 gp3 l5 l6 l7;intro a W fr S lo f1 f5;have bl:=V8.lt;refine Mz S lo V8 ah ah f1 f5 fun V1 k1 fs0 fr1 es S1 lo1 bx1 K1 f11 f15 f16 g16 l16 no16=>?_;refine Lc S1 lo1 bx1 ah ah f11 f15 f16 g16 ah no16 fun V2 k2 fc0 fr2 r8 ec S2 KE bx2 K2 f21 f25 f26 g26 no26 f28 g28 l28 no28=>?_;have q2:=K2.n;refine LP S2 KE bx2 ah ah ah f21 f25 f26 g26 ah no26 f28 g28 l28 no28 fun V3 k3 fg0 fr3 r10 eg S3 K3 f35 f36 g36 no36 f38 g38 no38 f310 g310 l310 no310=>?_;have q3:=K3.n;refine MU S3 f35 f36 g36 ah no36 f38 g38 ah no38 f310 g310 l310 no310 fun V4 k4 S4 K4=>?_;have KK:=((K1.trans K2).trans K3).trans K4;have lof:∀ j,own a V4 j→h.n≤j:=fun j o=>by
   by_cases hj:j<hm.n;·have:=lo j (KK.own j hj o);omega
   ·omega
  refine hK a V4 _ k4 ⟨bO Y8.n KK.n,fun j hj=>(KK.get j ah fun o=>by have:=lo j o;omega).trans (Y8.get j hj)⟩ S4 (Wx co es ec eg) rfl rfl lof
 exact fin _ _ _ S lo aA (by simp[T.aj,mp])
theorem T_ {B:Nat}{c:Nat→Int}{pv:Value}{P:List (List UInt8)}{h:ak}{K:Value→ak→Prop}(r:Eo B h pv P) (hB:B≤h.n)
  (hK:∀ b h',aw h.n h h'→(b=true→c 2≤16∧P.length≤16)→K (.bool b) h'):cy env (.func 12) [.agg ⟨bU c pv⟩] h K:=by
 obtain⟨pa,pc,rfl,_⟩:=id r
 refine F12 rfl ?_
 have ww:=mW @lu
 refine wk ?_
 have V:=iI.new h (bU c (.slice pa P.length pc)) 25
 obtain⟨h1,eh1⟩:=gz (ai h (.cells (bU c (.slice pa P.length pc)) 25 true))
 have X:=tW eh1
 rw[eh1];try rw[eh1]at V
 have dv:=V.cfg
 have d2:cellAt h1 (ad h.n 2)=some (iv (c 2)):=V.at_ rfl
 have r1:=r.ext (X.mono hB)
 refine aP (fun m fr' h'=>∃ (k:Nat) (n:Int),k≤17∧k≤P.length∧m=17-k∧fr'.get 4=some (iv k)∧fr'.get 3=some (iv n)∧h'=h1) 17 ?_ ah ?_
 ·exact⟨0,0,ah,ah,ah,aA,aA,rfl⟩
 rintro m fr2 h2 ⟨k,n,hk,hkp,rfl,f4,f3,hh⟩ hag
 rw[hh]
 clear hh h2
 have e4:=bf f4
 have e3:=bf f3
 have b1:=jP (hag 1 rfl)
 have wq:=rU k
 have last:∀ fr:Go.Ev.Fr,fr.get 1=some (pt h.n 0)→fr.get 3=some (iv n)→True:=fun _ _ _=>trivial
 by_cases aT:k<P.length
 ·have l1:(k:Int)<(P.length:Int):=ah;by_cases h16:k≤16;·have l2:(k:Int)≤16:=ah;obtain⟨i,o,ua,uc,rfl,hi,hc,hu⟩:=r1.at_ aT;have ww:=ww.a (aN (aN (aN @dv @l1) @l2) (aN (aN @hc @bQ) @wq));refine wk ?_;exact⟨17-(k+1),ah,k+1,IntKind.wrap .i64 (n+(P[k].length:Int)),ah,ah,rfl,aA,aA⟩
  ·have l2:¬(k:Int)≤16:=ah;have ww:=ww.a (aN (aN @dv @l1) @l2);refine Ep ?_ ?_;all_goals exact hK _ _ X (fun e=>by first|cases e;done|(exact⟨by omega,by omega⟩))
 ·have l1:¬(k:Int)<(P.length:Int):=ah;(repeat' (first|(with_reducible show gV _ (rg _ _) _ _ _;first|with_reducible refine Ef ?_)|(with_reducible show lW _ _ _;first|with_reducible refine CJ ?_|with_reducible refine CS ?_|with_reducible refine wN (fun _=>?_) (fun _=>?_))|(with_reducible show _∧_;first|with_reducible refine CU ?_|with_reducible refine CN ?_|with_reducible refine Ea ?_)|(with_reducible show jQ _ _ _ _ _;first|with_reducible refine C1 ?_)|(with_reducible show vX _ _ _ _ _ _ _;first|with_reducible refine C9 ?_)|(with_reducible show yb _ _ _ _;first|with_reducible refine Du ?_)|(with_reducible show lU _ _ _ _;first|with_reducible refine C0 ?_)|(with_reducible show eR _ _ _;first|with_reducible refine Dd ?_|with_reducible refine Ei ?_)|(with_reducible show de (cellAt _ _) _;first|with_reducible refine Cz ?_|with_reducible refine C_ ?_|with_reducible refine DZ ?_)|(with_reducible show de (av _ _ _) _;first|with_reducible refine BZ ?_|with_reducible refine D1 ?_)|simp -dsimp only[↓ww.o,↓WB,WP,WS,bE,Nat.reduceEqDiff,Nat.reduceAdd]|simp -dsimp only[↓WB,WP,WS,bE,Nat.reduceEqDiff,Nat.reduceAdd,↓e4,↓e3,↓b1,dv,d2,l1]|(with_reducible show dJ _ _ _ _ _;refine DU ?_)|simp -dsimp (disch:=(first|with_reducible assumption|(with_reducible refine hag _ ?_;rfl)|(with_reducible show _<_;omega))) only [CP,DX,CI,D7]|simp -dsimp (disch:=(first|with_reducible assumption|(with_reducible refine hag _ ?_;rfl)|(with_reducible show _<_;omega))) only [Dz,cL,p_,List.getElem?_cons_zero,List.getElem?_cons_succ]|simp -dsimp (disch:=(first|with_reducible assumption|(with_reducible show _<_;omega)|(with_reducible show GetElem?.getElem? _ _=_;with_unfolding_all rfl)|(with_reducible show List.length _=_;with_unfolding_all rfl))) only [DM,qp]|simp -dsimp (disch:=(conv=>lhs;cbv)) only [Dl]));all_goals exact hK _ _ X (fun e=>by first|cases e;done|(exact⟨by omega,by omega⟩))
theorem OQ {B:Nat}{c:Nat→Int}{pv:Value}{P:List (List UInt8)}{h:ak}{K:Value→ak→Prop}(r:Eo B h pv P) (hB:B≤h.n)
   (hK:∀ b h',aw h.n h h'→(b=true→(c 2≤16∧P.length≤16)∧qE c P=0)→K (.bool b) h'):cy env (.func 4) [.agg ⟨bU c pv⟩] h K:=by
 obtain⟨pa,pc,rfl,_⟩:=id r
 refine F4 rfl ?_
 have ww:=mW @lu
 refine wk ?_
 have V:=iI.new h (bU c (.slice pa P.length pc)) 25
 obtain⟨h1,eh1⟩:=gz (ai h (.cells (bU c (.slice pa P.length pc)) 25 true))
 have X:=tW eh1
 have hn1:=qk eh1
 rw[eh1];try rw[eh1]at V
 have dv:=V.cfg
 have ww:=ww.a @dv
 refine wk ?_
 refine T_ (r.ext (X.mono hB)) ah fun b h2 X2 hb=>?_
 have Y2:=X.jI X2
 cases b with
 | false =>
   refine wk ?_
   exact hK _ _ Y2 (fun e=>by cases e)
 | true =>
   have V2:=V.ext X2 ah
   have dw:=V2.cfg
   have n2:=X2.n
   have ww:=ww.a @dw
   refine wk ?_
   refine Ey (r.ext (Y2.mono hB)) ah (by have:=hb rfl;omega) fun h3 X3=>?_
   have Y3:=Y2.trans (X3.mono ah)
   by_cases hm:qE c P=0
   · have ww:=ww.a @hm;refine wk ?_;exact hK _ _ Y3 fun _=>⟨hb rfl,hm⟩
   · have ww:=ww.a @hm;refine wk ?_;exact hK _ _ Y3 (fun e=>by cases e)
theorem pB {h:ak}{K:Value→ak→Prop}(hK:K (.bool true) h):cy env (.func 5) [] h K:=cy.ext (v:=.bool true) rfl hK
def RdA (B:Nat) (h:ak) (v:Value) (A:List ER):Prop:=∃ a c,v=.slice a A.length c∧iz B h a 4 (A.map ER.cells)
theorem RdA.ext {B:Nat}{h h':ak}{v:Value}{A:List ER}(r:RdA B h v A) (x:aw B h h'):RdA B h' v A:=by obtain⟨a,c,e,q⟩:=r;exact⟨a,c,e,q.ext x⟩
theorem Of {a:Ad}{U:VD}{M:MD}{C:xO}{B N i3 i5:Nat}{pv lv:Value}{A:List ER}{x:ER}{h:ak}{fr:Go.Ev.Fr}{Q:Ex→Go.Ev.Fr→ak→Prop}(S:St a U h M) (I:Inv 0 M) (co:Rg C) (ecf:M.cfg=C) (eac:M.aX=0) (lo:∀ j,own a U j→N≤j) (hN:N≤h.n) (hB:B≤N) (ra:RdA B h lv A) (hA:A.length≤200) (hpr:C.cG.length≤16∧∀ l∈C.cG,l.length≤1024)
  (V:iI h i3 (bU (mw C) pv) 25) (W:iI h i5 [iv x.kind,iv x.p,iv x.iw,iv x.pick] 29) (l3:i3<N) (l5:i5<N)
  (f1:fr.get 1=some lv) (f3:fr.get 3=some (pt i3 0)) (f5:fr.get 5=some (pt i5 0)) (f7:fr.get 7=some (mp a))
  (hQ:∀ U' M' h' (fr':Go.Ev.Fr),St a U' h' M'→Inv 200 M'→M'.cfg=C→M'.aX≤200→(∀ j,own a U' j→N≤j)→N≤h'.n→iI h' i3 (bU (mw C) pv) 25→iI h' i5 [iv x.kind,iv x.p,iv x.iw,iv x.pick] 29→fr'.get 3=some (pt i3 0)→fr'.get 5=some (pt i5 0)→fr'.get 7=some (mp a)→Q .normal fr' h'):NK.wp env 117 none fr h Q:=by
 obtain⟨la,lc,rfl,_⟩:=id ra
 unfold mp at *
 have ww:=mW W3
 refine wk ?_
 refine aP (fun m fr' h'=>∃ (k:Nat) (U':VD) (M':MD),k≤A.length∧m=A.length-k∧fr'.get 9=some (iv k)∧St a U' h' M'∧Inv k M'∧M'.cfg=C∧M'.aX≤k∧(∀ j,own a U' j→N≤j)∧N≤h'.n∧aw N h h') A.length ?_ ah ?_
 ·exact⟨0,U,M,ah,ah,aA,S,I,ecf,ah,lo,hN,aw.refl _ _⟩
 rintro m fr2 h2 ⟨k,U2,M2,hk,rfl,f9,S2,I2,ecf2,eac2,KE,n2,X2⟩ hag
 have z1:fr2.get 1=some (.slice la A.length lc):=(hag 1 rfl).trans (by simp[T.aj,f1])
 have z3:fr2.get 3=some (pt i3 0):=(hag 3 rfl).trans (by simp[T.aj,f3])
 have z5:fr2.get 5=some (pt i5 0):=(hag 5 rfl).trans (by simp[T.aj,f5])
 have z7:fr2.get 7=some (pt a.m 0):=(hag 7 rfl).trans (by simp[T.aj,f7])
 have ra2:=ra.ext (X2.mono hB)
 have hps2:M2.ps.length=C.ps:=by rw[I2.Su,ecf2]
 have hps0:=co.ps
 by_cases aT:k<A.length
 ·have lk:(k:Int)<(A.length:Int):=ah;have wq:=rU k;obtain⟨b,off,e,bl,rc⟩:=(show iz B h2 la 4 (A.map ER.cells) by obtain ⟨_,_,e,q⟩:=ra2;cases e;exact q) k (by rw[aI];exact aT);subst e;rw[dr]at rc;simp only[ER.cells]at rc;have ww:=ww.a (aN @lk @rc);refine wk ?_;refine Q1 S2 I2 ah ah (by rw[ecf2];omega) (fun p hp=>by rw[ecf2]at hp;have:=hpr.2 p hp;omega) ah (fun hd ev ra' rc' M3 U3 h3 I3 ec3 ea3 S3 k3 el=>?_) (fun hd h3 X3=>?_)
  ·have n3:=k3.n;have lo3:∀ j,own a U3 j→N≤j:=fun j o=>by
    by_cases hj:j<h2.n;·exact KE j (k3.own j hj o)
    ·omega
   have X3:aw N h h3:=⟨bO X2.n n3,fun j hj=>(k3.get j ah fun o=>by have:=KE j o;omega).trans (X2.get j hj)⟩;have ww:=ww.a @wq;refine wk ?_;exact⟨A.length-(k+1),ah,k+1,U3,M3,ah,rfl,aA,S3,I3,by rw[ec3,ecf2],ah,lo3,ah,X3⟩
  ·have n3:=X3.n;have ww:=ww.a @wq;refine wk ?_;exact⟨A.length-(k+1),ah,k+1,U2,M2,ah,rfl,aA,S2.ext X3,I2.mono (aL k),ecf2,ah,KE,ah,X2.trans (X3.mono n2)⟩
 ·obtain rfl:k=A.length:=ah;refine wk ?_;exact hQ U2 M2 h2 _ S2 (I2.mono hA) ecf2 ah KE n2 (V.ext X2 l3) (W.ext X2 l5) (by simp[T.aj];exact z3) (by simp[T.aj];exact z5) (by simp[T.aj];exact z7)
end Go.Proofs.YthjlppdnlahhoaaGreat
