/- THE PLAIN MACHINE's FUNCTIONS, walked (20). Conditions: none beyond each theorem's own. -/
import Derived.Test.YthjlppdnlahhoaaGreatP17
import Derived.Test.YthjlppdnlahhoaaGreatP19
import Derived.Test.YthjlppdnlahhoaaGreatP6
import Derived.Test.YthjlppdnlahhoaaGreatP18
set_option linter.unusedSimpArgs false
set_option linter.unusedVariables false
namespace Go.Proofs.YthjlppdnlahhoaaGreat
open Go.Ev
open Pl
set_option maxRecDepth 100000
set_option linter.defProp false
def Zx:=(aN (aN (aN (aN (aN @h_ @fZ) @fG) (aN @fN @fQ)) (aN (aN @fL @fO) (aN @fJ @fM))) (aN (aN (aN @fB @fP) (aN @fK @fI)) (aN (aN @fH @fF) (aN @fS @fA))))
def aa6:=(aN (aN (aN (aN (aN @h_ @fZ) @fG) (aN @fN @fQ)) (aN (aN @fL @fO) (aN @fJ @fM))) (aN (aN (aN @fB @fP) (aN @fK @fI)) (aN (aN @fH @fF) (aN @fS @fD))))
def YH:=(aN (aN (aN (aN (aN @h_ @fZ) @fG) (aN @fN @fQ)) (aN (aN @fL @fO) (aN @fJ @fM))) (aN (aN (aN @fB @fP) (aN @fK @fI)) (aN (aN @fH @fF) (aN @fA @fD))))
def Zs:=(aN (aN (aN (aN (aN @h_ @fZ) @fG) (aN @fN @fQ)) (aN (aN @fL @fO) (aN @fJ @fM))) (aN (aN (aN @fB @fP) (aN @fK @fI)) (aN (aN @fH @fS) (aN @fA @fD))))
def aaG:=(aN (aN (aN (aN (aN @h_ @fZ) @fG) (aN @fN @fQ)) (aN (aN @fL @fO) (aN @fJ @fM))) (aN (aN (aN @fB @fP) (aN @fK @fI)) (aN (aN @fF @fS) (aN @fA @fD))))
def abL:=(aN (aN (aN (aN (aN @h_ @fZ) @fG) (aN @fN @fQ)) (aN (aN @fL @fO) (aN @fJ @fM))) (aN (aN (aN @fB @fP) (aN @fK @fH)) (aN (aN @fF @fS) (aN @fA @fD))))
def V28_23:=(aN (aN (aN (aN (aN @h_ @fZ) @fN) (aN @fQ @fL)) (aN (aN @fO @fJ) (aN @fM @fB))) (aN (aN (aN @fP @fK) (aN @fI @fH)) (aN (aN @fF @fS) (aN @fA @fD))))
def V28_13:=(aN (aN (aN (aN (aN @h_ @fG) @fN) (aN @fQ @fL)) (aN (aN @fO @fJ) (aN @fM @fB))) (aN (aN (aN @fP @fK) (aN @fI @fH)) (aN (aN @fF @fS) (aN @fA @fD))))
def OH:=(aN (aN (aN (aN @fG @fN) (aN @fQ @fL)) (aN (aN @fO @fJ) (aN @fM @fB))) (aN (aN (aN @fP @fK) (aN @fI @fH)) (aN (aN @fF @fS) (aN @fA @fD))))
def xr:=(aN (aN (aN (aN @h_ @fZ) (aN @fG @fQ)) (aN (aN @fL @fO) (aN @fJ @fM))) (aN (aN (aN @fP @fK) (aN @fI @fH)) (aN (aN @fF @fS) (aN @fA @fD))))
def CA:=(aN (aN (aN (aN @h_ @fZ) (aN @fG @fN)) (aN (aN @fQ @fL) (aN @fO @fJ))) (aN (aN (aN @fM @fB) (aN @fI @fH)) (aN (aN @fF @fS) (aN @fA @fD))))
set_option maxHeartbeats 4000000
theorem abI (x y z w:Int):(bt 50 (.agg ⟨[.int .u8 x,.int .u8 y,.int .u8 z,.int .u8 w]⟩) (.agg ⟨[.int .u8 x,.int .u8 y,.int .u8 z,.int .u8 w]⟩)=true)=True:=by simp[bt,bt.go]
theorem step_ret {a:Ad}{V:VD}{h:ak}{M:MD}{n g pp:Nat}{kd iw pk:Int}{K:Value→ak→Prop}(s:St a V h M) (I:Inv n M) (hn:n≤300) (hpr2:M.cfg.cG.length≤1000000) (hbl:∀ p∈M.cfg.cG,p.length≤50000) (hpp:pp<M.ps.length) (hru:M.ps[pp].runs=[g])
  (hK:∀ ev M' V' h',Vl ev→Nc n M M'→St a V' h' M'→Kp (own a V) (own a V') h h'→K (.agg ⟨ev⟩) h'):cy env (.func 28) [mp a,.agg ⟨[iv kd,iv pp,iv iw,iv pk]⟩] h K:=by
 have hocc:0<dS M.all M.ps g:=by have:=mH (all:=M.all) (z:=g) hpp;rw[hru]at this;simp at this;omega
 obtain⟨hg,hi⟩:=I.lv g hocc
 unfold mp at *
 refine F28 rfl ?_
 have ww:=mW Zx
 refine wk ?_
 obtain⟨h1,eh1⟩:=gz (ai (ai h (.cells [iv kd,iv pp,iv iw,iv pk] 29 true)) (.cells [iv 0,uv 0,iv 0,iv 0,iv 0,uv 0,iv 0,iv 0,uv 0,uv 0,uv 0,uv 0,uv 0,iv 0,uv 0,nS] 46 true))
 have X1:aw h.n h h1:=eh1▸((aw.new _ a_).trans (aw.new _ (aL _)))
 have g3:h1.b.get h.n=some (.cells [iv kd,iv pp,iv iw,iv pk] 29 true):=eh1▸((aK _ (by show h.n<h.n+1;omega)).trans (az _ _))
 have g4:h1.b.get (h.n+1)=some (.cells [iv 0,uv 0,iv 0,iv 0,iv 0,uv 0,iv 0,iv 0,uv 0,uv 0,uv 0,uv 0,uv 0,iv 0,uv 0,nS] 46 true):=eh1▸(az _ _)
 have n1:h1.n=h.n+2:=eh1▸rfl
 show Ji.wp env 152 none _ (ai (ai h (.cells [iv kd,iv pp,iv iw,iv pk] 29 true)) (.cells [iv 0,uv 0,iv 0,iv 0,iv 0,uv 0,iv 0,iv 0,uv 0,uv 0,uv 0,uv 0,uv 0,iv 0,uv 0,nS] 46 true)) _
 rw[eh1]
 have s1:=s.ext X1
 obtain⟨w,hv,ew,pr,_,_,cr,_,_,_⟩:=s1.Gt hpp
 have rr:=pr.runs
 rw[hru]at rr
 obtain⟨la,lc,le,_⟩:=rr.cut
 have rr':=rr.r
 rw[le]at rr' cr
 obtain⟨i,o,rfl,hib,hcell⟩:=rr'.at_ (k:=0) an
 simp only[hJ,cj]at hcell
 have lp0:(pp:Int)<(M.ps.length:Int):=ah
 have ww:=mW (aN (aN (aN aa6 @cr) (aN @hcell @lp0)) (aN (aN @bj0 @dn.{0}) @cF.{0}))
 refine wk ?_
 obtain⟨ha,eha⟩:=gz (ai h1 (.cells [iv 0,uv 0] 38 true))
 have Xa:=tW eha
 have ga:=Dj eha
 have na:=qk eha
 rw[eha]
 refine pS (s1.ext Xa) hg fun h2 x2=>?_
 have n2:=x2.n
 have g2:=x2.cY ga
 refine wk ?_
 refine aM (off:=0) (cs':=[iv g,uv M.gs[g].gen]) g2 rfl rfl rfl rfl ao ?_
 obtain⟨h3,eh3⟩:=gz (aO h2 h1.n (.cells [iv g,uv M.gs[g].gen] 38 true))
 have X3:aw h1.n h1 h3:=eh3▸((Xa.jI x2).trans (aw.set _ a_))
 have g5:=rS eh3
 have n3:=sW eh3
 rw[eh3]
 have s3:=s1.ext X3
 have r5:av h3 (ad h1.n 0) 2=some [iv g,uv M.gs[g].gen]:=aq ah g5 rfl rfl
 refine wk ?_
 have ww:=mW YH
 refine wk ?_
 refine tQ (r:=⟨(g:Int),(M.gs[g].gen:Int)⟩) s3 (by have:=I.gl;omega) fun h4 x4=>?_
 have n4:=x4.n
 rw[fh hg hi]
 unfold fC
 have X4:=X3.jI x4
 have s4:=s3.ext x4
 have r5':=aG x4 ah r5
 have ww:=ww.a @dY
 refine wk ?_
 have Ss:=s4.Ss
 obtain⟨vs,rp,lp,rb⟩:=s4.pr
 obtain⟨pa,pc,ep,hpc,hrow⟩:=rp.r
 rw[aI,lp]at ep hpc
 rw[ep]at Ss
 obtain⟨hp0,hp1⟩:=(I.G.live g hg hi).prog
 obtain⟨pr',hpr'⟩:=zm hp0
 have hpl:pr'<M.cfg.cG.length:=ah
 have hpv:pr'<vs.length:=ah
 obtain⟨pi,po,rfl,hpi,hpcell⟩:=hrow pr' (by rw[aI];exact hpv)
 rw[dr]at hpcell
 have hpc1:cellAt h4 (ad pi (po+pr'*1))=some vs[pr']:=by unfold cellAt;rw[hpcell]
 have bb:=rb pr' hpv hpl
 have hbb:=hbl _ (bG hpl)
 obtain⟨va,vc,ve,_⟩:=bb.len
 have c7:=s4.gC hg 9 ao
 simp only[Ob.cells,GD.cells,cu,cR]at c7
 rw[hpr']at c7
 have lpr:(pr':Int)<(M.cfg.cG.length:Int):=ah
 have ww:=mW (aN Zs @lpr)
 refine wk ?_
 have g34:=X4.cY g3
 have g44:=X4.cY g4
 have g54:=x4.cY g5
 have ww:=mW (aN aaG @dY)
 refine wk ?_
 have X5:aw h4.n h4 (ai h4 (.cells [iv 0,uv 0,iv 0,iv pp,iv g,uv M.gs[g].gen,iv 0,iv 0,uv 0,uv 0,uv 0,uv 0,uv 0,iv 0,uv 0,nS] 46 true)):=br
 have g8:(ai h4 (.cells [iv 0,uv 0,iv 0,iv pp,iv g,uv M.gs[g].gen,iv 0,iv 0,uv 0,uv 0,uv 0,uv 0,uv 0,iv 0,uv 0,nS] 46 true)).b.get h4.n=some (.cells [iv 0,uv 0,iv 0,iv pp,iv g,uv M.gs[g].gen,iv 0,iv 0,uv 0,uv 0,uv 0,uv 0,uv 0,iv 0,uv 0,nS] 46 true):=az _ _
 have n5:(ai h4 (.cells [iv 0,uv 0,iv 0,iv pp,iv g,uv M.gs[g].gen,iv 0,iv 0,uv 0,uv 0,uv 0,uv 0,uv 0,iv 0,uv 0,nS] 46 true)).n=h4.n+1:=rfl
 generalize ai h4 (.cells [iv 0,uv 0,iv 0,iv pp,iv g,uv M.gs[g].gen,iv 0,iv 0,uv 0,uv 0,uv 0,uv 0,uv 0,iv 0,uv 0,nS] 46 true)=h5 at X5 g8 n5 ⊢
 have s5:=s4.ext X5
 have cpc:=s5.gC hg 10 ao
 simp only[Ob.cells,GD.cells,cu,cR]at cpc
 have bb5:RB (own a V) h5 vs[pr'] M.cfg.cG[pr']:=RS.kp bb (Kp.ext X5)
 have ww:=mW abL
 refine wk ?_
 refine Hy bb5 hbb fun o' a' b' c' e h6 x6 vH=>?_
 have n6:=x6.n
 unfold NZ
 refine wk ?_
 obtain⟨h7,eh7⟩:=gz (ai h6 (.cells [bK o',bK a',bK b',bK c'] 148 true))
 have X7:aw h5.n h5 h7:=eh7▸(x6.trans (aw.new _ ah))
 have g9:=Dj eh7
 have n7:=qk eh7
 rw[eh7]
 have XX:aw h.n h h7:=X1.trans ((X4.trans ((X5.mono ah).trans (X7.mono ah))).mono ah)
 have s7:=s.ext XX
 have K7:Kp (own a V) (own a V) h h7:=Kp.ext XX
 have z3:=X7.cY (X5.cY g34)
 have z4:=X7.cY (X5.cY g44)
 have z5:=X7.cY (X5.cY g54)
 have z8:=X7.cY g8
 have z9:=g9
 have no:∀ j,h.n≤j→¬own a V j:=fun j hj q=>absurd (s.lt _ q) ah
 have XR:aw h7.n h7 h7:=aw.refl _ _
 have mid:∀ fr:Go.Ev.Fr,fr.get 0=some (mp a)→fr.get 3=some (pt h.n 0)→fr.get 4=some (pt (h.n+1) 0)→fr.get 5=some (pt h1.n 0)→fr.get 6=some (pt a.g (g*21+2))→fr.get 7=some (vs[pr'])→fr.get 8=some (pt h4.n 0)→fr.get 9=some (pt h6.n 0)→fr.get 10=some (iv e)→HH.wp env 152 none fr h7 (cW env [.cell 4 46] K):=by
  intro fr f0 f3 f4 f5 f6 f7 f8 f9 f10;have fV:∀ fr:Go.Ev.Fr,fr.get 0=some (mp a)→fr.get 3=some (pt h.n 0)→fr.get 4=some (pt (h.n+1) 0)→fr.get 5=some (pt h1.n 0)→fr.get 6=some (pt a.g (g*21+2))→fr.get 7=some (vs[pr'])→fr.get 8=some (pt h4.n 0)→fr.get 9=some (pt h6.n 0)→fr.get 10=some (iv e)→D4.wp env 152 none fr h7 (vi (zq.wp env 152 none) (cW env [.cell 4 46] K)):=fun fr q0 q3 q4 q5 q6 q7 q8 q9 q10=>by have hQ:∀ fr' h',cW env [.cell 4 46] K .ret fr' h'→(vi (zq.wp env 152 none) (cW env [.cell 4 46] K)) .ret fr' h':=fun _ _ q=>q;exact Mn s7 K7 I hn hpr2 hpp hg hi q0 q3 q4 q5 q6 q7 q8 q9 q10 (XR.cY z3) (XR.cY z4) (XR.cY z5) (XR.cY z8) (XR.cY z9) ah ah ah ah ah (no _ ah) (no _ ah) (no _ ah) (no _ ah) (no _ ah) ah ah ah hK hQ
  unfold mp at f0;have e7:=f7;rw[ve]at e7;have cpc:=s7.gC hg 10 ao;have gN:=s7.gN hg;simp only[Ob.cells,GD.cells,cu,cR]at cpc;have opc:=ay (off:=0) (show h6.n<h7.n by omega) z9 rfl;have ins:av h7 (ad h6.n 0) 4=some [.int .u8 (o'.toNat:Int),.int .u8 (a'.toNat:Int),.int .u8 (b'.toNat:Int),.int .u8 (c'.toNat:Int)]:=aq ah z9 rfl rfl;simp only[bK]at opc;have rest:∀ fr:Go.Ev.Fr,fr.get 0=some (mp a)→fr.get 3=some (pt h.n 0)→fr.get 4=some (pt (h.n+1) 0)→fr.get 5=some (pt h1.n 0)→fr.get 6=some (pt a.g (g*21+2))→fr.get 7=some (vs[pr'])→fr.get 8=some (pt h4.n 0)→fr.get 9=some (pt h6.n 0)→fr.get 10=some (iv e)→zq.wp env 152 none fr h7 (cW env [.cell 4 46] K):=by
   intro fr f0 f3 f4 f5 f6 f7 f8 f9 f10;unfold mp at f0;have e7:=f7;rw[ve]at e7;have tail:∀ fr:Go.Ev.Fr,fr.get 0=some (mp a)→fr.get 3=some (pt h.n 0)→fr.get 4=some (pt (h.n+1) 0)→fr.get 5=some (pt h1.n 0)→fr.get 6=some (pt a.g (g*21+2))→fr.get 7=some (vs[pr'])→fr.get 8=some (pt h4.n 0)→fr.get 9=some (pt h6.n 0)→fr.get 10=some (iv e)→Aa.wp env 152 none fr h7 (cW env [.cell 4 46] K):=by
    intro fr f0 f3 f4 f5 f6 f7 f8 f9 f10;unfold mp at f0;have e7:=f7;rw[ve]at e7;have ww:=mW V28_23;refine wk ?_;obtain⟨h8,eh8⟩:=gz (ai h7 (.cells M.gs[g].x.cells 81 true));have X8:=tW eh8;have g11:=Dj eh8;have n8:=qk eh8;rw[eh8];have s8:=s7.ext X8;have K8:=K7.trans (Kp.ext (O:=own a V) X8);by_cases h0:¬e=0
    ·have fin:∀ fr:Go.Ev.Fr,fr.get 0=some (mp a)→fr.get 3=some (pt h.n 0)→fr.get 4=some (pt (h.n+1) 0)→fr.get 5=some (pt h1.n 0)→fr.get 6=some (pt a.g (g*21+2))→fr.get 7=some (vs[pr'])→fr.get 8=some (pt h4.n 0)→fr.get 9=some (pt h6.n 0)→fr.get 10=some (iv e)→AP.wp env 152 none fr h8 (vi (yc.wp env 152 none) (cW env [.cell 4 46] K)):=fun fr q0 q3 q4 q5 q6 q7 q8 q9 q10=>by have hQ:∀ fr' h',cW env [.cell 4 46] K .ret fr' h'→(vi (yc.wp env 152 none) (cW env [.cell 4 46] K)) .ret fr' h':=fun _ _ q=>q;exact F2 s8 K8 I hn hpr2 hpp hg hi q0 q3 q4 q5 q6 q7 q8 q9 q10 (X8.cY z3) (X8.cY z4) (X8.cY z5) (X8.cY z8) (X8.cY z9) ah ah ah ah ah (no _ ah) (no _ ah) (no _ ah) (no _ ah) (no _ ah) ah ah ah hK hQ
     have ww:=mW (aN V28_13 @h0);refine wk ?_;exact fin _ (by simp[T.aj,f0,mp]) (by simp[T.aj,f3]) (by simp[T.aj,f4]) (by simp[T.aj,f5]) (by simp[T.aj,f6]) (by simp[T.aj,f7]) (by simp[T.aj,f8]) (by simp[T.aj,f9]) (by simp[T.aj,f10])
    obtain rfl:e=0:=lx.1 h0;have gN8:=s8.gN hg;have ins8:av h8 (ad h6.n 0) 4=some [.int .u8 (o'.toNat:Int),.int .u8 (a'.toNat:Int),.int .u8 (b'.toNat:Int),.int .u8 (c'.toNat:Int)]:=aG X8 (show h6.n<h7.n by omega) ins;have ww:=mW OH;refine wk ?_;refine Io (o:=o') (a:=a') (b:=b') (c:=c') (I.G.live g hg hi).yn fun y e' h9 x9 hy=>?_;have n9:=x9.n;have s9:=s8.ext x9;have g119:=x9.cY g11;have gN9:=s9.gN hg;have ins9:=aG x9 (show h6.n<h8.n by omega) ins8;have same_G:(bt 50 (.agg ⟨M.gs[g].x.cells⟩) (.agg ⟨M.gs[g].x.cells⟩)=true)=True:=by simp[GD.cells,bt,bt.go]
    have ww:=ww.a (aN @same_G @abI);refine wk ?_;refine aM (off:=0) (cs':=y.cells) g119 rfl rfl rfl rfl ao ?_;have X9:aw h7.n h7 (aO h9 h7.n (.cells y.cells 81 true)):=(X8.jI x9).trans (aw.set _ a_);have w11:(aO h9 h7.n (.cells y.cells 81 true)).b.get h7.n=some (.cells y.cells 81 true):=aF;have n9':(aO h9 h7.n (.cells y.cells 81 true)).n=h9.n:=rfl;generalize aO h9 h7.n (.cells y.cells 81 true)=hA at X9 w11 n9' ⊢;have sA:=s7.ext X9;have KA:=K7.trans (Kp.ext (O:=own a V) X9);by_cases he1:e'=0
    ·subst he1;have xy:av hA (ad h7.n 0) 19=some y.cells:=aq ah w11 rfl rfl;have hQ:∀ fr' h',cW env [.cell 4 46] K .ret fr' h'→cW env [.cell 4 46] K .ret fr' h':=fun _ _ q=>q;have fin:∀ fr:Go.Ev.Fr,fr.get 0=some (mp a)→fr.get 3=some (pt h.n 0)→fr.get 4=some (pt (h.n+1) 0)→fr.get 5=some (pt h1.n 0)→fr.get 6=some (pt a.g (g*21+2))→fr.get 7=some (vs[pr'])→fr.get 8=some (pt h4.n 0)→fr.get 9=some (pt h6.n 0)→fr.get 10=some (iv 0)→fr.get 11=some (pt h7.n 0)→yc.wp env 152 none fr hA (cW env [.cell 4 46] K):=fun fr q0 q3 q4 q5 q6 q7 q8 q9 q10 q11=>by exact MP sA KA I hn hpr2 hpp hg hi q0 q3 q4 q5 q6 q7 q8 q9 q10 (X9.cY z3) (X9.cY z4) (X9.cY z5) (X9.cY z8) (X9.cY z9) ah ah ah ah ah (no _ ah) (no _ ah) (no _ ah) (no _ ah) (no _ ah) ah ah ah hK hQ hy q11 xy
     refine wk ?_;exact fin _ (by simp[T.aj,f0,mp]) (by simp[T.aj,f3]) (by simp[T.aj,f4]) (by simp[T.aj,f5]) (by simp[T.aj,f6]) (by simp[T.aj,f7]) (by simp[T.aj,f8]) (by simp[T.aj,f9]) aA aA
    ·have fin:∀ fr:Go.Ev.Fr,fr.get 0=some (mp a)→fr.get 3=some (pt h.n 0)→fr.get 4=some (pt (h.n+1) 0)→fr.get 5=some (pt h1.n 0)→fr.get 6=some (pt a.g (g*21+2))→fr.get 7=some (vs[pr'])→fr.get 8=some (pt h4.n 0)→fr.get 9=some (pt h6.n 0)→fr.get 10=some (iv e')→AP.wp env 152 none fr hA (vi (yc.wp env 152 none) (cW env [.cell 4 46] K)):=fun fr q0 q3 q4 q5 q6 q7 q8 q9 q10=>by have hQ:∀ fr' h',cW env [.cell 4 46] K .ret fr' h'→(vi (yc.wp env 152 none) (cW env [.cell 4 46] K)) .ret fr' h':=fun _ _ q=>q;exact F2 sA KA I hn hpr2 hpp hg hi q0 q3 q4 q5 q6 q7 q8 q9 q10 (X9.cY z3) (X9.cY z4) (X9.cY z5) (X9.cY z8) (X9.cY z9) ah ah ah ah ah (no _ ah) (no _ ah) (no _ ah) (no _ ah) (no _ ah) ah ah ah hK hQ
     have ww:=ww.a @he1;refine wk ?_;exact fin _ (by simp[T.aj,f0,mp]) (by simp[T.aj,f3]) (by simp[T.aj,f4]) (by simp[T.aj,f5]) (by simp[T.aj,f6]) (by simp[T.aj,f7]) (by simp[T.aj,f8]) (by simp[T.aj,f9]) aA
   by_cases hc:e=0∧16<o'.toNat
   ·have fin:∀ fr:Go.Ev.Fr,fr.get 0=some (mp a)→fr.get 3=some (pt h.n 0)→fr.get 4=some (pt (h.n+1) 0)→fr.get 5=some (pt h1.n 0)→fr.get 6=some (pt a.g (g*21+2))→fr.get 7=some (vs[pr'])→fr.get 8=some (pt h4.n 0)→fr.get 9=some (pt h6.n 0)→fr.get 10=some (iv e)→DJ.wp env 152 none fr h7 (vi (Aa.wp env 152 none) (cW env [.cell 4 46] K)):=fun fr q0 q3 q4 q5 q6 q7 q8 q9 q10=>by have hQ:∀ fr' h',cW env [.cell 4 46] K .ret fr' h'→(vi (Aa.wp env 152 none) (cW env [.cell 4 46] K)) .ret fr' h':=fun _ _ q=>q;exact Kx s7 K7 I hn hpr2 hpp hg hi q0 q3 q4 q5 q6 q7 q8 q9 q10 (XR.cY z3) (XR.cY z4) (XR.cY z5) (XR.cY z8) (XR.cY z9) ah ah ah ah ah (no _ ah) (no _ ah) (no _ ah) (no _ ah) (no _ ah) ah ah ah hK hQ ⟨hc.2,vH hc.1⟩ ah ah
    have h16:(16:Int)<(o'.toNat:Int):=ah;obtain⟨rfl,_⟩:=hc;have ww:=mW (aN xr @h16);refine wk ?_;exact fin _ (by simp[T.aj,f0,mp]) (by simp[T.aj,f3]) (by simp[T.aj,f4]) (by simp[T.aj,f5]) (by simp[T.aj,f6]) (by simp[T.aj,f7]) (by simp[T.aj,f8]) (by simp[T.aj,f9]) (by simp[T.aj,f10])
   ·by_cases h0:e=0;·have h16:¬(16:Int)<(o'.toNat:Int):=ah;subst h0;have ww:=mW (aN xr @h16);refine wk ?_;exact tail _ (by simp[T.aj,f0,mp]) (by simp[T.aj,f3]) (by simp[T.aj,f4]) (by simp[T.aj,f5]) (by simp[T.aj,f6]) (by simp[T.aj,f7]) (by simp[T.aj,f8]) (by simp[T.aj,f9]) (by simp[T.aj,f10])
    ·have ww:=mW (aN xr @h0);refine wk ?_;exact tail _ (by simp[T.aj,f0,mp]) (by simp[T.aj,f3]) (by simp[T.aj,f4]) (by simp[T.aj,f5]) (by simp[T.aj,f6]) (by simp[T.aj,f7]) (by simp[T.aj,f8]) (by simp[T.aj,f9]) (by simp[T.aj,f10])
  by_cases h4':e=4;·subst h4';have ww:=mW CA;refine wk ?_;exact fV _ (by simp[T.aj,f0,mp]) (by simp[T.aj,f3]) (by simp[T.aj,f4]) (by simp[T.aj,f5]) (by simp[T.aj,f6]) (by simp[T.aj,f7]) (by simp[T.aj,f8]) (by simp[T.aj,f9]) (by simp[T.aj,f10])
  ·have ww:=mW (aN CA @h4');refine wk ?_;refine JC fun z=>?_;by_cases hz:z<M.gs[g].x.pc;·have ww:=ww.a @hz;refine wk ?_;exact fV _ (by simp[T.aj,f0,mp]) (by simp[T.aj,f3]) (by simp[T.aj,f4]) (by simp[T.aj,f5]) (by simp[T.aj,f6]) (by simp[T.aj,f7]) (by simp[T.aj,f8]) (by simp[T.aj,f9]) (by simp[T.aj,f10])
   ·have ww:=ww.a @hz;refine wk ?_;exact rest _ (by simp[T.aj,f0,mp]) (by simp[T.aj,f3]) (by simp[T.aj,f4]) (by simp[T.aj,f5]) (by simp[T.aj,f6]) (by simp[T.aj,f7]) (by simp[T.aj,f8]) (by simp[T.aj,f9]) (by simp[T.aj,f10])
 exact mid _ (by simp[T.aj,mp]) (by simp[T.aj,mp]) (by simp[T.aj,mp]) (by simp[T.aj,mp]) (by simp[T.aj,mp]) (by simp[T.aj,mp]) (by simp[T.aj,mp]) (by simp[T.aj,mp]) (by simp[T.aj,mp])
def V7_27:=(aN (aN (aN @sX @uF) (aN @rZ @oh)) (aN (aN @nY @n_) (aN @oB @ot)))
def V7_25:=(aN (aN (aN @sX @uF) (aN @rZ @oh)) (aN (aN @nY @nW) (aN @oB @ot)))
def V7_1:=(aN (aN (aN @uF @rZ) (aN @oh @nY)) (aN (aN @n_ @nW) (aN @oB @ot)))
def Vv:=(aN (aN (aN @sX @rZ) (aN @oh @n_)) (aN (aN @nW @oB) @ot))
def V7_11:=(aN (aN (aN @sX @uF) (aN @rZ @nY)) (aN (aN @n_ @nW) (aN @oB @ot)))
def Qj:=(aN (aN (aN @sX @oh) (aN @nY @n_)) (aN (aN @nW @oB) @ot))
theorem aak {B n:Nat}{h:ak}{e:TypeId}{v:Value}{cs:List Value}(o:bT B h e v n cs):∃ a c,v=.slice a n c:=by cases o<;>exact⟨_,_,rfl⟩
def EvO (aX:Nat) (ra:Option Addr) (n rc:Nat) (ev:List Value):Prop:=∃ tm w pp gi gg hw k a0 a1 a2 a3 a4 code ans:Int,ev=[.int .i64 (aX:Int),.int .u64 tm,.int .i64 w,.int .i64 pp,.int .i64 gi,.int .u64 gg,.int .i64 hw,.int .i64 k,.int .u64 a0,.int .u64 a1,.int .u64 a2,.int .u64 a3,.int .u64 a4,.int .i64 code,.int .u64 ans,.slice ra n rc]
theorem Uw {a:Ad}{V0 V:VD}{h0 h:ak}{M:MD}{n b4:Nat}{ev:List Value}{fr:Go.Ev.Fr}{K:Value→ak→Prop}(s:St a V h M) (K0:Kp (own a V0) (own a V) h0 h) (I:Inv n M) (hac:M.aX<1000000)
   (f0:fr.get 0=some (mp a)) (f4:fr.get 4=some (pt b4 0)) (x4:h.b.get b4=some (.cells ev 46 true)) (hev:Vl ev) (l4:b4<h.n) (o4:¬own a V b4) (m4:h0.n≤b4)
   (hK:∀ ev' ra rc V' h',St a V' h' { M with aX:=M.aX+1 }→Kp (own a V0) (own a V') h0 h'→EvO M.aX ra M.ps.length rc ev'→K (.tuple #[.agg ⟨ev'⟩,iv 0]) h'):JI.wp env 114 none fr h (cW env [.cell 4 46,.tmp 5] K):=by
 obtain⟨w,pp,gi,gg,hw,k,a0,a1,a2,a3,a4,code,ans,rfl⟩:=hev
 unfold mp at *
 have ww:=mW V7_27
 refine wk ?_
 refine aM (off:=0) (cs':=[iv M.aX,uv 0,iv w,iv pp,iv gi,uv gg,iv hw,iv k,uv a0,uv a1,uv a2,uv a3,uv a4,iv code,uv ans,nS]) x4 rfl rfl rfl rfl ao ?_
 have s1:=s.loc (cs':=[iv M.aX,uv 0,iv w,iv pp,iv gi,uv gg,iv hw,iv k,uv a0,uv a1,uv a2,uv a3,uv a4,iv code,uv ans,nS]) x4 o4
 obtain⟨h1,eh1⟩:=gz (aO h b4 (.cells [iv M.aX,uv 0,iv w,iv pp,iv gi,uv gg,iv hw,iv k,uv a0,uv a1,uv a2,uv a3,uv a4,iv code,uv ans,nS] 46 true))
 have z1:=rS eh1
 have K1:=K0.loc (j:=b4) (k:=.cells [iv M.aX,uv 0,iv w,iv pp,iv gi,uv gg,iv hw,iv k,uv a0,uv a1,uv a2,uv a3,uv a4,iv code,uv ans,nS] 46 true) m4
 have n1:=sW eh1
 rw[eh1];try rw[eh1]at s1;try rw[eh1]at K1
 refine wk ?_
 refine aM (off:=1) (cs':=[iv M.aX,uv M.now,iv w,iv pp,iv gi,uv gg,iv hw,iv k,uv a0,uv a1,uv a2,uv a3,uv a4,iv code,uv ans,nS]) z1 rfl rfl rfl rfl ao ?_
 have s2:=s1.loc (cs':=[iv M.aX,uv M.now,iv w,iv pp,iv gi,uv gg,iv hw,iv k,uv a0,uv a1,uv a2,uv a3,uv a4,iv code,uv ans,nS]) z1 o4
 obtain⟨h2,eh2⟩:=gz (aO h1 b4 (.cells [iv M.aX,uv M.now,iv w,iv pp,iv gi,uv gg,iv hw,iv k,uv a0,uv a1,uv a2,uv a3,uv a4,iv code,uv ans,nS] 46 true))
 have z2:=rS eh2
 have K2:=K1.loc (j:=b4) (k:=.cells [iv M.aX,uv M.now,iv w,iv pp,iv gi,uv gg,iv hw,iv k,uv a0,uv a1,uv a2,uv a3,uv a4,iv code,uv ans,nS] 46 true) m4
 have n2:=sW eh2
 rw[eh2];try rw[eh2]at s2;try rw[eh2]at K2
 have wa:IntKind.wrap .i64 ((M.aX:Int)+1)=((M.aX+1:Nat):Int):=bC ah
 refine wk ?_
 have ww:=mW (aN V7_25 @wa)
 refine wk ?_
 refine Uf s2 fun V3 h3 s3 k3 n3=>?_
 have K3:=K2.trans k3
 have z3:=(k3.get b4 ah o4).trans z2
 have o43:¬own a V3 b4:=fun o=>o4 (k3.own _ ah o)
 have hK:∀ ev' ra rc V' h',St a V' h' { M with aX:=M.aX+1 }→Kp (own a V0) (own a V') h0 h'→EvO M.aX ra ({ M with aX:=M.aX+1 }:MD).ps.length rc ev'→K (.tuple #[.agg ⟨ev'⟩,iv 0]) h':=hK
 have hmn:M.now=({ M with aX:=M.aX+1 }:MD).now:=rfl
 have q3:nD { M with aX:=M.aX+1 }:=I.q.of rfl rfl rfl rfl
 generalize ({ M with aX:=M.aX+1 }:MD)=M3 at s3 hK hmn q3
 refine wk ?_
 have ww:=mW V7_1
 refine wk ?_
 have stC:∀ (rv:Value) (hh:ak),uH b4 h3 hh→hh.b.get b4=some (.cells [iv M.aX,uv M.now,iv w,iv pp,iv gi,uv gg,iv hw,iv k,uv a0,uv a1,uv a2,uv a3,uv a4,iv code,uv ans,rv] 46 true)→St a V3 hh M3∧Kp (own a V0) (own a V3) h0 hh:=fun rv hh c g=>by
   have sx:=s3.loc (cs':=[iv M.aX,uv M.now,iv w,iv pp,iv gi,uv gg,iv hw,iv k,uv a0,uv a1,uv a2,uv a3,uv a4,iv code,uv ans,rv]) z3 o43;have x:aw (aO h3 b4 (.cells [iv M.aX,uv M.now,iv w,iv pp,iv gi,uv gg,iv hw,iv k,uv a0,uv a1,uv a2,uv a3,uv a4,iv code,uv ans,rv] 46 true)).n (aO h3 b4 (.cells [iv M.aX,uv M.now,iv w,iv pp,iv gi,uv gg,iv hw,iv k,uv a0,uv a1,uv a2,uv a3,uv a4,iv code,uv ans,rv] 46 true)) hh:=⟨c.n,fun j hj=>by
     by_cases e:j=b4;· subst e;rw[aF];exact g
     · rw[aC e];exact c.get j hj e⟩
   exact⟨sx.ext x,(K3.loc m4).trans (Kp.ext x)⟩
 have hln:M3.ps.length≤8:=q3.Bj
 refine aP (fun m fr' h''=>∃ (q:Nat) (rv:Value) (cs:List Value),q≤M3.ps.length∧m=M3.ps.length-q∧fr'.get 89=some (iv q)∧uH b4 h3 h''∧h''.b.get b4=some (.cells [iv M.aX,uv M.now,iv w,iv pp,iv gi,uv gg,iv hw,iv k,uv a0,uv a1,uv a2,uv a3,uv a4,iv code,uv ans,rv] 46 true)∧bT h3.n h'' 38 rv q cs∧cs.length=q*2) M3.ps.length ?_ ah ?_
 · exact⟨0,nS,[],ah,ah,aA,uH.refl _ _,z3,.nil,rfl⟩
 rintro m fr5 h5 ⟨q,rv,cs,hq,rfl,f89,c5,z5,ow5,hcs⟩ hag
 have g0:fr5.get 0=some (pt a.m 0):=(hag 0 rfl).trans (by simp[T.aj,f0])
 have g4:fr5.get 4=some (pt b4 0):=(hag 4 rfl).trans (by simp[T.aj,f4])
 obtain⟨s5,K5⟩:=stC rv h5 c5 z5
 have n5:=c5.n
 by_cases aT:q<M3.ps.length
 · obtain⟨w',hv,ew,pr,_,_,_,_,_,crow⟩:=s5.Gt aT;obtain⟨la1,lc1,le1,_⟩:=pr.ring.cut;obtain⟨la2,lc2,le2,_⟩:=pr.next.cut
   obtain⟨la3,lc3,le3,_⟩:=pr.runs.cut;rw[le1,le2,le3]at crow;have lq0:(q:Int)<(M3.ps.length:Int):=ah;have ww:=mW (aN (aN Vv @crow) @lq0);refine wk ?_;obtain⟨h6,eh6⟩:=gz (ai h5 (.cells [.slice la1 M3.ps[q].ring.length lc1,.slice la2 M3.ps[q].next.length lc2,.slice la3 M3.ps[q].runs.length lc3,iv M3.ps[q].left,uv M3.ps[q].turns] 113 true));have X6:=tW eh6;have g7:=Dj eh6;have n6:=qk eh6;rw[eh6];have wq:=rU q;have b4n:b4<h3.n:=by have:=k3.n;omega
   have fin:∀ (fr:Go.Ev.Fr) (hh:ak) (ci cg:Int),aw h5.n h5 hh→h6.n<hh.n→hh.b.get h6.n=some (.cells [iv ci,uv cg] 38 true)→fr.get 4=some (pt b4 0)→fr.get 8=some (pt h6.n 0)→fr.get 89=some (iv q) →
       ∀ Q:Ex→Go.Ev.Fr→ak→Prop,(∀ fr' v' h' cs',fr'.get 89=some (iv q)→uH b4 h3 h'→h'.b.get b4=some (.cells [iv M.aX,uv M.now,iv w,iv pp,iv gi,uv gg,iv hw,iv k,uv a0,uv a1,uv a2,uv a3,uv a4,iv code,uv ans,v'] 46 true)→bT h3.n h' 38 v' (q+1) cs'→cs'.length=(q+1)*2→Q .normal fr' h')→YO.wp env 114 none fr hh Q:=by
     intro fr hh ci cg X hlt8 g8 q4 q8 q89 Q hQ
     have z6:=X.cY z5
     have r8:av hh (ad h6.n 0) 2=some [iv ci,uv cg]:=aq hlt8 g8 rfl rfl
     have nX:=X.n
     have ww:=mW W7
     refine wk ?_
     refine yv (ow5.ext X a_) ah hcs ah rfl rfl ao rfl fun v' h7 o7 x7=>?_
     have n7:=x7.n
     have z7:=(x7.get b4 b4n).trans z6
     have cX:uH b4 h3 hh:=c5.trans (uH.ext X)
     have c7:uH b4 h3 h7:=⟨ah,fun j hj hne=>(x7.get j hj).trans (cX.get j hj hne)⟩
     cases o7 with
     | row i _ _ hB7 hi7 hb7 =>
       refine wk ?_
       refine aM (off:=15) (cs':=[iv M.aX,uv M.now,iv w,iv pp,iv gi,uv gg,iv hw,iv k,uv a0,uv a1,uv a2,uv a3,uv a4,iv code,uv ans,.slice (some ⟨i,0,none⟩) (q+1) bh]) z7 rfl rfl rfl rfl ao ?_
       refine wk ?_
       exact hQ _ _ _ (cs++[iv ci,uv cg]) (by simp[T.aj,q89]) (c7.trans uH.set) aF (.row i _ _ hB7 (by show i<h7.n;exact hi7) ((aC ah).trans hb7)) (by simp[hcs];omega)
   have X7:aw h5.n h5 (ai h6 (.cells [iv 0,uv 0] 38 true)):=X6.trans (aw.new _ ah);have g8:(ai h6 (.cells [iv 0,uv 0] 38 true)).b.get h6.n=some (.cells [iv 0,uv 0] 38 true):=az _ _;have n7:(ai h6 (.cells [iv 0,uv 0] 38 true)).n=h6.n+1:=rfl;have g77:(ai h6 (.cells [iv 0,uv 0] 38 true)).b.get h5.n=some (.cells [.slice la1 M3.ps[q].ring.length lc1,.slice la2 M3.ps[q].next.length lc2,.slice la3 M3.ps[q].runs.length lc3,iv M3.ps[q].left,uv M3.ps[q].turns] 113 true):=(aK _ ah).trans g7;have ww:=mW V7_11;refine wk ?_;generalize ai h6 (.cells [iv 0,uv 0] 38 true)=h7 at X7 g8 n7 g77 ⊢;have crun:=ay (off:=2) (show h5.n<h7.n by omega) g77 rfl;have hr1:=q3.runs q aT;by_cases hru:M3.ps[q].runs=[];· rw[hru]at crun;have ww:=mW (aN Qj @cF.{0});refine wk ?_;refine fin _ h7 0 0 X7 ah g8 (by simp[T.aj,g4]) aA (by simp[T.aj,f89]) _ fun fr' v' h' cs' p89 cc zz oo hl=>?_;have ww:=mW (aN W7 @wq);refine wk ?_;exact⟨M3.ps.length-(q+1),ah,q+1,v',cs',ah,rfl,aA,cc,zz,oo,hl⟩
   · obtain⟨gg',hgg⟩:∃ g',M3.ps[q].runs=[g']:=by
       match h:M3.ps[q].runs,hr1,hru with
       | [g'],_,_=>exact⟨g',rfl⟩
       | [],_,hn=>exact absurd rfl hn
       | _::_::_,hl,_=>simp at hl
     have hocc:0<dS M3.all M3.ps gg':=by have:=mH (all:=M3.all) (z:=gg') aT;rw[hgg]at this;simp at this;omega
     have hgl:=q3.lt gg' hocc;have rr:=pr.runs.r;rw[le3,hgg]at rr;obtain⟨ri,ro,rfl,hib,hcell⟩:=rr.at_ (k:=0) an;simp only[hJ,cj]at hcell;have hcell7:=aD X7 hib hcell;have s7:=s5.ext X7;rw[hgg]at crun;have ww:=mW (aN (aN Qj @bj0) (aN @dn.{0} @cF.{0}));refine wk ?_;refine pS s7 hgl fun h8 x8=>?_;have n8:=x8.n;have g88:=x8.cY g8;refine wk ?_;refine aM (off:=0) (cs':=[iv gg',uv M3.gs[gg'].gen]) g88 rfl rfl rfl rfl ao ?_;refine wk ?_;refine⟨aQ _,?_⟩;refine fin _ _ (gg':Int) (M3.gs[gg'].gen:Int) ((X7.jI x8).trans (aw.set _ ah)) (by show h6.n<h8.n;omega) aF (by simp[T.aj,g4]) aA (by simp[T.aj,f89]) _ fun fr' v' h' cs' p89 cc zz oo hl=>?_;have ww:=mW (aN W7 @wq);refine wk ?_;exact⟨M3.ps.length-(q+1),ah,q+1,v',cs',ah,rfl,aA,cc,zz,oo,hl⟩
 · obtain rfl:q=M3.ps.length:=ah;have r16:av h5 (ad b4 0) 16=some [iv M.aX,uv M.now,iv w,iv pp,iv gi,uv gg,iv hw,iv k,uv a0,uv a1,uv a2,uv a3,uv a4,iv code,uv ans,rv]:=aq (by have:=k3.n;omega) z5 rfl rfl;obtain⟨ra,rc,hrv⟩:=aak ow5;subst hrv;have ww:=mW W7;refine wk ?_;refine aM (off:=0) (cs':=[iv M.aX,uv M.now,iv w,iv pp,iv gi,uv gg,iv hw,iv k,uv a0,uv a1,uv a2,uv a3,uv a4,iv code,uv ans,.slice ra M3.ps.length rc]) z5 rfl rfl rfl rfl ao ?_;obtain⟨s6,K6⟩:=stC _ _ (c5.trans (uH.set (k:=.cells [iv M.aX,uv M.now,iv w,iv pp,iv gi,uv gg,iv hw,iv k,uv a0,uv a1,uv a2,uv a3,uv a4,iv code,uv ans,.slice ra M3.ps.length rc] 46 true))) aF;have r17:av (aO h5 b4 (.cells [iv M.aX,uv M.now,iv w,iv pp,iv gi,uv gg,iv hw,iv k,uv a0,uv a1,uv a2,uv a3,uv a4,iv code,uv ans,.slice ra M3.ps.length rc] 46 true)) ⟨b4,0,none⟩ 16=some [iv M.aX,uv M.now,iv w,iv pp,iv gi,uv gg,iv hw,iv k,uv a0,uv a1,uv a2,uv a3,uv a4,iv code,uv ans,.slice ra M3.ps.length rc]:=aq (by show b4<h5.n;have:=k3.n;omega) aF rfl rfl;refine wk ?_;exact hK _ ra rc V3 _ s6 K6 ⟨_,_,_,_,_,_,_,_,_,_,_,_,_,_,rfl⟩
def V7_60:=(aN (aN (aN @sX @uF) (aN @rZ @oh)) (aN (aN @nY @n_) (aN @nW @oB)))
def V7_29:=(aN (aN (aN @sX @uF) (aN @rZ @oh)) (aN (aN @nY @n_) (aN @nW @ot)))
theorem L_ {E:Env}{t:TypeId}{c:Bool}{a:Addr}{K:Value→Prop}(ht:xq E t=true):cH E .eql t c (.pointer (some a)) (.pointer none) K=K (.bool false):=by
 unfold xq at ht;split at ht
 ·rename_i e hu;have:eS E .eql t (.pointer (some a)) (.pointer none)=some (.bool false):=by simp[eS,gw,nP,hu]
  simp only[cH,this,bu]
 ·cases ht
theorem Rf:∀ {c:Bool}{a:Addr}{K:Value→Prop},cH env .eql 32 c (.pointer (some a)) (.pointer none) K=K (.bool false):=L_ c_
theorem vZ {a:Ad}{V:VD}{h:ak}{M:MD}{K:Value→ak→Prop}(s:St a V h M) (hp:0<M.ps.length) (hK:K (.bool false) h):cy env (.func 25) [mp a] h K:=by unfold mp;refine F25 rfl ?_;have hne:¬((M.ps.length:Int)=0):=ah;have ww:=mW (aN @hne @Rf);refine wk ?_;exact hK
def EJ (kd p:Int) (n:Nat):Prop:=kd=2∨(kd=1∧0≤p∧p<(n:Int))
theorem Inv.tick {n:Nat}{M:MD}(I:Inv n M):Inv (n+1) { M with now:=M.now+1 } :=
 { I.mono (aL n) with q:=I.q.of rfl rfl rfl rfl,now:=Nat.succ_le_succ I.now }
theorem Inv.act {n:Nat}{M:MD}{ac:Nat}(I:Inv n M):Inv n { M with aX:=ac }:={ I with q:=I.q.of rfl rfl rfl rfl }
theorem Q1 {a:Ad}{V:VD}{h:ak}{M:MD}{n:Nat}{kd p iw pk:Int}{K:Value→ak→Prop}(s:St a V h M) (I:Inv n M) (hn:n≤299) (hac:M.aX<1000000) (hpr2:M.cfg.cG.length≤1000000) (hbl:∀ p∈M.cfg.cG,p.length≤50000) (hps:0<M.ps.length)
  (hK1:EJ kd p M.ps.length→∀ ev' ra rc M' V' h',Inv (n+1) M'→M'.cfg=M.cfg→M'.aX=M.aX+1→St a V' h' M'→Kp (own a V) (own a V') h h'→EvO M.aX ra M.ps.length rc ev'→K (.tuple #[.agg ⟨ev'⟩,iv 0]) h')
  (hK2:¬EJ kd p M.ps.length→∀ h',aw h.n h h'→K (.tuple #[.agg ⟨ev0⟩,iv 2]) h'):cy env (.func 7) [mp a,.agg ⟨[iv kd,iv p,iv iw,iv pk]⟩] h K:=by
 unfold mp at *
 refine F7 rfl ?_
 have ww:=mW V7_60
 refine wk ?_
 obtain⟨h1,eh1⟩:=gz (ai (ai h (.cells [iv kd,iv p,iv iw,iv pk] 29 true)) (.cells [iv 0,uv 0,iv 0,iv 0,iv 0,uv 0,iv 0,iv 0,uv 0,uv 0,uv 0,uv 0,uv 0,iv 0,uv 0,nS] 46 true))
 have X1:aw h.n h h1:=eh1▸((aw.new _ a_).trans (aw.new _ (aL _)))
 have g3:h1.b.get h.n=some (.cells [iv kd,iv p,iv iw,iv pk] 29 true):=eh1▸((aK _ (by show h.n<h.n+1;omega)).trans (az _ _))
 have g4:h1.b.get (h.n+1)=some (.cells [iv 0,uv 0,iv 0,iv 0,iv 0,uv 0,iv 0,iv 0,uv 0,uv 0,uv 0,uv 0,uv 0,iv 0,uv 0,nS] 46 true):=eh1▸(az _ _)
 have n1:h1.n=h.n+2:=eh1▸rfl
 show JY.wp env 114 none _ (ai (ai h (.cells [iv kd,iv p,iv iw,iv pk] 29 true)) (.cells [iv 0,uv 0,iv 0,iv 0,iv 0,uv 0,iv 0,iv 0,uv 0,uv 0,uv 0,uv 0,uv 0,iv 0,uv 0,nS] 46 true)) _
 rw[eh1]
 have s1:=s.ext X1
 have K1:Kp (own a V) (own a V) h h1:=Kp.ext X1
 have no:∀ j,h.n≤j→¬own a V j:=fun j hj q=>absurd (s.lt _ q) ah
 have r3:av h1 (ad h.n 0) 4=some [iv kd,iv p,iv iw,iv pk]:=aq ah g3 rfl rfl
 have fin:∀ (fr:Go.Ev.Fr) M' V' h' ev,EJ kd p M.ps.length→Inv (n+1) M'→M'.cfg=M.cfg→M'.aX=M.aX→St a V' h' M'→Kp (own a V) (own a V') h h'→Vl ev→h.n+1<h'.n→h'.b.get (h.n+1)=some (.cells ev 46 true)→¬own a V' (h.n+1)→fr.get 0=some (mp a)→fr.get 4=some (pt (h.n+1) 0)→JI.wp env 114 none fr h' (cW env [.cell 4 46,.tmp 5] K):=fun fr M' V' h' ev hd I' c' a' s' k' he hl g' o' q0 q4=>by refine Uw s' k' I' ah q0 q4 g' he hl o' (aL _) fun ev' ra rc V'' h'' s'' k'' e1=>?_;exact hK1 hd ev' ra rc _ V'' h'' (I'.act (ac:=M'.aX+1)) c' (by show M'.aX+1=_;rw[a']) s'' k'' (by rw[a',I'.Su,c',← I.Su]at e1;exact e1)
 have mid:∀ fr:Go.Ev.Fr,fr.get 0=some (mp a)→fr.get 3=some (pt h.n 0)→fr.get 4=some (pt (h.n+1) 0)→fr.get 5=some (iv 0)→JY.wp env 114 none fr h1 (cW env [.cell 4 46,.tmp 5] K):=by
  intro fr f0 f3 f4 f5;unfold mp at f0;have ww:=mW V7_29;refine wk ?_;refine vZ s1 hps ?_;by_cases h2:kd=2
  ·have hnow:¬(1152921504606846976:Int)≤(M.now:Int):=by have:=I.now;omega
   have ww:=ww.a (aN @h2 @hnow);refine wk ?_;refine Po s1 I.q (I.L ah) I.t (by have:=I.Wb;omega) (by have:=I.now;omega) I.S.ee fun M' V' h' r s' k'=>?_;have n':=k'.n;have y4:=(k'.get (h.n+1) ah (no _ ah)).trans g4;have o4:¬own a V' (h.n+1):=fun q=>no _ ah (k'.own _ ah q);refine wk ?_;refine aM (off:=2) (cs':=[iv 0,uv 0,iv 7,iv 0,iv 0,uv 0,iv 0,iv 0,uv 0,uv 0,uv 0,uv 0,uv 0,iv 0,uv 0,nS]) y4 rfl rfl rfl rfl ao ?_;have s2:=s'.loc (cs':=[iv 0,uv 0,iv 7,iv 0,iv 0,uv 0,iv 0,iv 0,uv 0,uv 0,uv 0,uv 0,uv 0,iv 0,uv 0,nS]) y4 o4;refine wk ?_;exact fin _ M' V' _ _ (.inl h2) (I.tick.run r) r.same.cfg r.same.aX s2 ((K1.trans k').loc ah) ⟨7,0,0,0,0,0,0,0,0,0,0,0,0,rfl⟩ (by show h.n+1<h'.n;omega) aF o4 (by simp[T.aj,f0,mp]) (by simp[T.aj,f4])
  by_cases hd:kd=1∧0≤p∧p<(M.ps.length:Int)
  ·obtain⟨rfl,hp0,hp1⟩:=hd;obtain⟨pp,rfl⟩:=zm hp0;have hdone:EJ 1 (pp:Int) M.ps.length:=.inr ⟨rfl,hp0,hp1⟩;have hpp:pp<M.ps.length:=ah;obtain⟨w,hv,ew,pr,_,_,cr,_,_,_⟩:=s1.Gt hpp;obtain⟨la,lc,le,_⟩:=pr.runs.cut;rw[le]at cr;by_cases hru:M.ps[pp].runs=[];·rw[hru]at cr;have ww:=ww.a (aN (aN @hp1 @cr) @cF.{0});refine wk ?_;refine C3 s1 I.q (I.L ah) hpp hru fun ev M' V' h' he S q' L' s' k'=>?_;have n':=k'.n;have y4:=(k'.get (h.n+1) ah (no _ ah)).trans g4;have o4:¬own a V' (h.n+1):=fun q=>no _ ah (k'.own _ ah q);obtain⟨w,q1,q2,q3,q4,q5,q6,q7,q8,q9,q10,q11,q12,rfl⟩:=id he;refine wk ?_;refine aM (off:=0) (cs':=[iv 0,uv 0,iv w,iv q1,iv q2,uv q3,iv q4,iv q5,uv q6,uv q7,uv q8,uv q9,uv q10,iv q11,uv q12,nS]) y4 rfl rfl rfl rfl ao ?_;have s2:=s'.loc (cs':=[iv 0,uv 0,iv w,iv q1,iv q2,uv q3,iv q4,iv q5,uv q6,uv q7,uv q8,uv q9,uv q10,iv q11,uv q12,nS]) y4 o4;refine wk ?_;exact fin _ M' V' _ _ hdone ((I.of S q' L'.lv L'.ref).mono (aL n)) S.cfg S.aX s2 ((K1.trans k').loc ah) he (by show h.n+1<h'.n;omega) aF o4 (by simp[T.aj,f0,mp]) (by simp[T.aj,f4])
   ·obtain⟨g,hg⟩:∃ g,M.ps[pp].runs=[g]:=by
     match h:M.ps[pp].runs,I.q.runs pp hpp,hru with
     | [g'],_,_=>exact⟨g',rfl⟩
     | [],_,hn=>exact absurd rfl hn
     | _::_::_,hl,_=>simp at hl
    rw[hg]at cr;have ww:=ww.a (aN (aN @hp1 @cr) (aN @dn.{0} @cF.{0}));refine wk ?_;refine step_ret s1 I ah hpr2 hbl hpp hg fun ev M' V' h' he nc s' k'=>?_;have n':=k'.n;have y4:=(k'.get (h.n+1) ah (no _ ah)).trans g4;have o4:¬own a V' (h.n+1):=fun q=>no _ ah (k'.own _ ah q);obtain⟨w,q1,q2,q3,q4,q5,q6,q7,q8,q9,q10,q11,q12,rfl⟩:=id he;refine wk ?_;refine aM (off:=0) (cs':=[iv 0,uv 0,iv w,iv q1,iv q2,uv q3,iv q4,iv q5,uv q6,uv q7,uv q8,uv q9,uv q10,iv q11,uv q12,nS]) y4 rfl rfl rfl rfl ao ?_;have s2:=s'.loc (cs':=[iv 0,uv 0,iv w,iv q1,iv q2,uv q3,iv q4,iv q5,uv q6,uv q7,uv q8,uv q9,uv q10,iv q11,uv q12,nS]) y4 o4;refine wk ?_;exact fin _ M' V' _ _ hdone nc.inv nc.cfg nc.aX s2 ((K1.trans k').loc ah) he (by show h.n+1<h'.n;omega) aF o4 (by simp[T.aj,f0,mp]) (by simp[T.aj,f4])
  ·have rQ:¬EJ kd p M.ps.length:=fun q=>by
    rcases q with q|q;·exact h2 q
    ·exact hd q
   have bx:iI h1 (h.n+1) [iv 0,uv 0,iv 0,iv 0,iv 0,uv 0,iv 0,iv 0,uv 0,uv 0,uv 0,uv 0,uv 0,iv 0,uv 0,nS] 46:=⟨ah,g4⟩;have bx':=bx.set (cs':=[iv 0,uv 0,iv 0,iv 0,iv 0,uv 0,iv 0,iv 0,uv 0,uv 0,uv 0,uv 0,uv 0,iv 0,uv 0,nS]);have cx:av { h1 with b:=h1.b.set (h.n+1) (.cells [iv 0,uv 0,iv 0,iv 0,iv 0,uv 0,iv 0,iv 0,uv 0,uv 0,uv 0,uv 0,uv 0,iv 0,uv 0,nS] 46 true) } ⟨h.n+1,0,none⟩ 16=some [iv 0,uv 0,iv 0,iv 0,iv 0,uv 0,iv 0,iv 0,uv 0,uv 0,uv 0,uv 0,uv 0,iv 0,uv 0,nS]:=aq bx'.lt bx'.get rfl rfl;have XZ:aw h.n h { h1 with b:=h1.b.set (h.n+1) (.cells [iv 0,uv 0,iv 0,iv 0,iv 0,uv 0,iv 0,iv 0,uv 0,uv 0,uv 0,uv 0,uv 0,iv 0,uv 0,nS] 46 true) }:=X1.trans (aw.set _ (aL _));by_cases h1':kd=1
   ·by_cases hp0:p<0;·have ww:=ww.a (aN (aN @h2 @h1') @hp0);refine wk ?_;refine fa (off:=0) (cs':=[iv 0,uv 0,iv 0,iv 0,iv 0,uv 0,iv 0,iv 0,uv 0,uv 0,uv 0,uv 0,uv 0,iv 0,uv 0,nS]) g4 rfl rfl rfl rfl ao ?_;have ww:=mW W7;refine wk ?_;exact hK2 rQ _ XZ
    ·have hpl:(M.ps.length:Int)≤p:=by have:¬(0≤p∧p<(M.ps.length:Int)):=fun q=>hd ⟨h1',q⟩;omega
     have ww:=ww.a (aN (aN @h2 @h1') (aN @hp0 @hpl));refine wk ?_;refine fa (off:=0) (cs':=[iv 0,uv 0,iv 0,iv 0,iv 0,uv 0,iv 0,iv 0,uv 0,uv 0,uv 0,uv 0,uv 0,iv 0,uv 0,nS]) g4 rfl rfl rfl rfl ao ?_;have ww:=mW W7;refine wk ?_;exact hK2 rQ _ XZ
   ·have ww:=ww.a (aN @h2 @h1');refine wk ?_;refine fa (off:=0) (cs':=[iv 0,uv 0,iv 0,iv 0,iv 0,uv 0,iv 0,iv 0,uv 0,uv 0,uv 0,uv 0,uv 0,iv 0,uv 0,nS]) g4 rfl rfl rfl rfl ao ?_;have ww:=mW W7;refine wk ?_;exact hK2 rQ _ XZ
 exact mid _ (by simp[T.aj,mp]) aA aA aA
set_option maxHeartbeats 400000
def y_ (v:Value) (j:Nat):Prop:=∃ n,v=.slice (some ⟨j,0,none⟩) n bh
def GR (B:Nat) (h:ak) (e:TypeId) (v:Value) (rows:List (List Value)):Prop :=
 (v=.slice none 0 0∧rows=[])∨∃ i,v=.slice (some ⟨i,0,none⟩) rows.length bh∧B≤i∧i<h.n∧h.b.get i=some (.cells rows.flatten e false)
theorem GR.nil {B:Nat}{h:ak}{e:TypeId}:GR B h e (.slice none 0 0) []:=.inl ⟨rfl,rfl⟩
theorem GR.bM {B:Nat}{h h':ak}{e:TypeId}{v:Value}{rows:List (List Value)}(g:GR B h e v rows) (hn:h.n≤h'.n) (hk:∀ j,j<h.n→y_ v j→h'.b.get j=h.b.get j):GR B h' e v rows:=by
 rcases g with g|⟨i,e1,h1,h2,h3⟩;·exact .inl g
 ·exact .inr ⟨i,e1,h1,bX h2 hn,(hk i h2 ⟨_,e1⟩).trans h3⟩
theorem GR.ext {B:Nat}{h h':ak}{e:TypeId}{v:Value}{rows:List (List Value)}(g:GR B h e v rows) (x:aw h.n h h'):GR B h' e v rows:=g.bM x.n fun j hj _=>x.get j hj
theorem GR.lt {B:Nat}{h:ak}{e:TypeId}{v:Value}{rows:List (List Value)}(g:GR B h e v rows) {j:Nat}(r:y_ v j):B≤j∧j<h.n∧∃ cs,h.b.get j=some (.cells cs e false):=by
 obtain⟨n,rfl⟩:=r;rcases g with ⟨g,_⟩|⟨i,e1,h1,h2,h3⟩;·cases g
 ·cases e1;exact⟨h1,h2,_,h3⟩
theorem GR.sl {B:Nat}{h:ak}{e:TypeId}{v:Value}{rows:List (List Value)}(g:GR B h e v rows):∃ a c,v=.slice a rows.length c:=by
 rcases g with ⟨g,rfl⟩|⟨i,e1,_⟩;·exact⟨_,_,g⟩
 ·exact⟨_,_,e1⟩
theorem GR.one {B:Nat}{h:ak}{e:TypeId}{v:Value}{rows:List (List Value)}(g:GR B h e v rows):aE v=true∧v.cells.toList=[v]:=by obtain⟨a,c,rfl⟩:=g.sl;exact⟨rfl,rfl⟩
section
variable {K:Value→ak→Prop}[iJ K]
theorem oO {B j sz:Nat}{e:TypeId}{s:Value}{h:ak}{rows:List (List Value)}{new:List Value}(g:GR B h e s rows) (hB:B≤h.n) (hj:j=h.n) (hr:∀ r∈rows,r.length=sz) (hn:new.length=sz) (hone:new.all aE=true) (hl:rows.length+1≤1000000) (hz:sz≠0)
   (k:∀ h',GR B h' e (.slice (some ⟨h.n+1,0,none⟩) (rows.length+1) bh) (rows++[new])→h'.n=h.n+2→(∀ i,i<h.n→¬y_ s i→h'.b.get i=h.b.get i)→K (.slice (some ⟨h.n+1,0,none⟩) (rows.length+1) bh) h'):iK e sz s (.slice (some ⟨j,0,none⟩) 1 1) (ai h (.cells new e true)) K:=by
 subst hj
 have hnew:firstCells (ai h (.cells new e true)) sz 1 (.slice (some ⟨h.n,0,none⟩) 1 1)=some new:=by simp only[firstCells,fk];exact aV hn
 have hfl:=gU rows hr
 have mk:∀ h',h'.n=h.n+2→h'.b.get (h.n+1)=some (.cells (rows.flatten++new) e false)→GR B h' e (.slice (some ⟨h.n+1,0,none⟩) (rows.length+1) bh) (rows++[new]):=fun h' e1 e2 =>
   .inr ⟨h.n+1,an,ah,ah,by rw[e2];simp⟩
 rcases g with ⟨rfl,rfl⟩|⟨i,rfl,h1,h2,h3⟩
 · simp only[iK,lenOf];refine⟨⟨ah,.inr ao⟩,fun h0=>absurd h0 ao,fun _=>?_⟩;rw[hnew,bu];refine⟨hone,?_⟩;have:bW (ai h (.cells new e true)) e sz none 0 0 1 new=some (.slice (some ⟨h.n+1,0,none⟩) 1 bh,ai (ai h (.cells new e true)) (.cells ([]++new) e false)):=by unfold bW;have f1:Nat.beq 0 fb=false:=rfl;have f2:Nat.beq 0 bh=false:=rfl;have f3:Nat.ble 1 0=false:=rfl;simp only[f1,f2,cond_false,firstCells,db,cond_true,cb,f3];rfl
   rw[this,fj];exact k _ (mk _ rfl (az _ _)) rfl fun i hi _=>(aK _ (by show i<h.n+1;omega)).trans (aK _ hi)
 · simp only[iK,lenOf];refine⟨⟨ah,.inr ao⟩,fun h0=>absurd h0 ao,fun _=>?_⟩;rw[hnew,bu];refine⟨hone,?_⟩;have hg:(ai h (.cells new e true)).b.get i=some (.cells rows.flatten e false):=(aK _ h2).trans h3;have:bW (ai h (.cells new e true)) e sz (some ⟨i,0,none⟩) rows.length bh 1 new=some (.slice (some ⟨h.n+1,0,none⟩) (rows.length+1) bh,ai { (ai h (.cells new e true)) with b:=(ai h (.cells new e true)).b.set i .dead } (.cells (rows.flatten++new) e false)):=by
     unfold bW;have f1:Nat.beq bh fb=false:=rfl;have f2:Nat.beq bh bh=true:=db _;have f3:Nat.ble ((rows.length+1)*sz) rows.flatten.length=false:=by
       cases hb:Nat.ble ((rows.length+1)*sz) rows.flatten.length with
       | true =>
         have:=fX hb
         rw[hfl,iN]at this
         omega
       | false=>rfl
     have f4:Nat.beq (rows.length*sz) rows.flatten.length=true:=by rw[hfl];exact db _
     simp only[f1,f2,hg,cond_false,cond_true,db,f3,f4];rfl
   rw[this,fj];refine k _ (mk _ rfl (az _ _)) rfl fun q hq hne=>?_;refine(aK _ (by show q<h.n+1;omega)).trans ?_;have hqi:q≠i:=fun e=>hne ⟨_,by rw[e]⟩;show T.get (T.set _ i _) q=_;rw[T.aR _ _ (bV hqi)];exact aK _ hq
end
structure LI (B:Nat) (h:ak) (b:Nat) (e:TypeId) (pre vs rest:List Value) (es:List TypeId) (rows:List (List (List Value))):Prop where
 get:h.b.get b=some (.cells (pre++(vs++rest)) e true)
 lt:b<h.n
 bB:B≤b
 l1:es.length=vs.length
 l2:rows.length=vs.length
 gr:∀ i (h1:i<vs.length) (h2:i<es.length) (h3:i<rows.length),GR B h es[i] vs[i] rows[i]
 dj:∀ i k (h1:i<vs.length) (h2:k<vs.length),i≠k→∀ j,y_ vs[i] j→¬y_ vs[k] j
def LO (b:Nat) (vs:List Value) (j:Nat):Prop:=j=b∨∃ i,∃ h:i<vs.length,y_ vs[i] j
section
variable {B b:Nat}{h h' h1:ak}{e:TypeId}{pre vs rest:List Value}{es:List TypeId}{rows:List (List (List Value))}
theorem LI.ext (L:LI B h b e pre vs rest es rows) (x:aw h.n h h'):LI B h' b e pre vs rest es rows :=
 { L with get:=(x.get b L.lt).trans L.get,lt:=bX L.lt x.n,gr:=fun i a c d=>(L.gr i a c d).ext x }
theorem LI.lo (L:LI B h b e pre vs rest es rows) {j:Nat}(o:LO b vs j):B≤j∧j<h.n:=by
 rcases o with rfl|⟨i,hi,r⟩;·exact⟨L.bB,L.lt⟩
 ·have:=(L.gr i hi (by rw[L.l1];exact hi) (by rw[L.l2];exact hi)).lt r;exact⟨this.1,this.2.1⟩
theorem LI.ne (L:LI B h b e pre vs rest es rows) {i j:Nat}(hi:i<vs.length) (r:y_ vs[i] j):j≠b:=fun q=>by obtain⟨_,_,cs,hc⟩:=(L.gr i hi (by rw[L.l1];exact hi) (by rw[L.l2];exact hi)).lt r;rw[q,L.get]at hc;injection hc with hc;injection hc with _ _ h3;cases h3
theorem LI.step (L:LI B h b e pre vs rest es rows) {i:Nat}(hi:i<vs.length) (hie:i<es.length) (hir:i<rows.length) (x:aw h.n h h1) {new:List Value}{n2:Nat}{h2:ak}(hn:h2.n=h1.n+2) (g:GR B h2 es[i] (.slice (some ⟨h1.n+1,0,none⟩) n2 bh) (rows[i]++[new])) (hk:∀ j,j<h1.n→¬y_ vs[i] j→h2.b.get j=h1.b.get j)
  {w:List Value}(hw:w=pre++(vs.set i (.slice (some ⟨h1.n+1,0,none⟩) n2 bh)++rest)) :
  LI B (aO h2 b (.cells w e true)) b e pre (vs.set i (.slice (some ⟨h1.n+1,0,none⟩) n2 bh)) rest es (rows.set i (rows[i]++[new]))∧Kp (LO b vs) (LO b (vs.set i (.slice (some ⟨h1.n+1,0,none⟩) n2 bh))) h (aO h2 b (.cells w e true))∧aw B h (aO h2 b (.cells w e true)):=by
 subst hw
 have xn:=x.n
 have lt:=L.lt
 have bM:∀ j,j<h.n→j≠b→¬y_ vs[i] j→(aO h2 b (.cells (pre++(vs.set i (.slice (some ⟨h1.n+1,0,none⟩) n2 bh)++rest)) e true)).b.get j=h.b.get j:=fun j hj h0 hr=>(aC h0).trans ((hk j ah hr).trans (x.get j hj))
 refine⟨⟨aF,by show b<h2.n;omega,L.bB,by rw[cS];exact L.l1,by simp[L.l2],fun k k1 k2 k3=>?_,fun k l k1 k2 hne j r1 r2=>?_⟩,⟨by show h.n≤h2.n;omega,fun j hj ho=>bM j hj (fun q=>ho (.inl q)) fun q=>ho (.inr ⟨i,hi,q⟩),fun j hj o=>?_⟩,⟨by show h.n≤h2.n;omega,fun j hj=>?_⟩⟩
 ·rw[cS]at k1;by_cases q:i=k;·subst q;simp only[cU];refine g.bM a_ fun j _ r=>aC fun q=>?_;obtain⟨_,r⟩:=r;cases r;omega
  ·simp only[cV q];refine(L.gr k k1 k2 (by rw[L.l2];exact k1)).bM (by show h.n≤h2.n;omega) fun j hj r=>bM j hj (L.ne k1 r) fun r'=>L.dj i k hi k1 q j r' r
 ·rw[cS]at k1 k2;by_cases q:i=k;·subst q;rw[cU]at r1;rw[cV hne]at r2;have:=((L.gr l k2 (by rw[L.l1];exact k2) (by rw[L.l2];exact k2)).lt r2).2.1;obtain⟨_,r1⟩:=r1;cases r1;omega
  ·rw[cV q]at r1;by_cases q2:i=l;·subst q2;rw[cU]at r2;have:=((L.gr k k1 (by rw[L.l1];exact k1) (by rw[L.l2];exact k1)).lt r1).2.1;obtain⟨_,r2⟩:=r2;cases r2;omega
   ·rw[cV q2]at r2;exact L.dj k l k1 k2 hne j r1 r2
 ·rcases o with rfl|⟨k,k1,r⟩;·exact .inl rfl
  ·rw[cS]at k1;by_cases q:i=k;·subst q;rw[cU]at r;obtain⟨_,r⟩:=r;cases r;omega
   ·rw[cV q]at r;exact .inr ⟨k,k1,r⟩
 ·by_cases hjn:j<h.n
  ·refine bM j hjn (fun q=>?_) fun r=>?_;·have:=L.bB;omega
   ·have:=((L.gr i hi hie hir).lt r).1;omega
  ·have aT:h.n<B:=ah;have:=L.bB;omega
def Et (b N:Nat) (vs:List Value) (j:Nat):Prop:=LO b vs j∨j<N
theorem Kp.KE {b N:Nat}{vs vs':List Value}{h h':ak}(k:Kp (LO b vs) (LO b vs') h h'):Kp (Et b N vs) (Et b N vs') h h' :=
 ⟨k.n,fun j hj ho=>k.get j hj fun o=>ho (.inl o),fun j hj o=>o.elim (fun o=>.inl (k.own j hj o)) .inr⟩
theorem LI.Dh (L:LI B h b e pre vs rest es rows) {i:Nat}(hi:i<vs.length) (x:aw h.n h h1) {h2:ak}(hk:∀ j,j<h1.n→¬y_ vs[i] j→h2.b.get j=h1.b.get j):h2.b.get b=some (.cells (pre++(vs++rest)) e true):=by have:=L.lt;have:=x.n;exact(hk b ah fun r=>L.ne hi r rfl).trans ((x.get b L.lt).trans L.get)
end
end Go.Proofs.YthjlppdnlahhoaaGreat
