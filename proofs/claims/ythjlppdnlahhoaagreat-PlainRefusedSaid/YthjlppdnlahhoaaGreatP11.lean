/- THE PLAIN MACHINE's FUNCTIONS, walked (11). Conditions: none beyond each theorem's own. -/
import Derived.Test.YthjlppdnlahhoaaGreatP10
set_option linter.unusedSimpArgs false
set_option linter.unusedVariables false
namespace Go.Proofs.YthjlppdnlahhoaaGreat
open Go.Ev
open Pl
set_option maxRecDepth 100000
set_option linter.defProp false
def abc:=@BD
set_option maxHeartbeats 4000000
theorem Gu:Int.toNat 1*1=1:=rfl
theorem bj2:Int.toNat 2*1=2:=rfl
theorem bj3:Int.toNat 3*1=3:=rfl
theorem bj4:Int.toNat 4*1=4:=rfl
theorem Lg {a:Ad}{V:VD}{h:ak}{M:MD}{f q:Nat}{g:Int}{c:Cj}{K:Value→ak→Prop}(s:St a V h M) (hf:f<M.ax.length) (hq:aB M.sh ⟨M.ax[f].oi,M.ax[f].og⟩=some q) (hql:q<M.sh.length) (hl:M.ax.length≤10000) (hc:M.cw<1000000) (hs:M.cfg.bP≤1000) (hsh:M.sh.length≤1000) (hca:Ke M.sh)
   (hin:∀ i∈M.fs,∃ hi:i<M.sh.length,M.sh[i].is=false) (hfl:M.fs.length≤1000)
   (hK1:∀ (e:Int) h',aw h.n h h'→K (iv e) h')
   (hK:∀ fl i (hi:i<M.sh.length) (x:SD) (sl ri:Int) V' h',M.fs=fl++[i]→x.par=⟨M.ax[f].oi,M.ax[f].og⟩→x.own=0→x.ee≠0→St a V' h' (({ M with fs:=fl,sh:=M.sh.set i ⟨M.sh[i].gen,true,x⟩ }:MD).rO M.ax[f].id g sl ⟨3,(i:Int),(M.sh[i].gen:Int),ri⟩)→Kp (own a V) (own a V') h h'→K (iv 0) h') :
   cy env (.func 136) [mp a,iv g,.agg ⟨c.cells⟩,iv f] h K:=by
 obtain⟨kd,a0,a1,a2,a3,a4⟩:=c
 simp only[Cj.cells]at *
 have X1:aw h.n h (ai h (.cells [iv kd,uv a0,uv a1,uv a2,uv a3,uv a4] 43 true)):=br
 have g1:(ai h (.cells [iv kd,uv a0,uv a1,uv a2,uv a3,uv a4] 43 true)).b.get h.n=some (.cells [iv kd,uv a0,uv a1,uv a2,uv a3,uv a4] 43 true):=az _ _
 have n1:(ai h (.cells [iv kd,uv a0,uv a1,uv a2,uv a3,uv a4] 43 true)).n=h.n+1:=rfl
 have no:¬own a V h.n:=fun o=>dy _ (s.lt _ o)
 have s1:=s.ext X1
 obtain⟨i0,c0,eV,hi,oi,mD,cA,cN⟩:=mg s1 hf
 have c5:=cN 5 2 ao
 simp only[KD.cells,mB,eh,iX,iH]at c5
 unfold mp at *
 refine F136 rfl ?_
 have ww:=mW (aN (aN W136 @mD) @c5)
 refine wk ?_
 have gz:(ai (ai h (.cells [iv kd,uv a0,uv a1,uv a2,uv a3,uv a4] 43 true)) (.cells [iv 0,uv 0] 38 true)).b.get (h.n+1)=some (.cells [iv 0,uv 0] 38 true):=az _ _
 refine aM (off:=0) (cs':=[iv M.ax[f].oi,uv M.ax[f].og]) gz rfl rfl rfl rfl ao ?_
 have X2:aw h.n h (aO (ai (ai h (.cells [iv kd,uv a0,uv a1,uv a2,uv a3,uv a4] 43 true)) (.cells [iv 0,uv 0] 38 true)) (h.n+1) (.cells [iv M.ax[f].oi,uv M.ax[f].og] 38 true)):=X1.trans ((aw.new _ (aL _)).trans (aw.set _ (aL _)))
 have g2:(aO (ai (ai h (.cells [iv kd,uv a0,uv a1,uv a2,uv a3,uv a4] 43 true)) (.cells [iv 0,uv 0] 38 true)) (h.n+1) (.cells [iv M.ax[f].oi,uv M.ax[f].og] 38 true)).b.get h.n=some (.cells [iv kd,uv a0,uv a1,uv a2,uv a3,uv a4] 43 true):=(aC ah).trans ((aK _ ah).trans g1)
 have r2:(aO (ai (ai h (.cells [iv kd,uv a0,uv a1,uv a2,uv a3,uv a4] 43 true)) (.cells [iv 0,uv 0] 38 true)) (h.n+1) (.cells [iv M.ax[f].oi,uv M.ax[f].og] 38 true)).b.get (h.n+1)=some (.cells [iv M.ax[f].oi,uv M.ax[f].og] 38 true):=aF
 have n2:(aO (ai (ai h (.cells [iv kd,uv a0,uv a1,uv a2,uv a3,uv a4] 43 true)) (.cells [iv 0,uv 0] 38 true)) (h.n+1) (.cells [iv M.ax[f].oi,uv M.ax[f].og] 38 true)).n=h.n+2:=rfl
 generalize aO (ai (ai h (.cells [iv kd,uv a0,uv a1,uv a2,uv a3,uv a4] 43 true)) (.cells [iv 0,uv 0] 38 true)) (h.n+1) (.cells [iv M.ax[f].oi,uv M.ax[f].og] 38 true)=h2 at X2 g2 r2 n2 ⊢
 have rr2:av h2 (ad (h.n+1) 0) 2=some [iv M.ax[f].oi,uv M.ax[f].og]:=aq ah r2 rfl rfl
 have ar2:av h2 (ad h.n 1) 5=some [uv a0,uv a1,uv a2,uv a3,uv a4]:=aq ah g2 rfl rfl
 refine wk ?_
 have X2z:aw h.n h (ai (ai h2 (.cells [iv 0,uv 0,iv 0,uv 0,uv 0,iv 0,uv 0,iv 0,iv 0,uv 0,iv 0] 168 true)) (.cells [uv 0,uv 0,uv 0,uv 0,uv 0] 41 true)):=X2.trans ((aw.new _ ah).trans (aw.new _ (by show h.n≤h2.n+1;omega)))
 have nz:(ai (ai h2 (.cells [iv 0,uv 0,iv 0,uv 0,uv 0,iv 0,uv 0,iv 0,iv 0,uv 0,iv 0] 168 true)) (.cells [uv 0,uv 0,uv 0,uv 0,uv 0] 41 true)).n=h2.n+2:=rfl
 have gz1:(ai (ai h2 (.cells [iv 0,uv 0,iv 0,uv 0,uv 0,iv 0,uv 0,iv 0,iv 0,uv 0,iv 0] 168 true)) (.cells [uv 0,uv 0,uv 0,uv 0,uv 0] 41 true)).b.get h2.n=some (.cells [iv 0,uv 0,iv 0,uv 0,uv 0,iv 0,uv 0,iv 0,iv 0,uv 0,iv 0] 168 true):=(aK _ (by show h2.n<h2.n+1;omega)).trans (az _ _)
 have gz2:(ai (ai h2 (.cells [iv 0,uv 0,iv 0,uv 0,uv 0,iv 0,uv 0,iv 0,iv 0,uv 0,iv 0] 168 true)) (.cells [uv 0,uv 0,uv 0,uv 0,uv 0] 41 true)).b.get (h2.n+1)=some (.cells [uv 0,uv 0,uv 0,uv 0,uv 0] 41 true):=az _ _
 have rz:(ai (ai h2 (.cells [iv 0,uv 0,iv 0,uv 0,uv 0,iv 0,uv 0,iv 0,iv 0,uv 0,iv 0] 168 true)) (.cells [uv 0,uv 0,uv 0,uv 0,uv 0] 41 true)).b.get (h.n+1)=some (.cells [iv M.ax[f].oi,uv M.ax[f].og] 38 true):=((aK _ (by show h.n+1<h2.n+1;omega)).trans (aK _ ah)).trans r2
 have gz0:(ai (ai h2 (.cells [iv 0,uv 0,iv 0,uv 0,uv 0,iv 0,uv 0,iv 0,iv 0,uv 0,iv 0] 168 true)) (.cells [uv 0,uv 0,uv 0,uv 0,uv 0] 41 true)).b.get h.n=some (.cells [iv kd,uv a0,uv a1,uv a2,uv a3,uv a4] 43 true):=((aK _ (by show h.n<h2.n+1;omega)).trans (aK _ ah)).trans g2
 generalize ai (ai h2 (.cells [iv 0,uv 0,iv 0,uv 0,uv 0,iv 0,uv 0,iv 0,iv 0,uv 0,iv 0] 168 true)) (.cells [uv 0,uv 0,uv 0,uv 0,uv 0] 41 true)=hz at X2z nz gz1 gz2 rz gz0 ⊢
 have s2:=s.ext X2z
 refine qY (r:=⟨M.ax[f].oi,M.ax[f].og⟩) s2 hsh hq hql hca fun h3 x3=>?_
 have n3:=x3.n
 have X3:=X2z.jI x3
 have g3:=x3.cY gz0
 have r3:=x3.cY rz
 have y1:=x3.cY gz1
 have y2:=x3.cY gz2
 have ar3:av h3 (ad h.n 1) 5=some [uv a0,uv a1,uv a2,uv a3,uv a4]:=aq ah g3 rfl rfl
 generalize iu M.sh ⟨M.ax[f].oi,M.ax[f].og⟩ M.sh[q].x M.sh.length=D
 have sA:(bt 50 (.agg ⟨[uv a0,uv a1,uv a2,uv a3,uv a4]⟩) (.agg ⟨[uv a0,uv a1,uv a2,uv a3,uv a4]⟩)=true)=True:=by simp[bt,bt.go]
 have ww:=ww.a @sA
 refine wk ?_
 refine aM (off:=0) (cs':=D.cells) y1 rfl rfl rfl rfl ao ?_
 have d4:(aO h3 h2.n (.cells D.cells 168 true)).b.get h2.n=some (.cells D.cells 168 true):=aF
 have g4:(aO h3 h2.n (.cells D.cells 168 true)).b.get (h2.n+1)=_:=(aC ah).trans y2
 have r4:(aO h3 h2.n (.cells D.cells 168 true)).b.get (h.n+1)=_:=(aC ah).trans r3
 have b4:(aO h3 h2.n (.cells D.cells 168 true)).b.get h.n=_:=(aC ah).trans g3
 have X4:aw h.n h (aO h3 h2.n (.cells D.cells 168 true)):=X3.trans (aw.set _ ah)
 have n4:(aO h3 h2.n (.cells D.cells 168 true)).n=h3.n:=rfl
 generalize aO h3 h2.n (.cells D.cells 168 true)=h4 at d4 g4 r4 b4 X4 n4 ⊢
 have ar4:av h4 (ad h.n 1) 5=some [uv a0,uv a1,uv a2,uv a3,uv a4]:=aq ah b4 rfl rfl
 refine wk ?_
 refine aM (off:=0) (cs':=[uv a0,uv a1,uv a2,uv a3,uv a4]) g4 rfl rfl rfl rfl ao ?_
 have d5:(aO h4 (h2.n+1) (.cells [uv a0,uv a1,uv a2,uv a3,uv a4] 41 true)).b.get h2.n=_:=(aC ah).trans d4
 have g5:(aO h4 (h2.n+1) (.cells [uv a0,uv a1,uv a2,uv a3,uv a4] 41 true)).b.get (h2.n+1)=some (.cells [uv a0,uv a1,uv a2,uv a3,uv a4] 41 true):=aF
 have r5:(aO h4 (h2.n+1) (.cells [uv a0,uv a1,uv a2,uv a3,uv a4] 41 true)).b.get (h.n+1)=_:=(aC ah).trans r4
 have b5:(aO h4 (h2.n+1) (.cells [uv a0,uv a1,uv a2,uv a3,uv a4] 41 true)).b.get h.n=_:=(aC ah).trans b4
 have X5:aw h.n h (aO h4 (h2.n+1) (.cells [uv a0,uv a1,uv a2,uv a3,uv a4] 41 true)):=X4.trans (aw.set _ ah)
 have n5:(aO h4 (h2.n+1) (.cells [uv a0,uv a1,uv a2,uv a3,uv a4] 41 true)).n=h4.n:=rfl
 generalize aO h4 (h2.n+1) (.cells [uv a0,uv a1,uv a2,uv a3,uv a4] 41 true)=h5 at d5 g5 r5 b5 X5 n5 ⊢
 have ar5:av h5 (ad h.n 1) 5=some [uv a0,uv a1,uv a2,uv a3,uv a4]:=aq ah b5 rfl rfl
 have ww:=ww.a @bj4
 refine wk ?_
 refine o_ (s.ext X5) hl hs fun e h6 x6=>?_
 have n6:=x6.n
 have X6:=X5.trans (x6.mono X5.n)
 have d6:=x6.cY d5
 have g6:=x6.cY g5
 have r6:=x6.cY r5
 by_cases h0:¬e=0
 · have ww:=ww.a @h0;refine wk ?_;exact hK1 _ _ X6
 obtain rfl:e=0:=lx.1 h0
 have s6:=s.ext X6
 have fin:∀ fr:Go.Ev.Fr,fr.get 0=some (mp a)→fr.get 1=some (iv g)→fr.get 3=some (iv f)→fr.get 9=some (pt (h.n+1) 0)→fr.get 11=some (pt (h2.n+1) 0)→¬a3<1→Gw.wp env 108 none fr h6 (cW env [.tmp 8] K):=by
   intro fr f0 f1 f3 f9 f11 ha3;unfold mp at f0;have rr6:av h6 (ad (h.n+1) 0) 2=some [iv M.ax[f].oi,uv M.ax[f].og]:=aq ah r6 rfl rfl;have X7:aw h.n h (ai h6 (.cells [iv 0,uv 0] 38 true)):=X6.trans (aw.new _ ah);have s7:=s6.new (.cells [iv 0,uv 0] 38 true);have gt:(ai h6 (.cells [iv 0,uv 0] 38 true)).b.get h6.n=some (.cells [iv 0,uv 0] 38 true):=az _ _;have n7:(ai h6 (.cells [iv 0,uv 0] 38 true)).n=h6.n+1:=rfl;have g7:(ai h6 (.cells [iv 0,uv 0] 38 true)).b.get (h2.n+1)=_:=(aK _ ah).trans g6;have r7:(ai h6 (.cells [iv 0,uv 0] 38 true)).b.get (h.n+1)=_:=(aK _ ah).trans r6;have ww:=ww.a (aN (aN @Gu @bj2) (aN @bj3 @dY));refine wk ?_;generalize ai h6 (.cells [iv 0,uv 0] 38 true)=h7 at X7 s7 gt n7 g7 r7 ⊢;have K7:Kp (own a V) (own a V) h h7:=Kp.ext X7;have not7:¬own a V h6.n:=fun o=>absurd (s6.lt _ o) ah;have no2:¬own a V (h2.n+1):=fun o=>absurd (s.lt _ o) ah;refine Gl (x:=⟨⟨M.ax[f].oi,M.ax[f].og⟩,IntKind.wrap .i64 a1,a2,a3,0,0⟩) s7 (fun i hi=>(hin i hi).1) hfl hsh (fun he h8 x8=>?_) fun fl i hi he V8 h8 s8 k8=>?_;· have n8:=x8.n;have gt8:=x8.cY gt;have rr8:av h8 (ad (h.n+1) 0) 2=some [iv M.ax[f].oi,uv M.ax[f].og]:=aq ah (x8.cY r7) rfl rfl;refine wk ?_;refine aM (off:=0) (cs':=[iv 0,uv 0]) gt8 rfl rfl rfl rfl ao ?_;have n9:(aO h8 h6.n (.cells [iv 0,uv 0] 38 true)).n=h8.n:=rfl;refine wk ?_;exact hK1 _ _ ((X7.jI x8).trans (aw.set (i:=h6.n) _ ah))
   have n8:=k8.n;have gt8:=(k8.get h6.n ah not7).trans gt;have not8:¬own a V8 h6.n:=fun o=>not7 (k8.own _ ah o);have no8:¬own a V8 (h2.n+1):=fun o=>no2 (k8.own _ ah o);refine wk ?_;refine aM (off:=0) (cs':=[iv i,uv M.sh[i].gen]) gt8 rfl rfl rfl rfl ao ?_;have s9:=s8.loc (cs':=[iv i,uv M.sh[i].gen]) gt8 not8;have k9:=(K7.trans k8).loc (j:=h6.n) (k:=.cells [iv i,uv M.sh[i].gen] 38 true) ah;have gt9:(aO h8 h6.n (.cells [iv i,uv M.sh[i].gen] 38 true)).b.get h6.n=some (.cells [iv i,uv M.sh[i].gen] 38 true):=aF;have g9:(aO h8 h6.n (.cells [iv i,uv M.sh[i].gen] 38 true)).b.get (h2.n+1)=_:=(aC ah).trans ((k8.get (h2.n+1) ah no2).trans g7);have n9:(aO h8 h6.n (.cells [iv i,uv M.sh[i].gen] 38 true)).n=h8.n:=rfl;generalize aO h8 h6.n (.cells [iv i,uv M.sh[i].gen] 38 true)=h9 at s9 k9 gt9 g9 n9 ⊢;have dt9:av h9 (ad h6.n 0) 2=some [iv i,uv M.sh[i].gen]:=aq ah gt9 rfl rfl;refine wk ?_;refine Ac (r:=⟨(i:Int),(M.sh[i].gen:Int)⟩) s9 hf hl hc fun sl ri V10 h10 s10 k10=>?_;refine wk ?_;exact hK fl i hi _ sl ri V10 h10 he rfl rfl (fun e=>by change a3=0 at e;omega) s10 (k9.trans k10)
 have ww:=mW (aN (aN @Gu @bj2) (aN @bj3 @bj4))
 refine wk ?_
 refine wN (fun _=>?_) (fun _=>?_)
 · refine wk ?_;exact hK1 _ _ X6
 refine wk ?_
 refine wN (fun _=>?_) (fun _=>?_)
 · refine wk ?_;exact hK1 _ _ X6
 refine wk ?_
 refine wN (fun _=>?_) (fun _=>?_)
 · refine wk ?_;exact hK1 _ _ X6
 refine wk ?_
 refine wN (fun _=>?_) (fun _=>?_)
 · refine wk ?_;exact hK1 _ _ X6
 refine wk ?_
 refine wN (fun _=>?_) (fun _=>?_)
 · refine wk ?_;exact hK1 _ _ X6
 refine wk ?_
 refine wN (fun _=>?_) (fun _=>?_)
 · refine wk ?_;exact hK1 _ _ X6
 refine wk ?_
 have ha3:¬a3<1:=by assumption
 have ww:=mW abc
 refine wk ?_
 refine u9 s6 hl fun b=>?_
 cases b with
 | true =>
   refine wk ?_
   exact hK1 _ _ X6
 | false =>
   refine wk ?_
   exact fin _ (by simp[T.aj,bY,mp]) (by simp[T.aj,bY]) (by simp[T.aj,bY]) aA aA ha3
end Go.Proofs.YthjlppdnlahhoaaGreat
