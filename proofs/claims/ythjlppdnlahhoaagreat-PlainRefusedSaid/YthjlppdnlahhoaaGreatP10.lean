/- THE PLAIN MACHINE's FUNCTIONS, walked (10). Conditions: none beyond each theorem's own. -/
import Derived.Test.YthjlppdnlahhoaaGreatP8
import Derived.Test.YthjlppdnlahhoaaGreatP9
set_option linter.unusedSimpArgs false
set_option linter.unusedVariables false
namespace Go.Proofs.YthjlppdnlahhoaaGreat
open Go.Ev
open Pl
set_option maxRecDepth 100000
set_option maxHeartbeats 4000000
theorem FP {a:Ad}{V:VD}{h:ak}{M:MD}{k:Nat}{am:Int}{K:Value→ak→Prop}(s:St a V h M) (hk:k<M.cl.length) (hr:M.cl[k].x.ref.length≤16) (ha:0≤am)
  (hK:∀ (e:Int) h',aw h.n h h'→(e=0→nd M.now M.cl[k].x.ref≠0)→K (iv e) h'):cy env (.func 151) [mp a,pt a.c (k*6+2),uv am] h K:=by
 unfold mp at *
 obtain⟨w,_,_,cr,cc,_⟩:=s.Bi hk
 have c2:=cc 2 ao
 have c4:=cc 4 ao
 simp only[Ob.cells,XW.cells,cu,cR]at c2 c4
 refine F151 rfl ?_
 by_cases h0:am=0
 ·subst h0;refine wk ?_;exact hK _ _ (aw.refl _ _) fun e=>by cases e
 by_cases hb:w.x.iP≤am
 ·have ww:=mW (aN @c2 @c4);refine wk ?_;exact hK _ _ (aw.refl _ _) fun e=>by cases e
 ·have ww:=mW (aN @c2 @c4);refine wk ?_;refine BU (RS.F cr.ref) a_ ah fun h3 x3=>?_;have n3:=x3.n;have c2':=aD x3 (s.lt _ uj) c2;by_cases ht:nO (M.now:Int) 0 M.cl[k].x.ref<am;·refine wk ?_;exact hK _ _ x3 fun e=>by cases e
  ·have rQ:nd (M.now:Int) M.cl[k].x.ref≠0:=fun e=>by rw[zn e]at ht;omega
   refine wk ?_;exact hK _ _ x3 fun _=>rQ
theorem E9 {a:Ad}{V:VD}{h:ak}{M:MD}{k:Nat}{am:Int}{K:Value→ak→Prop}(s:St a V h M) (hk:k<M.cl.length) (hr:M.cl[k].x.ref.length≤16) (hn:nd M.now M.cl[k].x.ref≠0)
  (hK:∀ (y:XD) V' h',y.dH=M.cl[k].x.dH→y.ref.length≤16→St a V' h' { M with cl:=M.cl.set k { M.cl[k]with x:=y } }→Kp (own a V) (own a V') h h'→K (dE []) h'):cy env (.func 152) [mp a,pt a.c (k*6+2),uv am] h K:=by
 unfold mp at *
 obtain⟨w,hwl,hw,cr,cc,_⟩:=s.Bi hk
 have c4:=cc 4 ao
 simp only[Ob.cells,XW.cells,cu,cR]at c4
 refine F152 rfl ?_
 have ww:=mW @c4
 refine wk ?_
 refine CK cr.ref ah fun v5 l5 h5 f5 x5 hlen _=>?_
 have n5:=x5.n
 rw[if_neg hn]at hlen
 have s5:=s.ext x5
 have r5:=f5.rs s.lt ah
 refine wk ?_
 obtain⟨w7,hwl7,hw7,cr7,_⟩:=s5.Bi hk
 obtain⟨_,_,_,ev,_⟩:=r5.c
 refine C6 s5 hk (j:=4) (w:=w7) (y:={ w7 with x:={ w7.x with ref:=v5 } }) (x:={ M.cl[k]with x:={ M.cl[k].x with ref:=l5 } }) (new:=[v5]) ah ⟨hwl7,hw7⟩ (by rw[ev];rfl) rfl rfl (by rw[ev];rfl) ao { cr7 with ref:=r5 } fun V8 h8 s8 k8 n8=>?_
 have hk8:k<(M.cl.set k { M.cl[k]with x:={ M.cl[k].x with ref:=l5 } }).length:=by simpa using hk
 obtain⟨w9,hwl9,hw9,cr9,cc9,_⟩:=s8.Bi hk8
 have c2:=cc9 2 ao
 simp only[Ob.cells,XW.cells,cu,cR]at c2
 have ww:=ww.a @c2
 refine wk ?_
 have e9:w9.x.iP=M.cl[k].x.iP:=by rw[cr9.iP];simp
 refine C6 s8 hk8 (j:=2) (w:=w9) (y:={ w9 with x:={ w9.x with iP:=IntKind.wrap .u64 (w9.x.iP-am) } }) (x:={ M.cl[k]with x:={ M.cl[k].x with ref:=l5,iP:=IntKind.wrap .u64 (w9.x.iP-am) } }) (new:=[uv (IntKind.wrap .u64 (w9.x.iP-am))]) ah ⟨hwl9,hw9⟩ rfl rfl rfl rfl ao ?_ fun V9 h9 s9 k9 n9=>?_
 ·have g:=cr9.gen;have i:=cr9.is;have p:=cr9.ee;have b:=cr9.dH;have r:=cr9.ref;simp only[cU]at g i p b r;exact⟨g,i,rfl,p,b,r⟩
 ·simp only[iD]at s9;refine wk ?_;exact hK { M.cl[k].x with ref:=l5,iP:=IntKind.wrap .u64 (w9.x.iP-am) } V9 h9 rfl (by show l5.length≤16;omega) s9 ((Kp.ext x5).trans (k8.trans k9))
theorem FR.pre {N j:Nat}{h:ak}{v:Value}{l:List RF}{x:RF}{K:Value→ak→Prop}[iJ K] (r:FR N h v l) (hN:N≤h.n) (hj:j=h.n) (hl:l.length≤5000)
   (k:∀ v' h',FR N h' v' (x::l)→aw N h h'→K v' h'):iK 103 2 (.slice (some ⟨j,0,none⟩) 1 1) v (ai h (.cells x.cells 103 true)) K:=by
 subst hj
 have X5:aw h.n h (ai h (.cells x.cells 103 true)):=br
 by_cases hL0:l=[]
 · subst hL0;cases r with
   | nil =>refine⟨⟨ao,.inl a_⟩,fun _=>?_,fun h=>absurd rfl h⟩;exact k _ _ (FR.lit (l:=[x]) (i:=h.n) hN (cK _) (by simpa using az _ _) an) (X5.mono hN)
   | row _ _ _ h4=>exact absurd rfl h4
   | lit _ _ _ h4=>exact absurd rfl h4
 · refine jL (n:=1) (m:=l.length) (cs:=x.cells) (new:=(l.map RF.cells).flatten) (by omega) (fun e=>by cases e) (by simp only[firstCells,fk];exact aV rfl) r.len (by intro e;exact hL0 (dq.1 e)) (by decide) (r.ext X5).first (RF.one l) ?_
   have:=FR.row (N:=N) (l:=x::l) (h:=ai (ai h (.cells x.cells 103 true)) (.cells (x.cells++(l.map RF.cells).flatten) 103 false)) (i:=h.n+1) ah (by simp[ai]) (az _ _) an;rw[dn,vV l.length 1]at this;exact k _ _ this ((X5.mono hN).trans (aw.new _ (by show N≤h.n+1;omega)))
theorem dY (x y:Int):(bt 50 (.agg ⟨[iv x,uv y]⟩) (.agg ⟨[iv x,uv y]⟩)=true)=True:=by simp[bt,bt.go]
theorem Uk {α:Type}{l:List (Ob α)}{x y:RR}{i j:Nat}(hi:aB l x=some i) (hj:aB l y=some j) (e:x≠y):i≠j:=fun q=>by subst q;obtain⟨_,h1,_,h2⟩:=aH.1 hi;obtain⟨_,h3,_,h4⟩:=aH.1 hj;exact e (by cases x;cases y;simp only at *;subst h1 h2 h3 h4;rfl)
theorem D_ {a:Ad}{V:VD}{h0 h:ak}{M:MD}{i j:Nat}{am:Int}{v:Value}{l:List RF}{fr:Go.Ev.Fr}{K:Value→ak→Prop}(s:St a V h M) (x:aw h0.n h0 h) (hil:i<M.cl.length) (hjl:j<M.cl.length) (hne:i≠j) (hr:kQ M.cl) (rQ:nd M.now M.cl[i].x.ref≠0) (rv:RS (own a V) 2 h v (l.map RF.cells)) (hl:l.length≤16)
  (g0:fr.get 0=some (mp a)) (g3:fr.get 3=some (uv am)) (g9:fr.get 9=some (pt a.c (i*6+2))) (g10:fr.get 10=some (pt a.c (j*6+2))) (g12:fr.get 12=some v)
  (hK:∀ cl V' h',wG cl M.cl→kQ cl→St a V' h' { M with cl:=cl }→Kp (own a V) (own a V') h0 h'→K (iv 0) h'):Iu.wp env 104 none fr h (cW env [.tmp 8] K):=by
 unfold mp at *
 obtain⟨w7,hwl7,hw7,cr7,_⟩:=s.Bi hjl
 obtain⟨_,_,_,ev,_⟩:=rv.c
 have ww:=mW EU
 refine wk ?_
 refine C6 s hjl (j:=4) (w:=w7) (y:={ w7 with x:={ w7.x with ref:=v } }) (x:={ M.cl[j]with x:={ M.cl[j].x with ref:=l } }) (new:=[v]) ah ⟨hwl7,hw7⟩ (by rw[ev];rfl) rfl rfl (by rw[ev];rfl) ao { cr7 with ref:=rv } fun V8 h8 s8 k8 n8=>?_
 have hk8:j<(M.cl.set j { M.cl[j]with x:={ M.cl[j].x with ref:=l } }).length:=by simpa using hjl
 obtain⟨w9,hwl9,hw9,cr9,cc9,_⟩:=s8.Bi hk8
 have c2:=cc9 2 ao
 simp only[Ob.cells,XW.cells,cu,cR]at c2
 have ww:=ww.a @c2
 refine wk ?_
 refine C6 s8 hk8 (j:=2) (w:=w9) (y:={ w9 with x:={ w9.x with iP:=IntKind.wrap .u64 (w9.x.iP+am) } }) (x:={ M.cl[j]with x:={ M.cl[j].x with ref:=l,iP:=IntKind.wrap .u64 (w9.x.iP+am) } }) (new:=[uv (IntKind.wrap .u64 (w9.x.iP+am))]) ah ⟨hwl9,hw9⟩ rfl rfl rfl rfl ao ?_ fun V9 h9 s9 k9 n9=>?_
 ·have g:=cr9.gen;have i:=cr9.is;have p:=cr9.ee;have b:=cr9.dH;have r:=cr9.ref;simp only[cU]at g i p b r;exact⟨g,i,rfl,p,b,r⟩
 simp only[iD]at s9
 refine wk ?_
 generalize hy:({ M.cl[j]with x:={ M.cl[j].x with ref:=l,iP:=IntKind.wrap .u64 (w9.x.iP+am) } }:Ob XD)=y at s9
 have hi9:i<(M.cl.set j y).length:=by simpa using hil
 have hgi:(M.cl.set j y)[i]=M.cl[i]:=cV (bV hne) _
 refine E9 (k:=i) s9 hi9 (by show (M.cl.set j y)[i].x.ref.length≤16;rw[hgi];exact hr i hil) (by show nd M.now (M.cl.set j y)[i].x.ref≠0;rw[hgi];exact rQ) fun z V10 h10 hb hl10 s10 k10=>?_
 have n10:=k10.n
 refine wk ?_
 have E1:wG (M.cl.set j y) M.cl:=wG.set hjl (by rw[← hy]) (by rw[← hy]) (by rw[← hy])
 have hgi':({ M with cl:=M.cl.set j y }:MD).cl[i]=M.cl[i]:=hgi
 refine hK _ V10 h10 ((wG.set (y:={ ({ M with cl:=M.cl.set j y }:MD).cl[i]with x:=z }) hi9 rfl rfl hb).trans E1) (fun q hq=>?_) s10 ((Kp.ext x).trans (k8.trans (k9.trans k10)))
 simp only[cJ]
 split
 ·exact hl10
 ·split;·rw[← hy];exact hl
  ·exact hr q (by simpa using hq)
theorem Ii {a:Ad}{V:VD}{h:ak}{M:MD}{x y:RR}{i j:Nat}{am:Int}{K:Value→ak→Prop}(s:St a V h M) (hl:M.cl.length≤1000) (hi:aB M.cl x=some i) (hj:aB M.cl y=some j) (hil:i<M.cl.length) (hjl:j<M.cl.length) (hr:kQ M.cl) (hcf:M.cfg.refs≤16) (ha:0≤am)
   (hK1:∀ (e:Int) h',aw h.n h h'→K (iv e) h')
   (hK:∀ cl V' h',wG cl M.cl→kQ cl→St a V' h' { M with cl:=cl }→Kp (own a V) (own a V') h h'→K (iv 0) h'):cy env (.func 135) [mp a,.agg ⟨x.cells⟩,.agg ⟨y.cells⟩,uv am] h K:=by
 unfold mp at *
 refine F135 rfl ?_
 have X2:aw h.n h (ai (ai h (.cells x.cells 38 true)) (.cells y.cells 38 true)):=(aw.new _ a_).trans (aw.new _ (aL _))
 have d5:av (ai (ai h (.cells x.cells 38 true)) (.cells y.cells 38 true)) ⟨h.n,0,none⟩ 2=some x.cells:=aG (h:=ai h (.cells x.cells 38 true)) br (cK _) (aV rfl)
 have d6:av (ai (ai h (.cells x.cells 38 true)) (.cells y.cells 38 true)) ⟨h.n+1,0,none⟩ 2=some y.cells:=aV rfl
 have n2:(ai (ai h (.cells x.cells 38 true)) (.cells y.cells 38 true)).n=h.n+2:=rfl
 have n1:(ai h (.cells x.cells 38 true)).n=h.n+1:=rfl
 obtain⟨xi,xg⟩:=x
 obtain⟨yi,yg⟩:=y
 simp only[RR.cells]at *
 have ww:=mW (aN EU @n1)
 refine wk ?_;refine wN (fun _=>?_) (fun _=>?_)<;>refine wk ?_
 · exact hK1 _ _ X2
 rename_i he
 have hne:i≠j:=Uk hi hj fun e=>he ⟨(RR.mk.inj e).1,(RR.mk.inj e).2⟩
 generalize ai (ai h (.cells [iv xi,uv xg] 38 true)) (.cells [iv yi,uv yg] 38 true)=h2 at X2 d5 d6 n2 ⊢
 have s2:=s.ext X2
 refine j_ s2 hl (r:=⟨xi,xg⟩) fun h3 x3=>?_
 have n3:=x3.n
 have s3:=s2.ext x3
 have d5':=aG x3 ah d5
 have d6':=aG x3 ah d6
 rw[hi]
 unfold fC
 have ww:=ww.a @dY
 refine wk ?_
 refine j_ s3 hl (r:=⟨yi,yg⟩) fun h4 x4=>?_
 have n4:=x4.n
 have s4:=s3.ext x4
 have d5'':=aG x4 ah d5'
 have d6'':=aG x4 ah d6'
 rw[hj]
 unfold fC
 have X4:aw h.n h h4:=X2.trans ((x3.mono ah).trans (x4.mono ah))
 refine wk ?_
 refine FP s4 hil (hr i hil) ha fun e h5 x5 rQ=>?_
 have n5:=x5.n
 have X5:aw h.n h h5:=X4.jI x5
 have s5:=s4.ext x5
 by_cases h0:¬e=0
 · have ww:=ww.a @h0;refine wk ?_;exact hK1 _ _ X5
 have h0:e=0:=lx.1 h0
 have hnd2:=rQ h0
 subst h0
 obtain⟨w,_,_,cr,cc,_⟩:=s5.Bi hjl
 have c2:=cc 2 ao
 have c4:=cc 4 ao
 simp only[Ob.cells,XW.cells,cu,cR]at c2 c4
 by_cases hbig:(4294967296:Int)<IntKind.wrap .u64 (w.x.iP+am)
 · have ww:=ww.a @c2;refine wk ?_;exact hK1 _ _ X5
 have ww:=ww.a (aN @c2 @c4)
 refine wk ?_
 have hrj:=hr j hjl
 refine CK cr.ref ah fun v6 l6 h6 f6 x6 _ hlen=>?_
 have hlen:=hlen rfl
 have n6:=x6.n
 have s6:=s5.ext x6
 have X6:aw h.n h h6:=X5.jI x6
 by_cases hl6:l6=[]
 · subst hl6;cases f6 with
   | row _ _ _ h=>exact absurd rfl h
   | lit _ _ _ h=>exact absurd rfl h
   | nil =>
     by_cases hrf:(0:Int)<(M.cfg.refs:Int);· have ww:=mW @cF.{0};refine wk ?_;refine FR.pre (N:=h5.n) (x:=⟨am,(M.now:Int)⟩) .nil n6 rfl an fun v7 h7 f7 x7=>?_;have n7:=x7.n;refine wk ?_;exact D_ (am:=am) (s5.ext (x6.trans x7)) (X5.trans ((x6.trans x7).mono ah)) hil hjl hne hr hnd2 (f7.rs s5.lt an) an (by simp[T.aj,bY,mp]) (by simp[T.aj,bY]) aA aA aA hK
     · have ww:=mW @cF.{0};refine wk ?_;exact hK1 _ _ X6
 · have hpos:0<l6.length:=oE.2 hl6;obtain⟨i5,t5,c5,rfl,hN5,hi5,hb5,up5⟩:=f6.rj hl6;have cl0:=gX (j:=0) (sz:=2) hb5 hi5 RF.hf hpos ao;have Fu:=gX (j:=1) (sz:=2) hb5 hi5 RF.hf hpos ao;simp only[RF.cells,cu,cR,cj,dO,cb]at cl0 Fu;by_cases hd:l6[0].at_≤(M.now:Int)
   · have ww:=mW (aN @cl0 @Fu);refine wk ?_;refine jc (l:=l6) (f:=RF.cells) (sz:=2) (k:=0) (j:=0) (y:=⟨IntKind.wrap .u64 (l6[0].am+am),l6[0].at_⟩) hb5 RF.hf hpos rfl rfl rfl rfl ao ?_;have f7:=up5 (l6.set 0 ⟨IntKind.wrap .u64 (l6[0].am+am),l6[0].at_⟩) an;obtain⟨h7,eh7⟩:=gz (aO h6 i5 (.cells ((l6.set 0 ⟨IntKind.wrap .u64 (l6[0].am+am),l6[0].at_⟩).map RF.cells).flatten 103 t5));have x7:aw h5.n h6 h7:=eh7▸(aw.set _ hN5);have n7:=x7.n;rw[eh7];try rw[eh7]at f7;try rw[eh7]at n7
     refine wk ?_;exact D_ (am:=am) (s5.ext (x6.trans x7)) (X5.trans ((x6.trans x7).mono ah)) hil hjl hne hr hnd2 (f7.rs s5.lt (by simp;omega)) (by simp;omega) (by simp[T.aj,bY,mp]) (by simp[T.aj,bY]) aA aA aA hK
   · by_cases hrf:(l6.length:Int)<(M.cfg.refs:Int);· have ww:=mW (aN @cl0 @Fu);refine wk ?_;refine FR.pre (N:=h5.n) (x:=⟨am,(M.now:Int)⟩) f6 n6 rfl ah fun v7 h7 f7 x7=>?_;have n7:=x7.n;refine wk ?_;exact D_ (am:=am) (s5.ext (x6.trans x7)) (X5.trans ((x6.trans x7).mono ah)) hil hjl hne hr hnd2 (f7.rs s5.lt (by simp;omega)) (by simp;omega) (by simp[T.aj,bY,mp]) (by simp[T.aj,bY]) aA aA aA hK
     · have ww:=mW (aN @cl0 @Fu);refine wk ?_;exact hK1 _ _ X6
theorem MY:1+Int.toNat 0*1=1:=rfl
theorem Is:1+Int.toNat 1*1=2:=rfl
theorem Iv:1+Int.toNat 2*1=3:=rfl
theorem ai3:1+Int.toNat 3*1=4:=rfl
theorem Mu {a:Ad}{V:VD}{h:ak}{M:MD}{f j:Nat}{g:Int}{c:Cj}{K:Value→ak→Prop}(s:St a V h M) (hf:f<M.ax.length) (hj:aB M.cl ⟨M.ax[f].oi,M.ax[f].og⟩=some j) (hjl:j<M.cl.length) (hl:M.ax.length≤10000) (hc:M.cw<1000000) (hs:M.cfg.bP≤1000) (hcl:M.cl.length≤1000) (hr:kQ M.cl)
   (hin:∀ i∈M.fc,∃ hi:i<M.cl.length,M.cl[i].is=false) (hfl:M.fc.length≤1000) (ha:0≤c.a1)
   (hK1:∀ (e:Int) h',aw h.n h h'→K (iv e) h')
   (hK:∀ fl i (hi:i<M.cl.length) cl (x:XD) (sl ri:Int) V' h',M.fc=fl++[i]→x.dH=0→wG cl (M.cl.set i ⟨M.cl[i].gen,true,x⟩)→kQ cl→St a V' h' (({ M with fc:=fl,cl:=cl }:MD).rO M.ax[f].id g sl ⟨2,(i:Int),(M.cl[i].gen:Int),ri⟩)→Kp (own a V) (own a V') h h'→K (iv 0) h') :
   cy env (.func 134) [mp a,iv g,.agg ⟨c.cells⟩,iv f] h K:=by
 obtain⟨kd,a0,a1,a2,a3,a4⟩:=c
 simp only[Cj.cells]at *
 have X1:aw h.n h (ai h (.cells [iv kd,uv a0,uv a1,uv a2,uv a3,uv a4] 43 true)):=br
 have g1:(ai h (.cells [iv kd,uv a0,uv a1,uv a2,uv a3,uv a4] 43 true)).b.get h.n=some (.cells [iv kd,uv a0,uv a1,uv a2,uv a3,uv a4] 43 true):=az _ _
 have n1:(ai h (.cells [iv kd,uv a0,uv a1,uv a2,uv a3,uv a4] 43 true)).n=h.n+1:=rfl
 have no:¬own a V h.n:=fun o=>dy _ (s.lt _ o)
 have s1:=s.ext X1
 obtain⟨i0,c0,eV,hi,oi,mD,cA,cN⟩:=mg s1 hf
 have c5:=cN 5 2 ao
 simp only[KD.cells,mB,eh,iX,iH]at c5
 unfold mp at *
 refine F134 rfl ?_
 have ww:=mW (aN (aN @Is @Iv) (aN @mD @c5))
 refine wk ?_
 generalize ai h (.cells [iv kd,uv a0,uv a1,uv a2,uv a3,uv a4] 43 true)=h1 at X1 g1 n1 s1 hi mD cA cN c5 ⊢
 refine j_ s1 hcl (r:=⟨M.ax[f].oi,M.ax[f].og⟩) fun h2 x2=>?_
 have n2:=x2.n
 rw[hj]
 unfold fC
 have s2:=s1.ext x2
 have g2:=x2.cY g1
 refine wk ?_
 refine o_ s2 hl hs fun e h3 x3=>?_
 have n3:=x3.n
 have s3:=s2.ext x3
 have g3:=x3.cY g2
 have X3:aw h.n h h3:=X1.trans ((x2.mono ah).trans (x3.mono ah))
 by_cases h0:¬e=0
 · have ww:=ww.a @h0;refine wk ?_;exact hK1 _ _ X3
 obtain rfl:e=0:=lx.1 h0
 refine wk ?_
 refine FP s3 hjl (hr j hjl) ha fun e h4 x4 rQ=>?_
 have n4:=x4.n
 have s4:=s3.ext x4
 have g4:=x4.cY g3
 have X4:aw h.n h h4:=X3.jI x4
 by_cases h0:¬e=0
 · have ww:=ww.a @h0;refine wk ?_;exact hK1 _ _ X4
 obtain rfl:e=0:=lx.1 h0
 have rQ:=rQ rfl
 refine wk ?_
 refine u9 s4 hl fun b=>?_
 cases b with
 | true =>
   refine wk ?_
   exact hK1 _ _ X4
 | false =>
 obtain⟨w,hwl,hw,cr,cc,_⟩:=s4.Bi hjl
 have c3:=cc 3 ao
 simp only[Ob.cells,XW.cells,cu,cR]at c3
 have ww:=ww.a @c3
 refine wk ?_
 have fr:FR h4.n (ai h4 (.cells [uv a1,uv M.now] 103 true)) (.slice (some ⟨h4.n,0,none⟩) 1 1) [⟨a1,(M.now:Int)⟩]:=FR.lit (l:=[⟨a1,(M.now:Int)⟩]) a_ (cK _) (az _ _) an
 obtain⟨h5,eh5⟩:=gz (ai (ai h4 (.cells [uv a1,uv M.now] 103 true)) (.cells [iv 0,uv 0] 38 true))
 have X5:aw h4.n h4 h5:=eh5▸((aw.new _ a_).trans (aw.new _ (aL _)))
 have r5:=(fr.rs s4.lt an).ext (aw.new (B:=h4.n+1) (.cells [iv 0,uv 0] 38 true) a_)
 have s5:=s4.ext X5
 have gt:h5.b.get (h4.n+1)=some (.cells [iv 0,uv 0] 38 true):=eh5▸(az _ _)
 have n5:h5.n=h4.n+2:=eh5▸rfl
 have g5:=X5.cY g4
 have K5:Kp (own a V) (own a V) h _:=Kp.ext (X4.jI X5)
 have X05:=X4.jI X5
 change cy env (.func 21) _ (ai (ai h4 (.cells [uv a1,uv M.now] 103 true)) (.cells [iv 0,uv 0] 38 true)) _
 rw[eh5];try rw[eh5]at r5;try rw[eh5]at s5;try rw[eh5]at g5;try rw[eh5]at K5;try rw[eh5]at X05
 have not5:¬own a V (h4.n+1):=fun o=>absurd (s4.lt _ o) ah
 refine ED (x:=⟨a1,w.x.ee,.slice (some ⟨h4.n,0,none⟩) 1 1,0⟩) (refs:=[⟨a1,(M.now:Int)⟩]) s5 r5 (fun i hi=>(hin i hi).1) hfl hcl (fun he h6 x6=>?_) fun fl i hi he V6 h6 s6 k6=>?_
 · have n6:=x6.n;have gt6:=x6.cY gt;refine wk ?_;refine aM (off:=0) (cs':=[iv 0,uv 0]) gt6 rfl rfl rfl rfl ao ?_;refine wk ?_;exact⟨aQ _,hK1 _ _ ((X05.jI x6).trans (aw.set (i:=h4.n+1) _ ah))⟩
 have n6:=k6.n
 have gt6:=(k6.get (h4.n+1) ah not5).trans gt
 have not6:¬own a V6 (h4.n+1):=fun o=>not5 (k6.own _ ah o)
 refine wk ?_
 refine aM (off:=0) (cs':=[iv i,uv M.cl[i].gen]) gt6 rfl rfl rfl rfl ao ?_
 have s7:=s6.loc (cs':=[iv i,uv M.cl[i].gen]) gt6 not6
 have k7:=(K5.trans k6).loc (j:=h4.n+1) (k:=.cells [iv i,uv M.cl[i].gen] 38 true) ah
 obtain⟨h7,eh7⟩:=gz (aO h6 (h4.n+1) (.cells [iv i,uv M.cl[i].gen] 38 true))
 have gt7:=rS eh7
 have g7:h7.b.get h.n=some (.cells [iv kd,uv a0,uv a1,uv a2,uv a3,uv a4] 43 true):=eh7▸((aC ah).trans ((k6.get h.n ah no).trans g5))
 have n7:=sW eh7
 rw[eh7];try rw[eh7]at s7;try rw[eh7]at k7
 have no7:¬own a V6 h.n:=fun o=>no (k6.own _ ah o)
 obtain⟨_,hif⟩:=hin i (by rw[he];simp)
 obtain⟨_,_,hjt,_⟩:=aH.1 hj
 have hij:i≠j:=fun e=>by subst e;rw[hif]at hjt;cases hjt
 obtain⟨cl7,hc7⟩:∃ c,c=M.cl.set i ⟨M.cl[i].gen,true,⟨a1,w.x.ee,[⟨a1,(M.now:Int)⟩],0⟩⟩:=⟨_,rfl⟩
 have s7:St a V6 h7 { M with fc:=fl,cl:=cl7 }:=by rw[hc7];exact s7
 have hj7:j<cl7.length:=by simpa[hc7]using hjl
 have hgj:cl7[j]=M.cl[j]:=by simp only[hc7];exact cV hij _
 have hr7:kQ cl7:=fun k hk=>by
   simp only[hc7,cJ];split;· simp
   · exact hr k (by simpa[hc7]using hk)
 refine wk ?_
 refine E9 s7 hj7 (hr7 j hj7) (by show nd M.now cl7[j].x.ref≠0;rw[hgj];exact rQ) fun y V8 h8 hyb hyl s8 k8=>?_
 have n8:=k8.n
 have g8:=(k8.get h.n ah no7).trans g7
 have not7:¬own a V6 (h4.n+1):=not6
 have gt8:=(k8.get (h4.n+1) ah not7).trans gt7
 have dt8:av h8 (ad (h4.n+1) 0) 2=some [iv i,uv M.cl[i].gen]:=aq ah gt8 rfl rfl
 refine wk ?_
 refine Ac (r:=⟨(i:Int),(M.cl[i].gen:Int)⟩) s8 hf hl hc fun sl ri V9 h9 s9 k9=>?_
 refine wk ?_
 refine hK fl i hi (cl7.set j { cl7[j]with x:=y }) ⟨a1,w.x.ee,[⟨a1,(M.now:Int)⟩],0⟩ sl ri V9 h9 he rfl ?_ (fun k hk=>?_) s9 (k7.trans (k8.trans k9))
 · rw[← hc7];exact wG.set hj7 rfl rfl hyb
 · rw[cJ];split;· exact hyl
   · exact hr7 k (by simpa using hk)
theorem BA {O:Nat→Prop}{v:Value}{l:List RR}{g:RR}{h:ak}{K:Value→ak→Prop}(r:RS O 2 h v (l.map RR.cells)) (hl:l.length≤5000) (hK:∀ h',aw h.n h h'→K (.bool (decide (g∈l))) h'):cy env (.func 101) [v,.agg ⟨g.cells⟩] h K:=by
 obtain⟨gi,gg⟩:=g;simp only[RR.cells];obtain⟨pa,pc,re,_⟩:=r.len;rw[aI]at re;subst re;obtain⟨h1,eh1⟩:=gz (ai h (.cells [iv gi,uv gg] 38 true));have X1:=tW eh1;have d1:av h1 (ad h.n 0) 2=some [iv gi,uv gg]:=eh1▸(aV rfl);have r1:=r.ext X1;refine F101 rfl ?_;refine wk ?_;rw[eh1];try rw[eh1]at r1
 have n1:=X1.n;refine F142 rfl ?_;obtain⟨h2,eh2⟩:=gz (ai h1 (.cells [iv gi,uv gg] 38 true));have X2:=tW eh2;have d2:av h2 (ad h1.n 0) 2=some [iv gi,uv gg]:=eh2▸(aV rfl);have r2:=r1.ext X2;refine wk ?_;rw[eh2];try rw[eh2]at r2
 have X3:=X1.trans (X2.mono n1);refine aP (fun m fr' h''=>∃ k:Nat,k≤l.length∧m=l.length-k∧h''=h2∧fr'.get 8=some (iv k)∧(∀ j (hj:j<l.length),j<k→l[j]≠⟨gi,gg⟩)) l.length ?_ ah ?_;·exact⟨0,ah,ah,rfl,aA,fun j _ hj=>ah⟩
 rintro m fr4 h'' ⟨k,hk,rfl,rfl,f8,hp⟩ hag;by_cases aT:k<l.length
 ·obtain⟨bi,bo,rfl,hbi,hc⟩:=r2.at_ (k:=k) (by simpa using aT);rw[dr]at hc;simp only[RR.cells]at hc;by_cases he:gi=l[k].i∧gg=l[k].g
  ·have hm:(⟨gi,gg⟩:RR)∈l:=by
    have:l[k]=⟨gi,gg⟩:=by rw[he.1,he.2]
    exact this▸bG aT
   have ww:=mW @hc;refine wk ?_;·have:=hK _ X3;rw[decide_eq_true hm]at this;exact this
  ·have ww:=mW @hc;refine wk ?_;exact⟨l.length-(k+1),ah,k+1,ah,rfl,by simp[T.aj,bC (show k≤4611686018427387904 by omega)],fun j hj hjk=>by
    by_cases e:j=k;·subst e;exact fun e=>he (by rw[e];exact⟨rfl,rfl⟩)
    ·exact hp j hj ah⟩
 ·have hm:(⟨gi,gg⟩:RR)∉l:=fun hm=>by obtain⟨j,hj,e⟩:=eU hm;exact hp j hj ah e
  refine wk ?_;have:=hK _ X3;rw[decide_eq_false hm]at this;exact this
structure DV where
 par:RR
 gs:Int
 x_:Int
 ee:Int
 Rn:Int
 II:Int
 own:Int
 below:Int
 used:Int
 kids:Int
def DV.cells (x:DV):List Value:=[.int .i64 x.par.i,.int .u64 x.par.g,.int .i64 x.gs,.int .u64 x.x_,.int .u64 x.ee,.int .i64 x.Rn,.int .u64 x.II,.int .i64 x.own,.int .i64 x.below,.int .u64 x.used,.int .i64 x.kids]
open Classical in
noncomputable def Fl (sh:List (Ob SD)) (x r:RR):Bool:=decide (∃ l,tP sh x l∧r∈l)
def Ir (r:RR) (o:Ob SD) (d:DV):DV:=if o.x.par=r then { d with Rn:=IntKind.wrap .i64 (d.Rn+o.x.gs),II:=IntKind.wrap .u64 (d.II+o.x.x_),kids:=IntKind.wrap .i64 (d.kids+1) } else d
def HM (b:Bool) (o:Ob SD) (d:DV):DV:=if b then { d with below:=IntKind.wrap .i64 (d.below+o.x.own) } else d
noncomputable def t_ (sh:List (Ob SD)) (r:RR) (i:Nat) (o:Ob SD) (d:DV):DV:=if o.is then HM (Fl sh ⟨(i:Int),(o.gen:Int)⟩ r) o (Ir r o d) else d
noncomputable def iu (sh:List (Ob SD)) (r:RR) (x:SD):Nat→DV
 | 0=>⟨x.par,x.gs,x.x_,x.ee,0,0,x.own,0,x.used,0⟩
 | k+1=>match sh[k]? with
   | some o=>t_ sh r k o (iu sh r x k)
   | none=>iu sh r x k
theorem tP.det {sh:List (Ob SD)}{r:RR}{l l':List RR}(c:tP sh r l):tP sh r l'→l=l':=by
 induction c generalizing l' with
 | nil h=>intro c';cases c' with
   | nil _=>rfl
   | cons h' _ _=>rw[h]at h';cases h'
 | cons h hk c ih=>intro c';cases c' with
   | nil h'=>rw[h]at h';cases h'
   | cons h' hk' c'=>rw[h]at h';cases h';rw[ih c']
theorem Mk {a:Ad}{V:VD}{h:ak}{M:MD}{k:Nat}{K:Value→ak→Prop}(s:St a V h M) (hk:k<M.sh.length)
  (hK:∀ h',aw h.n h h'→K (.agg ⟨RR.cells ⟨(k:Int),(M.sh[k].gen:Int)⟩⟩) h'):cy env (.func 37) [pt a.m 21,iv k] h K:=vz s hk hK
theorem Nk {a:Ad}{V:VD}{h:ak}{M:MD}{fr:Go.Ev.Fr}{k b3 b6 b8 N:Nat}{r:RR}{d:DV}{Q:Ex→Go.Ev.Fr→ak→Prop}(s:St a V h M) (hs:M.sh.length≤1000) (hk:k<M.sh.length) (hc:∃ l,tP M.sh ⟨(k:Int),(M.sh[k].gen:Int)⟩ l∧l.length≤5000)
  (g0:fr.get 0=some (mp a)) (g3:fr.get 3=some (pt b3 0)) (g6:fr.get 6=some (pt b6 0)) (g7:fr.get 7=some (iv k)) (g8:fr.get 8=some (pt b8 0))
  (x3:h.b.get b3=some (.cells r.cells 38 true)) (x6:h.b.get b6=some (.cells d.cells 168 true)) (x8:h.b.get b8=some (.cells (Ob.cells SD.cells M.sh[k]) 129 true)) (l3:b3<h.n) (l6:b6<h.n) (l8:b8<h.n) (hN:N≤b6)
  (hQ:∀ fr' h',fr'.get 45=fr.get 45→aw N h h'→(∀ j,j≠b6→j<h.n→h'.b.get j=h.b.get j)→h'.b.get b6=some (.cells (HM (Fl M.sh ⟨(k:Int),(M.sh[k].gen:Int)⟩ r) M.sh[k] d).cells 168 true)→Q .normal fr' h'):Kk.wp env 94 none fr h Q:=by
 obtain⟨l,c,hl⟩:=hc
 unfold mp at *
 obtain⟨ri,rg⟩:=r
 simp only[RR.cells]at x3
 have d3:av h (ad b3 0) 2=some [iv ri,uv rg]:=aq l3 x3 rfl rfl
 have ww:=mW W55
 refine wk ?_
 refine Mk s hk fun h1 X1=>?_
 have n1:=X1.n
 have d3':=aG X1 l3 d3
 have ww:=ww.a @dY
 refine wk ?_
 refine xp (s.ext X1) hs c hl fun v h2 X2 o2=>?_
 have n2:=X2.n
 have d3'':=aG X2 ah d3'
 have rl:RS (fun _=>False) 2 h2 v (l.map RR.cells):=RS.iS (N:=h1.n+1) (by rw[aI];exact o2) (by simp[RR.cells]) (fun j h=>h.elim) (by simp;omega)
 refine wk ?_
 refine BA (g:=⟨ri,rg⟩) rl hl fun h3 X3=>?_
 have n3:=X3.n
 have X03:aw h.n h h3:=X1.trans ((X2.mono n1).trans (X3.mono ah))
 classical
 have hb:Fl M.sh ⟨(k:Int),(M.sh[k].gen:Int)⟩ ⟨ri,rg⟩=decide ((⟨ri,rg⟩:RR)∈l):=by unfold Fl;apply decide_eq_decide.2;exact⟨fun ⟨l',c',hm'⟩=>c.det c'▸hm',fun hm=>⟨l,c,hm⟩⟩
 have y6:=(X03.get b6 l6).trans x6
 have y8:=(X03.get b8 l8).trans x8
 by_cases hm:(⟨ri,rg⟩:RR)∈l
 ·rw[decide_eq_true hm]at hb ⊢;rw[hb]at hQ;refine wk ?_;refine aM (off:=8) (cs':=(HM true M.sh[k] d).cells) y6 rfl rfl (by simp only[HM,DV.cells,if_true];rfl) rfl ao ?_;refine wk ?_;refine hQ _ _ aA ((X03.mono ah).trans (aw.set _ hN)) (fun j hj hl=>(aC hj).trans (X03.get j hl)) aF
 ·rw[decide_eq_false hm]at hb ⊢;rw[hb]at hQ;refine wk ?_;refine hQ _ _ aA (X03.mono ah) (fun j hj hl=>X03.get j hl) ?_;simpa[HM]using y6
set_option linter.defProp false
def Zt:=@JU
def W9:=@Fx
def Ke (sh:List (Ob SD)):Prop:=∀ k (hk:k<sh.length),sh[k].is=true→∃ l,tP sh ⟨(k:Int),(sh[k].gen:Int)⟩ l∧l.length≤5000
theorem qY {a:Ad}{V:VD}{h:ak}{M:MD}{r:RR}{q:Nat}{K:Value→ak→Prop}(s:St a V h M) (hs:M.sh.length≤1000) (hr:aB M.sh r=some q) (hq:q<M.sh.length) (hc:Ke M.sh)
  (hK:∀ h',aw h.n h h'→K (.agg ⟨(iu M.sh r M.sh[q].x M.sh.length).cells⟩) h'):cy env (.func 55) [mp a,.agg ⟨r.cells⟩] h K:=by
 obtain⟨ri,rg⟩:=r
 unfold mp at *
 refine F55 rfl ?_
 simp only[RR.cells]
 have X2:aw h.n h (ai (ai h (.cells [iv ri,uv rg] 38 true)) (.cells [iv 0,uv 0,iv 0,uv 0,uv 0,iv 0,uv 0,iv 0,iv 0,uv 0,iv 0] 168 true)):=(aw.new _ a_).trans (aw.new _ (aL _))
 have g3:(ai (ai h (.cells [iv ri,uv rg] 38 true)) (.cells [iv 0,uv 0,iv 0,uv 0,uv 0,iv 0,uv 0,iv 0,iv 0,uv 0,iv 0] 168 true)).b.get h.n=some (.cells [iv ri,uv rg] 38 true):=(aK _ (by show h.n<h.n+1;omega)).trans (az _ _)
 have g4:(ai (ai h (.cells [iv ri,uv rg] 38 true)) (.cells [iv 0,uv 0,iv 0,uv 0,uv 0,iv 0,uv 0,iv 0,iv 0,uv 0,iv 0] 168 true)).b.get (h.n+1)=some (.cells [iv 0,uv 0,iv 0,uv 0,uv 0,iv 0,uv 0,iv 0,iv 0,uv 0,iv 0] 168 true):=az _ _
 have n2:(ai (ai h (.cells [iv ri,uv rg] 38 true)) (.cells [iv 0,uv 0,iv 0,uv 0,uv 0,iv 0,uv 0,iv 0,iv 0,uv 0,iv 0] 168 true)).n=h.n+2:=rfl
 have d3:av (ai (ai h (.cells [iv ri,uv rg] 38 true)) (.cells [iv 0,uv 0,iv 0,uv 0,uv 0,iv 0,uv 0,iv 0,iv 0,uv 0,iv 0] 168 true)) ⟨h.n,0,none⟩ 2=some [iv ri,uv rg]:=aq ah g3 rfl rfl
 have ww:=mW W55
 refine wk ?_
 generalize ai (ai h (.cells [iv ri,uv rg] 38 true)) (.cells [iv 0,uv 0,iv 0,uv 0,uv 0,iv 0,uv 0,iv 0,iv 0,uv 0,iv 0] 168 true)=h2 at X2 g3 g4 n2 d3 ⊢
 refine oA (s.ext X2) hs (r:=⟨ri,rg⟩) fun h3 x3=>?_
 have n3:=x3.n
 rw[hr]
 unfold fC
 have X3:=X2.jI x3
 have s3:=s.ext X3
 have g3':=x3.cY g3
 have g4':=x3.cY g4
 have hp:av h3 (ad a.s (q*9+2)) 2=some M.sh[q].x.par.cells:=by obtain⟨t,hb⟩:=s3.sh;exact dC (j:=2) (n:=2) hb (s3.lt _ um) (ja (n:=7) fun _=>rfl) hq ao
 have c4:=s3.sC hq 4 ao
 have c5:=s3.sC hq 5 ao
 have c6:=s3.sC hq 6 ao
 have c7:=s3.sC hq 7 ao
 have c8:=s3.sC hq 8 ao
 simp only[Ob.cells,SD.cells,RR.cells,cu,cR]at hp c4 c5 c6 c7 c8
 have s4:=s3.new (.cells [iv M.sh[q].x.par.i,uv M.sh[q].x.par.g,iv M.sh[q].x.gs,uv M.sh[q].x.x_,uv M.sh[q].x.ee,iv (Int.ofNat 0),uv (Int.ofNat 0),iv M.sh[q].x.own,iv (Int.ofNat 0),uv M.sh[q].x.used,iv (Int.ofNat 0)] 168 true)
 have k21:=s4.k21
 have X4:aw h.n h (ai h3 (.cells [iv M.sh[q].x.par.i,uv M.sh[q].x.par.g,iv M.sh[q].x.gs,uv M.sh[q].x.x_,uv M.sh[q].x.ee,iv (Int.ofNat 0),uv (Int.ofNat 0),iv M.sh[q].x.own,iv (Int.ofNat 0),uv M.sh[q].x.used,iv (Int.ofNat 0)] 168 true)):=X3.trans (aw.new _ ah)
 have g3'':(ai h3 (.cells [iv M.sh[q].x.par.i,uv M.sh[q].x.par.g,iv M.sh[q].x.gs,uv M.sh[q].x.x_,uv M.sh[q].x.ee,iv (Int.ofNat 0),uv (Int.ofNat 0),iv M.sh[q].x.own,iv (Int.ofNat 0),uv M.sh[q].x.used,iv (Int.ofNat 0)] 168 true)).b.get h.n=some (.cells (RR.cells ⟨ri,rg⟩) 38 true):=(aK _ ah).trans g3'
 have g4'':(ai h3 (.cells [iv M.sh[q].x.par.i,uv M.sh[q].x.par.g,iv M.sh[q].x.gs,uv M.sh[q].x.x_,uv M.sh[q].x.ee,iv (Int.ofNat 0),uv (Int.ofNat 0),iv M.sh[q].x.own,iv (Int.ofNat 0),uv M.sh[q].x.used,iv (Int.ofNat 0)] 168 true)).b.get (h.n+1)=some (.cells [iv 0,uv 0,iv 0,uv 0,uv 0,iv 0,uv 0,iv 0,iv 0,uv 0,iv 0] 168 true):=(aK _ ah).trans g4'
 have g6:(ai h3 (.cells [iv M.sh[q].x.par.i,uv M.sh[q].x.par.g,iv M.sh[q].x.gs,uv M.sh[q].x.x_,uv M.sh[q].x.ee,iv (Int.ofNat 0),uv (Int.ofNat 0),iv M.sh[q].x.own,iv (Int.ofNat 0),uv M.sh[q].x.used,iv (Int.ofNat 0)] 168 true)).b.get h3.n=some (.cells (iu M.sh ⟨ri,rg⟩ M.sh[q].x 0).cells 168 true):=az _ _
 have n4:(ai h3 (.cells [iv M.sh[q].x.par.i,uv M.sh[q].x.par.g,iv M.sh[q].x.gs,uv M.sh[q].x.x_,uv M.sh[q].x.ee,iv (Int.ofNat 0),uv (Int.ofNat 0),iv M.sh[q].x.own,iv (Int.ofNat 0),uv M.sh[q].x.used,iv (Int.ofNat 0)] 168 true)).n=h3.n+1:=rfl
 have ww:=ww.a @hp
 refine wk ?_
 generalize ai h3 (.cells [iv M.sh[q].x.par.i,uv M.sh[q].x.par.g,iv M.sh[q].x.gs,uv M.sh[q].x.x_,uv M.sh[q].x.ee,iv (Int.ofNat 0),uv (Int.ofNat 0),iv M.sh[q].x.own,iv (Int.ofNat 0),uv M.sh[q].x.used,iv (Int.ofNat 0)] 168 true)=h4 at s4 k21 X4 g3'' g4'' g6 n4 ⊢
 refine aP (fun m fr' h''=>∃ (k:Nat),k≤M.sh.length∧m=M.sh.length-k∧fr'.get 45=some (iv k)∧aw h.n h h''∧h3.n<h''.n∧h''.b.get h.n=some (.cells (RR.cells ⟨ri,rg⟩) 38 true)∧h''.b.get (h.n+1)=some (.cells [iv 0,uv 0,iv 0,uv 0,uv 0,iv 0,uv 0,iv 0,iv 0,uv 0,iv 0] 168 true)∧h''.b.get h3.n=some (.cells (iu M.sh ⟨ri,rg⟩ M.sh[q].x k).cells 168 true)) M.sh.length ?_ ah ?_
 ·exact⟨0,ah,ah,aA,X4,ah,g3'',g4'',g6⟩
 rintro m fr5 h5 ⟨k,hk,rfl,f45,X5,n5,y3,y4,y6⟩ hag
 have q0:fr5.get 0=some (mp a):=(hag 0 rfl).trans (by simp[T.aj,bY,mp])
 have q3:fr5.get 3=some (pt h.n 0):=(hag 3 rfl).trans aA
 have q6:fr5.get 6=some (pt h3.n 0):=(hag 6 rfl).trans aA
 have s5:=s.ext X5
 by_cases aT:k<M.sh.length
 ·have sA:=s5.sA aT;obtain⟨h6,eh6⟩:=gz (ai h5 (.cells (Ob.cells SD.cells M.sh[k]) 129 true));have X6:aw h.n h h6:=eh6▸(X5.trans (aw.new _ ah));have s6:=s.ext X6;have y8:=Dj eh6;have y3':h6.b.get h.n=some (.cells (RR.cells ⟨ri,rg⟩) 38 true):=eh6▸((aK _ ah).trans y3);have y4':h6.b.get (h.n+1)=_:=eh6▸((aK _ ah).trans y4);have y6':h6.b.get h3.n=_:=eh6▸((aK _ n5).trans y6);have n6:=qk eh6;simp only[Ob.cells,SD.cells]at sA;have ww:=mW (aN Zt @sA);refine wk ?_;change H2.wp env 94 none _ (ai h5 (.cells (Ob.cells SD.cells M.sh[k]) 129 true)) _;rw[eh6];try rw[eh6]at s6
  have c1:cellAt h6 (ad h5.n 1)=some (.bool M.sh[k].is):=ay ah y8 rfl;have hst:iu M.sh ⟨ri,rg⟩ M.sh[q].x (k+1)=t_ M.sh ⟨ri,rg⟩ k M.sh[k] (iu M.sh ⟨ri,rg⟩ M.sh[q].x k):=by simp only[iu,bw aT]
  have fin:∀ h':ak,aw h.n h6 h'→(∀ j,j≠h3.n→j<h6.n→h'.b.get j=h6.b.get j)→h'.b.get h3.n=some (.cells (iu M.sh ⟨ri,rg⟩ M.sh[q].x (k+1)).cells 168 true)→∀ fr3:Go.Ev.Fr,fr3.get 45=some (iv (IntKind.wrap .i64 ((k:Int)+1)))→∃ m,m<M.sh.length-k∧∃ (k:Nat),k≤M.sh.length∧m=M.sh.length-k∧fr3.get 45=some (iv k)∧aw h.n h h'∧h3.n<h'.n∧h'.b.get h.n=some (.cells (RR.cells ⟨ri,rg⟩) 38 true)∧h'.b.get (h.n+1)=some (.cells [iv 0,uv 0,iv 0,uv 0,uv 0,iv 0,uv 0,iv 0,iv 0,uv 0,iv 0] 168 true)∧h'.b.get h3.n=some (.cells (iu M.sh ⟨ri,rg⟩ M.sh[q].x k).cells 168 true):=fun h' x hk2 g fr3 f3 =>
   ⟨M.sh.length-(k+1),ah,k+1,ah,rfl,by rw[f3,bC (show k≤4611686018427387904 by omega)],X6.trans x,by have:=x.n;omega,(hk2 _ ah ah).trans y3',(hk2 _ ah ah).trans y4',g⟩
  by_cases hi:¬M.sh[k].is=true
  ·have hi':M.sh[k].is=false:=by simpa using hi
   rw[hi']at c1;have ww:=mW W55;refine wk ?_;exact fin h6 (.refl _ _) (fun _ _ _=>rfl) (by rw[hst];simp only[t_,hi'];exact y6') _ aA
  have hi':M.sh[k].is=true:=lx.1 hi;rw[hi']at c1;have dp:av h6 (ad h5.n 2) 2=some M.sh[k].x.par.cells:=aq ah y8 rfl rfl;have d3:av h6 (ad h.n 0) 2=some (RR.cells ⟨ri,rg⟩):=aq ah y3' rfl rfl;simp only[RR.cells]at dp d3;have tail:∀ (fr':Go.Ev.Fr) (h':ak),fr'.get 0=some (mp a)→fr'.get 3=some (pt h.n 0)→fr'.get 6=some (pt h3.n 0)→fr'.get 7=some (iv k)→fr'.get 8=some (pt h5.n 0)→aw h.n h6 h'→(∀ j,j≠h3.n→j<h6.n→h'.b.get j=h6.b.get j)→h'.b.get h3.n=some (.cells (Ir ⟨ri,rg⟩ M.sh[k] (iu M.sh ⟨ri,rg⟩ M.sh[q].x k)).cells 168 true) →
    ∀ Q:Ex→Go.Ev.Fr→ak→Prop,(∀ fr2 h2,fr2.get 45=fr'.get 45→aw h.n h6 h2→(∀ j,j≠h3.n→j<h6.n→h2.b.get j=h6.b.get j)→h2.b.get h3.n=some (.cells (iu M.sh ⟨ri,rg⟩ M.sh[q].x (k+1)).cells 168 true)→Q .normal fr2 h2)→Kk.wp env 94 none fr' h' Q:=by
   intro fr' h' g0 g3 g6 g7 g8 x hk2 g Q hQ
   have n':=x.n
   refine Nk (s.ext (X6.trans x)) hs aT (hc k aT hi') g0 g3 g6 g7 g8 ((hk2 _ ah ah).trans y3') g ((hk2 _ ah ah).trans y8) ah ah ah (show h3.n≤h3.n from aQ _) fun fr2 h2 f2 x2 k2 g2=>?_
   refine hQ fr2 h2 f2 (x.trans ⟨x2.n,fun j hj=>x2.get j ah⟩) (fun j hj hl=>(k2 j hj ah).trans (hk2 j hj hl)) ?_
   rw[hst];simp only[t_,hi',if_true];exact g2
  obtain⟨D,hD⟩:∃ D,D=iu M.sh ⟨ri,rg⟩ M.sh[q].x k:=⟨_,rfl⟩;rw[← hD]at y6' tail;by_cases he:M.sh[k].x.par.i=ri∧M.sh[k].x.par.g=rg
  ·have he':M.sh[k].x.par=⟨ri,rg⟩:=by rw[← he.1,← he.2]
   have a4:cellAt h6 (ad h5.n 4)=some (iv M.sh[k].x.gs):=ay ah y8 rfl;have a5:=ay (h:=h6) (off:=5) ah y6' rfl;have ww:=mW W9;refine wk ?_;refine aM (off:=5) (cs':=({ D with Rn:=IntKind.wrap .i64 (D.Rn+M.sh[k].x.gs) }:DV).cells) y6' rfl rfl rfl rfl ao ?_;obtain⟨h7,eh7⟩:=gz (aO h6 h3.n (.cells ({ D with Rn:=IntKind.wrap .i64 (D.Rn+M.sh[k].x.gs) }:DV).cells 168 true));have y7:=rS eh7;have z8:h7.b.get h5.n=_:=eh7▸((aC ah).trans y8);have X7:aw h.n h6 h7:=eh7▸(aw.set _ ah);have K7:∀ j,j≠h3.n→j<h6.n→h7.b.get j=h6.b.get j:=eh7▸(fun j hj _=>aC hj);have n7:=sW eh7;rw[eh7];have a5':cellAt h7 (ad h5.n 5)=some (uv M.sh[k].x.x_):=ay ah z8 rfl;have a6:=ay (h:=h7) (off:=6) ah y7 rfl;refine wk ?_;refine aM (off:=6) (cs':=({ D with Rn:=IntKind.wrap .i64 (D.Rn+M.sh[k].x.gs),II:=IntKind.wrap .u64 (D.II+M.sh[k].x.x_) }:DV).cells) y7 rfl rfl rfl rfl ao ?_;obtain⟨h9,eh9⟩:=gz (aO h7 h3.n (.cells ({ D with Rn:=IntKind.wrap .i64 (D.Rn+M.sh[k].x.gs),II:=IntKind.wrap .u64 (D.II+M.sh[k].x.x_) }:DV).cells 168 true));have y9:=rS eh9;have X9:aw h.n h6 h9:=eh9▸(X7.trans (aw.set _ ah));have K9:∀ j,j≠h3.n→j<h6.n→h9.b.get j=h6.b.get j:=eh9▸(fun j hj hl=>(aC hj).trans (K7 j hj hl));have n9:=sW eh9;rw[eh9];have a10:=ay (h:=h9) (off:=10) ah y9 rfl;refine wk ?_;refine aM (off:=10) (cs':=(Ir ⟨ri,rg⟩ M.sh[k] D).cells) y9 rfl rfl (by simp only[Ir,he',if_true,DV.cells];rfl) rfl ao ?_;refine wk ?_;refine tail _ _ (by simp[T.aj,q0]) (by simp[T.aj,q3]) (by simp[T.aj,q6]) aA aA (X9.trans (aw.set _ ah)) (fun j hj hl=>(aC hj).trans (K9 j hj hl)) aF _ fun fr2 h2 f2 x2 k2 g2=>?_;have f2':fr2.get 45=some (iv k):=f2.trans (by simp[T.aj,f45]);have ww:=mW W55;refine wk ?_;exact fin h2 x2 k2 g2 _ aA
  ·have he':¬M.sh[k].x.par=⟨ri,rg⟩:=fun e=>he (by rw[e];exact⟨rfl,rfl⟩);have ww:=mW W9;refine wk ?_;refine tail _ _ (by simp[T.aj,q0]) (by simp[T.aj,q3]) (by simp[T.aj,q6]) aA aA (.refl _ _) (fun _ _ _=>rfl) (by simp only[Ir,he',if_false];exact y6') _ fun fr2 h2 f2 x2 k2 g2=>?_;have f2':fr2.get 45=some (iv k):=f2.trans (by simp[T.aj,f45]);have ww:=mW W55;refine wk ?_;exact fin h2 x2 k2 g2 _ aA
 ·obtain rfl:k=M.sh.length:=ah;have d6:av h5 (ad h3.n 0) 11=some (iu M.sh ⟨ri,rg⟩ M.sh[q].x M.sh.length).cells:=aq n5 y6 rfl rfl;simp only[DV.cells]at d6;refine wk ?_;refine aM (off:=0) (cs':=(iu M.sh ⟨ri,rg⟩ M.sh[q].x M.sh.length).cells) y4 rfl rfl rfl rfl ao ?_;have y4':(aO h5 (h.n+1) (.cells (iu M.sh ⟨ri,rg⟩ M.sh[q].x M.sh.length).cells 168 true)).b.get (h.n+1)=some (.cells (iu M.sh ⟨ri,rg⟩ M.sh[q].x M.sh.length).cells 168 true):=aF;have d4:av (aO h5 (h.n+1) (.cells (iu M.sh ⟨ri,rg⟩ M.sh[q].x M.sh.length).cells 168 true)) ⟨h.n+1,0,none⟩ 11=some (iu M.sh ⟨ri,rg⟩ M.sh[q].x M.sh.length).cells:=aq (by show h.n+1<h5.n;omega) y4' rfl rfl;refine wk ?_;exact hK _ (X5.trans (aw.set _ ah))
end Go.Proofs.YthjlppdnlahhoaaGreat
