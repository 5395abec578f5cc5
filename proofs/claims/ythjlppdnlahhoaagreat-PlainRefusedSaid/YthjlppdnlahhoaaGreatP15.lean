/- THE PLAIN MACHINE's FUNCTIONS, walked (15). Conditions: none beyond each theorem's own. -/
import Derived.Test.YthjlppdnlahhoaaGreatP13
set_option linter.unusedSimpArgs false
set_option linter.unusedVariables false
namespace Go.Proofs.YthjlppdnlahhoaaGreat
open Go.Ev
open Pl
set_option maxRecDepth 100000
set_option maxHeartbeats 4000000
def OA (rd rc:RR) (n:Nat) (pr:Int):GD:=⟨1,false,rd,rc,2 ^ n-1,pr,0,0,0,0,0,0,0,0,0,0,0⟩
theorem SS {a:Ad}{V:VD}{h0 h:ak}{M:MD}{n p q d j pp b7 b8 b9 b11 b12:Nat}{g kd iw pk ck a0 a1 a2 a3 a4:Int}{rd rc:RR}{fr:Go.Ev.Fr}{K:Value→ak→Prop}(s:St a V h M) (K0:Kp (own a V) (own a V) h0 h) (I:Inv n M) (hn:n≤300)
  (hp:p<M.ax.length) (hd':aB M.sh rd=some d) (hj':aB M.cl rc=some j) (hpp:pp<M.ps.length) (hpr:0≤a2∧a2<(M.cfg.cG.length:Int)) (hpr2:M.cfg.cG.length≤1000000)
  (g0:fr.get 0=some (mp a)) (g1:fr.get 1=some (iv g)) (g7:fr.get 7=some (pt b7 0)) (g8:fr.get 8=some (pt b8 0)) (g9:fr.get 9=some (pt b9 0)) (g11:fr.get 11=some (pt b11 0)) (g12:fr.get 12=some (pt b12 0))
  (x7:h.b.get b7=some (.cells [iv kd,iv pp,iv iw,iv pk] 29 true)) (x8:h.b.get b8=some (.cells [iv ck,uv a0,uv a1,uv a2,uv a3,uv a4] 43 true)) (x9:h.b.get b9=some (.cells [iv p,iv q] 211 true))
  (x11:h.b.get b11=some (.cells [iv rd.i,uv rd.g] 38 true)) (x12:h.b.get b12=some (.cells [iv rc.i,uv rc.g] 38 true))
  (l7:b7<h.n) (l8:b8<h.n) (l9:b9<h.n) (l11:b11<h.n) (l12:b12<h.n) (o7:¬own a V b7) (o8:¬own a V b8) (o9:¬own a V b9) (o11:¬own a V b11) (o12:¬own a V b12)
  (hK:∀ (e:Int) M' V' h',Nx n M M'→St a V' h' M'→Kp (own a V) (own a V') h0 h'→K (iv e) h'):CY.wp env 135 none fr h (cW env [.tmp 10] K):=by
 unfold mp at *
 obtain⟨hd,hdi,hde⟩:=cE hd'
 obtain⟨hj,hji,hje⟩:=cE hj'
 have cl:=I.Iz hn
 have hps:M.cfg.ps≤8:=by have:=I.Su;have:=I.q.Bj;omega
 have wa:IntKind.wrap .i64 a2=a2:=wrap_i64 ah ah
 obtain⟨di,dg⟩:=rd
 obtain⟨ci,cg⟩:=rc
 simp only at x11 x12
 have c3:=ay (off:=3) l8 x8 rfl
 have r11:av h (ad b11 0) 2=some [iv di,uv dg]:=aq l11 x11 rfl rfl
 have r12:av h (ad b12 0) 2=some [iv ci,uv cg]:=aq l12 x12 rfl rfl
 obtain⟨h1,eh1⟩:=gz (ai h (.cells [iv 0,uv 0] 38 true))
 have X1:=tW eh1
 have m1:=qk eh1
 have r11a:=aG X1 l11 r11
 have r12a:=aG X1 l12 r12
 have c3a:=aD X1 l8 c3
 have k0a:=(s.ext X1).k0
 have gt:=Dj eh1
 have ww:=mW (aN (aN W89 @dY) (aN @Iv @wa))
 refine wk ?_
 have s1:=s.ext X1
 have x7a:=(X1.get b7 l7).trans x7
 have x8a:=(X1.get b8 l8).trans x8
 have x9a:=(X1.get b9 l9).trans x9
 have x11a:=(X1.get b11 l11).trans x11
 have x12a:=(X1.get b12 l12).trans x12
 have not1:¬own a V h.n:=fun o=>dy _ (s.lt _ o)
 rw[eh1];try rw[eh1]at r11a;try rw[eh1]at r12a;try rw[eh1]at c3a;try rw[eh1]at k0a;try rw[eh1]at s1;try rw[eh1]at x7a;try rw[eh1]at x8a;try rw[eh1]at x9a;try rw[eh1]at x11a;try rw[eh1]at x12a
 have K1:Kp (own a V) (own a V) h0 h1:=K0.trans (Kp.ext X1)
 have n0:=K0.n
 refine vW (n:=M.cfg.ps) hps ?_
 refine wk ?_
 refine Fm (x:=OA ⟨di,dg⟩ ⟨ci,cg⟩ M.cfg.ps a2) s1 (fun i hi=>(I.G.fr.off i hi).1) I.fgl (by have:=I.gl;omega) (fun he h2 x2=>?_) fun fl i hi he V2 h2 s2 k2=>?_
 ·have n2:=x2.n;have gt2:=x2.cY gt;have ww:=ww.a (aN (aG x2 ah r11a) (aG x2 ah r12a));refine wk ?_;refine aM (off:=0) (cs':=[iv 0,uv 0]) gt2 rfl rfl rfl rfl ao ?_;have n3:(aO h2 h.n (.cells [iv 0,uv 0] 38 true)).n=h2.n:=rfl;have s3:=(s1.ext x2).loc (cs':=[iv 0,uv 0]) gt2 not1;have K3:=(K1.trans (Kp.ext (O:=own a V) x2)).loc (j:=h.n) (k:=.cells [iv 0,uv 0] 38 true) ah;refine wk ?_;exact hK _ M V _ ⟨I.mono (aL n),rfl,rfl,rfl,rfl,rfl⟩ s3 K3
 have n2:=k2.n
 have gt2:=(k2.get h.n ah not1).trans gt
 have not2:¬own a V2 h.n:=fun o=>not1 (k2.own _ ah o)
 refine wk ?_
 refine aM (off:=0) (cs':=[iv i,uv M.gs[i].gen]) gt2 rfl rfl rfl rfl ao ?_
 have s3:=s2.loc (cs':=[iv i,uv M.gs[i].gen]) gt2 not2
 have K3:=(K1.trans k2).loc (j:=h.n) (k:=.cells [iv i,uv M.gs[i].gen] 38 true) ah
 obtain⟨h3,eh3⟩:=gz (aO h2 h.n (.cells [iv i,uv M.gs[i].gen] 38 true))
 have bM:∀ b,b<h.n→¬own a V b→h3.b.get b=h1.b.get b:=eh3▸(fun b hb ho=>(aC ah).trans (k2.get b ah ho))
 have y7:=(bM b7 l7 o7).trans x7a
 have y8:=(bM b8 l8 o8).trans x8a
 have y9:=(bM b9 l9 o9).trans x9a
 have y11:=(bM b11 l11 o11).trans x11a
 have y12:=(bM b12 l12 o12).trans x12a
 have yt:=rS eh3
 have p7:¬own a V2 b7:=fun o=>o7 (k2.own _ ah o)
 have p8:¬own a V2 b8:=fun o=>o8 (k2.own _ ah o)
 have p9:¬own a V2 b9:=fun o=>o9 (k2.own _ ah o)
 have p11:¬own a V2 b11:=fun o=>o11 (k2.own _ ah o)
 have p12:¬own a V2 b12:=fun o=>o12 (k2.own _ ah o)
 have n3:=sW eh3
 rw[eh3];try rw[eh3]at s3;try rw[eh3]at K3;try rw[eh3]at y7;try rw[eh3]at y8;try rw[eh3]at y9;try rw[eh3]at y11;try rw[eh3]at y12
 clear bM
 have r3:av h3 (ad b11 0) 2=some [iv di,uv dg]:=aq ah y11 rfl rfl
 refine wk ?_
 refine oA (r:=⟨di,dg⟩) s3 I.sl fun h4 x4=>?_
 have n4:=x4.n
 have hd4:aB ({ M with fg:=fl,gs:=M.gs.set i ⟨M.gs[i].gen,true,OA ⟨di,dg⟩ ⟨ci,cg⟩ M.cfg.ps a2⟩ }:MD).sh ⟨di,dg⟩=some d:=hd'
 rw[hd4]
 unfold fC
 have s4:=s3.ext x4
 have K4:=K3.trans (Kp.ext (O:=own a V2) x4)
 have c7:=s4.sC (k:=d) hd 7 ao
 simp only[Ob.cells,SD.cells,cu,cR]at c7
 have ww:=ww.a (aG x4 ah r3)
 refine wk ?_
 refine HQ s4 (k:=d) hd (j:=7) (y:=KL M.sh[d]) ah rfl rfl rfl rfl ao fun h5 s5 k5 n5=>?_
 have K5:=K4.trans k5
 have q12:=(k5.get b12 ah p12).trans (x4.cY y12)
 have r5:av h5 (ad b12 0) 2=some [iv ci,uv cg]:=aq ah q12 rfl rfl
 refine wk ?_
 refine j_ (r:=⟨ci,cg⟩) s5 I.cl fun h6 x6=>?_
 have n6:=x6.n
 have hj6:aB ({ M with fg:=fl,gs:=M.gs.set i ⟨M.gs[i].gen,true,OA ⟨di,dg⟩ ⟨ci,cg⟩ M.cfg.ps a2⟩,sh:=M.sh.set d (KL M.sh[d]) }:MD).cl ⟨ci,cg⟩=some j:=hj'
 rw[hj6]
 unfold fC
 have s6:=s5.ext x6
 have K6:=K5.trans (Kp.ext (O:=own a V2) x6)
 obtain⟨w,hwl,hw,cr,cc,_⟩:=s6.Bi (k:=j) hj
 have c5:=cc 5 ao
 simp only[Ob.cells,XW.cells,cu,cR]at c5
 have ww:=ww.a (aN (aG x6 ah r5) @c5)
 refine wk ?_
 refine C6 s6 (k:=j) hj (j:=5) (w:=w) (y:={ w with x:={ w.x with dH:=IntKind.wrap .i64 (w.x.dH+1) } }) (x:=Ab M.cl[j]) (new:=[iv (IntKind.wrap .i64 (w.x.dH+1))]) ah ⟨hwl,hw⟩ rfl rfl rfl rfl ao ⟨cr.gen,cr.is,cr.iP,cr.ee,by show IntKind.wrap .i64 (w.x.dH+1)=IntKind.wrap .i64 (M.cl[j].x.dH+1);rw[cr.dH],cr.ref⟩ fun V7 h7 s7 k7 n7=>?_
 have K7:=K6.trans k7
 obtain⟨I7,ho7⟩:=I.born (x:=OA ⟨di,dg⟩ ⟨ci,cg⟩ M.cfg.ps a2) he hi hd hdi hde hj hji hje (by show 2 ^ M.cfg.ps-1<256;have:2 ^ M.cfg.ps≤2 ^ 8:=Nat.pow_le_pow_right ao hps;omega) hpr ⟨bN _,bN _,bN _,bN _,bN _,bN _,bN _,bN _⟩
 have B:∀ b,b<h.n+1→¬own a V2 b→h7.b.get b=h3.b.get b:=fun b hb ho=>(k7.get b ah ho).trans (x6.cY ((k5.get b ah ho).trans (x4.get b ah)))
 have z7:=(B b7 ah p7).trans y7
 have z8:=(B b8 ah p8).trans y8
 have z9:=(B b9 ah p9).trans y9
 have zt:=(B h.n ah not2).trans yt
 have q7:¬own a V7 b7:=fun o=>p7 (k7.own _ ah o)
 have q8:¬own a V7 b8:=fun o=>p8 (k7.own _ ah o)
 have q9:¬own a V7 b9:=fun o=>p9 (k7.own _ ah o)
 have qt:¬own a V7 h.n:=fun o=>not2 (k7.own _ ah o)
 refine wk ?_
 have hi7:i<(M.gs.set i ⟨M.gs[i].gen,true,OA ⟨di,dg⟩ ⟨ci,cg⟩ M.cfg.ps a2⟩).length:=by simpa using hi
 refine yE s7 I7.q.sm hi7 (I7.G.jF i hi7) hpp fun x V8 h8 R s8 k8=>?_
 have n8:=k8.n
 have I8:=I7.put hi7 an ho7 R
 have w8:=(k8.get b8 ah q8).trans z8
 have w9:=(k8.get b9 ah q9).trans z9
 have wt:=(k8.get h.n ah qt).trans zt
 have ft:av h8 (ad h.n 0) 2=some [iv i,uv M.gs[i].gen]:=aq ah wt rfl rfl
 have ww:=ww.a @ai3
 refine wk ?_
 refine Ac (r:=⟨(i:Int),(M.gs[i].gen:Int)⟩) s8 hp cl.1 (by show M.cw<1000000;omega) fun sl ri V9 h9 s9 k9=>?_
 refine wk ?_
 exact hK _ _ V9 _ ⟨I8.rO hp,rfl,rfl,rfl,rfl,rfl⟩ s9 (K7.trans (k8.trans k9))
end Go.Proofs.YthjlppdnlahhoaaGreat
