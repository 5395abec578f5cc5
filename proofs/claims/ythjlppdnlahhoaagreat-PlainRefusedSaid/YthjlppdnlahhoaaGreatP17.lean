/- THE PLAIN MACHINE's FUNCTIONS, walked (17). Conditions: none beyond each theorem's own. -/
import Derived.Test.YthjlppdnlahhoaaGreatP16
import Derived.Test.YthjlppdnlahhoaaGreatP11
import Derived.Test.YthjlppdnlahhoaaGreatP15
set_option linter.unusedSimpArgs false
set_option linter.unusedVariables false
namespace Go.Proofs.YthjlppdnlahhoaaGreat
open Go.Ev
open Pl
set_option maxRecDepth 100000
set_option linter.defProp false
def V47_28:=(aN (aN @wo @uY) @vY)
def V47_26:=(aN (aN @wo @vG) @vY)
def Nl:=(aN (aN @uY @vG) @vY)
def Nw:=(aN (aN @wo @uY) @vG)
set_option maxHeartbeats 4000000
theorem FY {B xb rb:Nat}{o a b c:UInt8}{fr:Go.Ev.Fr}{h1:ak}{K:Value→ak→Prop}(hB:B≤rb) (g4:fr.get 4=some (pt rb 0)) (g5:fr.get 5=some (iv 0)) (g7:fr.get 7=some (pt xb 0)) (g9:fr.get 9=some (nC (MX o.toNat).1))
  (hrb:iI h1 rb [.int .u8 0,.int .u8 0,.int .u8 0,.int .u8 0] 148) (hxb:iI h1 xb [bK o,bK a,bK b,bK c] 148) (hne:rb≠xb)
  (ho:o.toNat≤38) (hK:∀ (o a b c:UInt8) (e:Int) h',aw B h1 h'→(e=0→o.toNat≤38)→K (.tuple #[NZ o a b c,iv e]) h'):GH.wp env 84 none fr h1 (cW env [.cell 4 148,.tmp 5] K):=by
 have e9:=bf g9
 obtain⟨hlen,hchs,_⟩:=Pv o.toNat o.toNat_lt
 generalize (MX o.toNat).1=nm at *
 unfold nC at e9
 have ww:=mW W47
 refine wk ?_
 refine Uz str9 ?_
 have X2:aw h1.n h1 (ai h1 (.im ⟨nm.toArray⟩ 0)):=br
 have i2:(ai h1 (.im ⟨nm.toArray⟩ 0)).b.get h1.n=some (.im ⟨nm.toArray⟩ 0):=az _ _
 have n2:(ai h1 (.im ⟨nm.toArray⟩ 0)).n=h1.n+1:=rfl
 generalize ai h1 (.im ⟨nm.toArray⟩ 0)=h2 at X2 i2 n2 ⊢
 have rlt:=hrb.lt
 have xlt:=hxb.lt
 refine wk ?_
 refine aP (fun m fr' h'=>∃ j:Nat,j≤nm.length∧m=nm.length-j∧aw h1.n h1 h'∧h1.n<h'.n∧h'.b.get h1.n=some (.im ⟨nm.toArray⟩ j)∧fr'.get 5=some (iv 0)) nm.length ?_ ah ?_
 ·exact⟨0,ah,ah,X2,ah,i2,by simp[T.aj,g5]⟩
 clear X2 i2 n2
 rintro m fr2 h3 ⟨j,hj,rfl,X3,n3,i3,f5⟩ hag
 by_cases aT:j<nm.length
 ·have hch:=hchs _ (bG aT);have hasc:=ch_lt hch;refine wk ?_;refine Py i3 aT hasc ?_;have X4:aw h1.n h1 { h3 with b:=h3.b.set h1.n (.im ⟨nm.toArray⟩ (j+1)) }:=X3.trans (aw.set _ a_);obtain⟨h4,eh4⟩:=gz ({ h3 with b:=h3.b.set h1.n (.im ⟨nm.toArray⟩ (j+1)) }:ak);have i4:h4.b.get h1.n=some (.im ⟨nm.toArray⟩ (j+1)):=eh4▸(T.get_set_same _ _ _);have n4:h4.n=h3.n:=eh4▸rfl;rw[eh4];try rw[eh4]at X4
  have hx4:=hxb.ext X4 xlt;have xlt4:=hx4.lt;have d1:∀ k,cellAt (ai h4 k) ⟨xb,1,none⟩=some (.int .u8 (a.toNat:Int)):=fun k=>by rw[lH xlt4];exact hx4.at_ (j:=1) rfl
  have d2:∀ k,cellAt (ai h4 k) ⟨xb,2,none⟩=some (.int .u8 (b.toNat:Int)):=fun k=>by rw[lH xlt4];exact hx4.at_ (j:=2) rfl
  have d3:∀ k,cellAt (ai h4 k) ⟨xb,3,none⟩=some (.int .u8 (c.toNat:Int)):=fun k=>by rw[lH xlt4];exact hx4.at_ (j:=3) rfl
  have ww:=ww.a (aN (aN @d1 @d2) @d3);refine wk ?_;refine A9 qO vd c_ ?_;refine wk ?_;refine A9 qO vd c_ ?_;refine wk ?_;refine A9 qO vd c_ ?_;refine wk ?_;refine Tv (cK _) (az _ _) hch ?_;have X5:aw h1.n h1 (ai h4 (.map (Rt a b c) 3)):=X4.trans (aw.new _ ah);have i5:(ai h4 (.map (Rt a b c) 3)).b.get h1.n=some (.im ⟨nm.toArray⟩ (j+1)):=by rw[aK _ ah];exact i4
  have n5:(ai h4 (.map (Rt a b c) 3)).n=h4.n+1:=rfl;unfold Rt at X5 i5 n5;simp only[bK]at X5 i5 n5 ⊢;simp only[gy,mo];generalize ai h4 (.map [(.int .i32 97,.int .u8 (a.toNat:Int),0),(.int .i32 98,.int .u8 (b.toNat:Int),1),(.int .i32 99,.int .u8 (c.toNat:Int),2)] 3)=h5 at X5 i5 n5 ⊢;by_cases hrg:(regB a b c nm[j]).toNat<8;·refine wk ?_;exact⟨nm.length-(j+1),ah,j+1,ah,rfl,X5,ah,i5,by simp[T.aj,f5]⟩
  ·have bx:=hrb.ext X5 rlt;refine wk ?_;refine fa (cs':=[.int .u8 0,.int .u8 0,.int .u8 0,.int .u8 0]) bx.get rfl rfl rfl rfl ao ?_;have bx':=bx.set (cs':=[.int .u8 0,.int .u8 0,.int .u8 0,.int .u8 0]);have cx:=aq (off:=0) (n:=4) bx'.lt bx'.get rfl rfl;refine wk ?_;exact hK 0 0 0 0 7 _ ((X5.mono ah).trans (aw.set _ hB)) (fun e=>by cases e)
 ·have hx3:=hxb.ext X3 xlt;have bx:=hrb.ext X3 rlt;have cx:=aq (off:=0) (n:=4) hx3.lt hx3.get rfl rfl;refine wk ?_;refine HJ i3 (by rw[P4];omega) ?_;refine wk ?_;refine fa (cs':=[bK o,bK a,bK b,bK c]) bx.get rfl rfl rfl rfl ao ?_;have bx':=bx.set (cs':=[bK o,bK a,bK b,bK c]);have cx':=aq (off:=0) (n:=4) bx'.lt bx'.get rfl rfl;refine wk ?_;exact hK o a b c 0 _ ((X3.mono ah).trans (aw.set _ hB)) (fun _=>ho)
theorem Hy {O:Nat→Prop}{v:Value}{p:List UInt8}{pc:Int}{h:ak}{K:Value→ak→Prop}(r:RB O h v p) (hp:p.length≤50000)
   (hK:∀ (o a b c:UInt8) (e:Int) h',aw h.n h h'→(e=0→o.toNat≤38)→K (.tuple #[NZ o a b c,iv e]) h'):cy env (.func 47) [v,iv pc] h K:=by
 obtain⟨⟨va,vc,rfl,hvc,rat⟩,⟨_,_,_,ec,hcu,_⟩,_⟩:=r
 cases ec
 rw[aI]at *
 have t1:((p.length:Int).tmod 4)=((p.length%4:Nat):Int):=rfl
 have t2:((p.length:Int).tdiv 4)=((p.length / 4:Nat):Int):=rfl
 have w2:IntKind.wrap .i64 ((p.length / 4:Nat):Int)=((p.length / 4:Nat):Int):=wrap_i64 ah ah
 have X1:aw h.n h (ai h (.cells [.int .u8 0,.int .u8 0,.int .u8 0,.int .u8 0] 148 true)):=br
 have n1:(ai h (.cells [.int .u8 0,.int .u8 0,.int .u8 0,.int .u8 0] 148 true)).n=h.n+1:=rfl
 have bz:av (ai h (.cells [.int .u8 0,.int .u8 0,.int .u8 0,.int .u8 0] 148 true)) ⟨h.n,0,none⟩ 4=some [.int .u8 0,.int .u8 0,.int .u8 0,.int .u8 0]:=aV rfl
 refine F47 rfl ?_
 by_cases hin:0≤pc∧pc<((p.length / 4:Nat):Int)
 case neg =>
   have hc1:(p.length%4:Nat)=0∧pc=((p.length / 4:Nat):Int)∨¬((p.length%4:Nat)=0∧pc=((p.length / 4:Nat):Int)):=Classical.em _;rcases hc1 with ⟨h1,h2⟩|hc;· have hm':((p.length%4:Nat):Int)=0:=ah;have ww:=mW (aN (aN (aN W47 @t1) @t2) (aN (aN @w2 @hm') @h2));refine wk ?_;all_goals exact hK 0 0 0 0 4 _ (aw.new _ (aQ _)) (fun e=>by cases e)
   · by_cases hm:(p.length%4:Nat)=0;· have hm':((p.length%4:Nat):Int)=0:=ah;have hke':¬(pc=((p.length / 4:Nat):Int)):=fun e=>hc ⟨hm,e⟩;have ww:=mW (aN (aN (aN W47 @t1) @t2) (aN (aN @w2 @hm') @hke'));refine Ep ?_ ?_;all_goals exact hK 0 0 0 0 7 _ (aw.new _ (aQ _)) (fun e=>by cases e)
     · have hm':¬(((p.length%4:Nat):Int)=0):=ah;have ww:=mW (aN (aN (aN W47 @t1) @t2) (aN @w2 @hm'));refine Ep ?_ ?_;all_goals exact hK 0 0 0 0 7 _ (aw.new _ (aQ _)) (fun e=>by cases e)
 case pos =>
 obtain⟨k,rfl⟩:=zm hin.1
 have aT:k<p.length / 4:=ah
 have hke':¬((k:Int)=((p.length / 4:Nat):Int)):=ah
 obtain⟨i,off,rfl,hib,_⟩:=rat 0 (by rw[aI];omega)
 have cell:∀ j (hj:j<p.length),cellAt h (ad i (off+j))=some (bK p[j]):=fun j hj=>by obtain⟨i',off',e1,_,e3⟩:=rat j (by rw[aI];exact hj);cases e1;rw[bQ,dr]at e3;unfold cellAt;rw[e3]
 have main:∀ (fr:Go.Ev.Fr),fr.get 0=some (.slice (some ⟨i,off,none⟩) p.length vc)→fr.get 1=some (iv k)→fr.get 4=some (pt h.n 0)→fr.get 5=some (iv 0) →
     HN.wp env 84 none fr (ai h (.cells [.int .u8 0,.int .u8 0,.int .u8 0,.int .u8 0] 148 true)) (cW env [.cell 4 148,.tmp 5] K):=by
   intro fr f0 f1 f4 f5
   have e1:=bf f1
   have B1:=iI.new h [.int .u8 0,.int .u8 0,.int .u8 0,.int .u8 0] 148
   have c0:=aD X1 hib (cell (4*k) ah)
   have c1:=aD X1 hib (cell (4*k+1) ah)
   have c2:=aD X1 hib (cell (4*k+2) ah)
   have c3:=aD X1 hib (cell (4*k+3) ah)
   generalize ai h (.cells [.int .u8 0,.int .u8 0,.int .u8 0,.int .u8 0] 148 true)=h1 at X1 n1 B1 bz c0 c1 c2 c3 ⊢
   have w4:IntKind.wrap .i64 (4*(k:Int))=((4*k:Nat):Int):=by rw[wrap_i64 ah ah];omega
   have ww:=mW (aN W47 @w4)
   refine wk ?_
   refine kV (sz:=1) c_ ao (by unfold fb;unfold bh at hcu;omega) ah hvc fun a' c' ha' _ _=>?_
   obtain rfl:=ha' ah
   generalize p[4*k]=o at c0
   generalize p[4*k+1]=a at c1
   generalize p[4*k+2]=b at c2
   generalize p[4*k+3]=c at c3
   simp only[bK]at c0 c1 c2 c3
   rw[bQ]
   rw[← nu]at c1 c2 c3
   have z1:Int.toNat 1=1:=rfl
   have z2:Int.toNat 2=2:=rfl
   have z3:Int.toNat 3=3:=rfl
   have l0:(0:Int)<((p.length-4*k:Nat):Int):=ah
   have l1:(1:Int)<((p.length-4*k:Nat):Int):=ah
   have l2:(2:Int)<((p.length-4*k:Nat):Int):=ah
   have l3:(3:Int)<((p.length-4*k:Nat):Int):=ah
   have ww:=mW (aN (aN (aN (aN V47_28 @bQ) @fk) (aN @z1 @z2)) (aN (aN (aN @z3 @l0) @l1) (aN @l2 @l3)))
   refine wk ?_
   have B2:=B1.ext (aw.new (B:=h1.n) (.cells [bK o,bK a,bK b,bK c] 148 true) a_) B1.lt
   have B3:=iI.new h1 [bK o,bK a,bK b,bK c] 148
   obtain⟨h2,eh2⟩:=gz (ai h1 (.cells [bK o,bK a,bK b,bK c] 148 true))
   have X2:aw h.n h h2:=eh2▸(X1.trans (aw.new _ ah))
   have n2:=qk eh2
   show HK.wp env 84 none _ (ai h1 (.cells [bK o,bK a,bK b,bK c] 148 true)) _
   rw[eh2];try rw[eh2]at B2;try rw[eh2]at B3
   have d0:=B3.at_ (j:=0) rfl
   simp only[bK]at d0
   have ww:=mW V47_26
   refine wk ?_
   refine HI fun w=>?_
   unfold nC
   obtain⟨_,_,h38⟩:=Pv o.toNat o.toNat_lt
   cases his:(MX o.toNat).2 with
   | false =>
     have ww:=mW Nl
     refine wk ?_
     refine fa (cs':=[.int .u8 0,.int .u8 0,.int .u8 0,.int .u8 0]) B2.get rfl rfl rfl rfl ao ?_
     have bx':=B2.set (cs':=[.int .u8 0,.int .u8 0,.int .u8 0,.int .u8 0])
     have cx:=aq (off:=0) (n:=4) bx'.lt bx'.get rfl rfl
     refine wk ?_
     exact hK 0 0 0 0 7 _ (X2.trans (aw.set _ a_)) (fun e=>by cases e)
   | true =>
     have ww:=mW Nl
     refine wk ?_
     refine FY (B:=h.n) (xb:=h1.n) (rb:=h.n) (o:=o) (a:=a) (b:=b) (c:=c) a_ ?_ ?_ ?_ ?_ B2 B3 ah (h38 his) (fun o a b c e h' X=>hK o a b c e h' (X2.trans X))
     · simp[T.aj,f4]
     · simp[T.aj,f5]
     · simp[T.aj]
     · simp[T.aj,nC]
 by_cases hm:p.length%4=0
 · have hm':((p.length%4:Nat):Int)=0:=ah;have ww:=mW (aN (aN (aN Nw @t1) @t2) (aN (aN @w2 @hm') @hke'));refine wk ?_;exact main _ aA aA aA aA
 · have hm':¬(((p.length%4:Nat):Int)=0):=ah;have ww:=mW (aN (aN (aN Nw @t1) @t2) (aN @w2 @hm'));refine wk ?_;exact main _ aA aA aA aA
def aar:=(aN (aN @AQ @vI) @vR)
def YF:=(aN (aN @AQ @vI) @vp)
def MV:=(aN @vR @vp)
def V89_15:=(aN (aN @vI @vR) @vp)
theorem Ih {a:Ad}{V:VD}{h:ak}{M:MD}(s:St a V h M) {k l:Nat}(hk:k<M.ax.length) (hl:l<M.ax.length):∃ i c,i<h.n∧own a V i∧cellAt h (ad a.m 23)=some (.slice (some ⟨i,0,none⟩) M.ax.length c)∧(∀ j n,j+n≤8→av h (ad i (k*8+j)) n=some ((M.ax[k].cells.drop j).take n))∧∀ j n,j+n≤8→av h (ad i (l*8+j)) n=some ((M.ax[l].cells.drop j).take n):=by obtain⟨i,c,e,h1,h2,h3,_,h4⟩:=mg s hk;obtain⟨i',c',e',_,_,_,_,h4'⟩:=mg s hl;rw[e]at e';cases e';exact⟨i,c,h1,h2,h3,h4,h4'⟩
theorem Lw {a:Ad}{V:VD}{h:ak}{M:MD}{n p q d j pp:Nat}{g kd iw pk:Int}{c:Cj}{K:Value→ak→Prop}(s:St a V h M) (I:Inv n M) (hn:n≤300)
   (hp:p<M.ax.length) (hq:q<M.ax.length) (hd':aB M.sh ⟨M.ax[p].oi,M.ax[p].og⟩=some d) (hj':aB M.cl ⟨M.ax[q].oi,M.ax[q].og⟩=some j) (hpp:pp<M.ps.length) (ha:0≤c.a2) (hpr2:M.cfg.cG.length≤1000000)
   (hK:∀ (e:Int) M' V' h',Nx n M M'→St a V' h' M'→Kp (own a V) (own a V') h h'→K (iv e) h'):cy env (.func 89) [mp a,iv g,.agg ⟨[iv kd,iv pp,iv iw,iv pk]⟩,.agg ⟨c.cells⟩,.agg ⟨[iv p,iv q]⟩] h K:=by
 obtain⟨ck,a0,a1,a2,a3,a4⟩:=c
 simp only[Cj.cells]at *
 have cl:=I.Iz hn
 obtain⟨hd,hdi,hde⟩:=cE hd'
 obtain⟨vs,rp,lp,_⟩:=s.pr
 obtain⟨pa,pc,ep,hpc,_⟩:=rp.r
 rw[aI,lp]at ep hpc
 obtain⟨h1,eh1⟩:=gz (ai (ai (ai h (.cells [iv kd,iv pp,iv iw,iv pk] 29 true)) (.cells [iv ck,uv a0,uv a1,uv a2,uv a3,uv a4] 43 true)) (.cells [iv p,iv q] 211 true))
 have X3:aw h.n h h1:=eh1▸((aw.new _ a_).trans ((aw.new _ (aL _)).trans (aw.new _ (by show h.n≤h.n+1+1;omega))))
 have g7:h1.b.get h.n=some (.cells [iv kd,iv pp,iv iw,iv pk] 29 true):=eh1▸((aK _ (by show h.n<h.n+1+1;omega)).trans ((aK _ (by show h.n<h.n+1;omega)).trans (az _ _)))
 have g8:h1.b.get (h.n+1)=some (.cells [iv ck,uv a0,uv a1,uv a2,uv a3,uv a4] 43 true):=eh1▸((aK _ (by show h.n+1<h.n+1+1;omega)).trans (az _ _))
 have g9:h1.b.get (h.n+2)=some (.cells [iv p,iv q] 211 true):=eh1▸(az _ _)
 have n3:h1.n=h.n+3:=eh1▸rfl
 have m1:(ai h (.cells [iv kd,iv pp,iv iw,iv pk] 29 true)).n=h.n+1:=rfl
 have m2:(ai (ai h (.cells [iv kd,iv pp,iv iw,iv pk] 29 true)) (.cells [iv ck,uv a0,uv a1,uv a2,uv a3,uv a4] 43 true)).n=h.n+2:=rfl
 have no7:¬own a V h.n:=fun o=>dy _ (s.lt _ o)
 have no8:¬own a V (h.n+1):=fun o=>absurd (s.lt _ o) ah
 have no9:¬own a V (h.n+2):=fun o=>absurd (s.lt _ o) ah
 unfold mp at *
 refine F89 rfl ?_
 have ww:=mW (aN (aN aar @m1) @m2)
 refine wk ?_
 rw[eh1]
 have s1:=s.ext X3
 clear m1 m2
 obtain⟨i0,c0,hi0,oi0,mD,cp,cq⟩:=Ih s1 hp hq
 have cp5:=cp 5 2 ao
 have cq5:=cq 5 2 ao
 simp only[KD.cells,mB,eh,iX,iH]at cp5 cq5
 have b0:cellAt h1 (ad (h.n+1+1) 0)=some (iv p):=ay (off:=0) (show h.n+2<h1.n by omega) g9 rfl
 have b1:cellAt h1 (ad (h.n+1+1) 1)=some (iv q):=ay (off:=1) (show h.n+2<h1.n by omega) g9 rfl
 have lp0:(p:Int)<(M.ax.length:Int):=ah
 have lq0:(q:Int)<(M.ax.length:Int):=ah
 have ww:=mW (aN (aN (aN YF @mD) (aN @cp5 @cq5)) (aN (aN @Gu @lp0) @lq0))
 refine wk ?_
 have X4:aw h1.n h1 (ai (ai h1 (.cells [iv 0,uv 0] 38 true)) (.cells [iv 0,uv 0] 38 true)):=(aw.new _ a_).trans (aw.new _ (by show h1.n≤h1.n+1;omega))
 have gz1:(ai (ai h1 (.cells [iv 0,uv 0] 38 true)) (.cells [iv 0,uv 0] 38 true)).b.get h1.n=some (.cells [iv 0,uv 0] 38 true):=(aK _ (by show h1.n<h1.n+1;omega)).trans (az _ _)
 have gz2:(ai (ai h1 (.cells [iv 0,uv 0] 38 true)) (.cells [iv 0,uv 0] 38 true)).b.get (h1.n+1)=some (.cells [iv 0,uv 0] 38 true):=az _ _
 have n4:(ai (ai h1 (.cells [iv 0,uv 0] 38 true)) (.cells [iv 0,uv 0] 38 true)).n=h1.n+2:=rfl
 refine aM (off:=0) (cs':=[iv M.ax[p].oi,uv M.ax[p].og]) gz1 rfl rfl rfl rfl ao ?_
 obtain⟨h2,eh2⟩:=gz (aO (ai (ai h1 (.cells [iv 0,uv 0] 38 true)) (.cells [iv 0,uv 0] 38 true)) h1.n (.cells [iv M.ax[p].oi,uv M.ax[p].og] 38 true))
 have X5:aw h1.n h1 h2:=eh2▸(X4.trans (aw.set _ a_))
 have r11:h2.b.get h1.n=some (.cells [iv M.ax[p].oi,uv M.ax[p].og] 38 true):=eh2▸aF
 have r12:h2.b.get (h1.n+1)=some (.cells [iv 0,uv 0] 38 true):=eh2▸((aC ah).trans gz2)
 have n5:h2.n=h1.n+2:=eh2▸rfl
 rw[eh2]
 have am1:=s1.lt _ fE
 have k23a:=aD X5 am1 mD
 have cq5a:=aG X5 hi0 cq5
 have b1a:=aD X5 (show h.n+1+1<h1.n by omega) b1
 have ww:=ww.a @dY
 refine wk ?_
 refine aM (off:=0) (cs':=[iv M.ax[q].oi,uv M.ax[q].og]) r12 rfl rfl rfl rfl ao ?_
 obtain⟨h3,eh3⟩:=gz (aO h2 (h1.n+1) (.cells [iv M.ax[q].oi,uv M.ax[q].og] 38 true))
 have X6:aw h1.n h1 h3:=eh3▸(X5.trans (aw.set _ ah))
 have t11:h3.b.get h1.n=some (.cells [iv M.ax[p].oi,uv M.ax[p].og] 38 true):=eh3▸((aC ah).trans r11)
 have t12:=rS eh3
 have n6:=sW eh3
 rw[eh3]
 refine wk ?_
 have XX:aw h.n h h3:=X3.jI X6
 have s3:=s.ext XX
 have y7:=X6.cY g7
 have y8:=X6.cY g8
 have y9:h3.b.get (h.n+1+1)=some (.cells [iv p,iv q] 211 true):=X6.cY g9
 have nx0:Nx n M M:=⟨I.mono (aL n),rfl,rfl,rfl,rfl,rfl⟩
 have mid:∀ fr:Go.Ev.Fr,fr.get 0=some (mp a)→fr.get 1=some (iv g)→fr.get 7=some (pt h.n 0)→fr.get 8=some (pt (h.n+1) 0)→fr.get 9=some (pt (h.n+1+1) 0)→fr.get 11=some (pt h1.n 0)→fr.get 12=some (pt (h1.n+1) 0)→IS.wp env 135 none fr h3 (cW env [.tmp 10] K):=by
   intro fr f0 f1 f7 f8 f9 f11 f12;unfold mp at f0;have rr:av h3 (ad h1.n 0) 2=some [iv M.ax[p].oi,uv M.ax[p].og]:=aq ah t11 rfl rfl;have ww:=mW MV;refine wk ?_;refine qY (r:=⟨M.ax[p].oi,M.ax[p].og⟩) s3 I.sl hd' hd (I.JM hn) fun h5 x5=>?_;have n5:=x5.n;have rr5:=aG x5 (show h1.n<h3.n by omega) rr;generalize iu M.sh ⟨M.ax[p].oi,M.ax[p].og⟩ M.sh[d].x M.sh.length=D;have ww:=ww.a @dY;refine wk ?_;have X9:aw h3.n h3 (ai h5 (.cells D.cells 168 true)):=x5.trans (aw.new _ ah);have gd6:(ai h5 (.cells D.cells 168 true)).b.get h5.n=some (.cells D.cells 168 true):=az _ _;have n6:(ai h5 (.cells D.cells 168 true)).n=h5.n+1:=rfl;generalize ai h5 (.cells D.cells 168 true)=h6 at X9 gd6 n6 ⊢;have x8a:=X9.cY y8;have ww:=mW (aN V89_15 @ai3);refine wk ?_;refine o_ (s3.ext X9) cl.1 I.bP fun e h7 x7=>?_;have n7:=x7.n;have XA:aw h3.n h3 h7:=X9.jI x7;have s7:=s3.ext XA;have K7:Kp (own a V) (own a V) h h7:=(Kp.ext XX).trans (Kp.ext XA);by_cases h0:¬e=0;· have ww:=ww.a @h0;refine wk ?_;exact hK e M V h7 nx0 s7 K7
   obtain rfl:e=0:=lx.1 h0;have x8b:=XA.cY y8;have Ss:=s7.Ss;rw[ep]at Ss;have wl:IntKind.wrap .u64 (M.cfg.cG.length:Int)=(M.cfg.cG.length:Int):=wrap_u64 ah ah;have gd7:=x7.cY gd6;by_cases hpr:(M.cfg.cG.length:Int)≤a2;· have ww:=ww.a (aN (aN @Iv @wl) @hpr);refine wk ?_;exact hK 2 M V h7 nx0 s7 K7
   have fin:∀ fr:Go.Ev.Fr,fr.get 0=some (mp a)→fr.get 1=some (iv g)→fr.get 7=some (pt h.n 0)→fr.get 8=some (pt (h.n+1) 0)→fr.get 9=some (pt (h.n+1+1) 0)→fr.get 11=some (pt h1.n 0)→fr.get 12=some (pt (h1.n+1) 0)→CY.wp env 135 none fr h7 (cW env [.tmp 10] K):=fun fr q0 q1 q7 q8 q9 q11 q12 =>
     SS (rd:=⟨M.ax[p].oi,M.ax[p].og⟩) (rc:=⟨M.ax[q].oi,M.ax[q].og⟩) s7 K7 I hn hp hd' hj' hpp ⟨ha,ah⟩ hpr2 q0 q1 q7 q8 q9 q11 q12 (XA.cY y7) x8b (XA.cY y9) (XA.cY t11) (XA.cY t12)
       ah ah ah ah ah no7 no8 no9 (fun o=>absurd (s.lt _ o) ah) (fun o=>absurd (s.lt _ o) ah) hK
   have ww:=ww.a (aN (aN @Iv @wl) @hpr);refine wk ?_;refine u9 s7 cl.1 fun b=>?_;cases b with
   | true =>
     refine wk ?_
     exact hK 3 M V h7 nx0 s7 K7
   | false =>
     refine Ep ?_ ?_
     all_goals (first|exact hK 15 M V h7 nx0 s7 K7|exact fin _ (by simp[T.aj,f0,mp]) (by simp[T.aj,f1]) (by simp[T.aj,f7]) (by simp[T.aj,f8]) (by simp[T.aj,f9]) (by simp[T.aj,f11]) (by simp[T.aj,f12]))
 exact mid _ (by simp[T.aj,mp]) aA aA aA aA aA aA
def Wi:=(aN @yV @xI)
def SA:=(aN @yV @xk)
def V91_54:=(aN @xI @xk)
theorem jR.c {M:MD}{n:ND}{p:Nat}(h:jR M n (p:Int)) (h1:n.loose=false) (h2:n.kind=2):∃ hp:p<M.ax.length,∃ j,aB M.cl ⟨M.ax[p].oi,M.ax[p].og⟩=some j:=by obtain⟨k,e,hk,q⟩:=h;obtain rfl:p=k:=ah;obtain⟨q1,q2⟩:=q h1;have e2:=q2 (by rw[h2];decide);rw[h2]at e2;unfold alive at q1;rw[if_neg (by rw[← e2];decide),if_pos e2.symm]at q1;exact⟨hk,q1⟩
theorem jR.d {M:MD}{n:ND}{p:Nat}(h:jR M n (p:Int)) (h1:n.loose=false) (h2:n.kind=3):∃ hp:p<M.ax.length,∃ j,aB M.sh ⟨M.ax[p].oi,M.ax[p].og⟩=some j:=by obtain⟨k,e,hk,q⟩:=h;obtain rfl:p=k:=ah;obtain⟨q1,q2⟩:=q h1;have e2:=q2 (by rw[h2];decide);rw[h2]at e2;unfold alive at q1;rw[if_neg (by rw[← e2];decide),if_neg (by rw[← e2];decide)]at q1;exact⟨hk,q1⟩
theorem jR.g {M:MD}{n:ND}{p:Nat}(h:jR M n (p:Int)) (h1:n.loose=false) (h2:n.kind=1):∃ hp:p<M.ax.length,∃ j,aB M.gs ⟨M.ax[p].oi,M.ax[p].og⟩=some j:=by obtain⟨k,e,hk,q⟩:=h;obtain rfl:p=k:=ah;obtain⟨q1,q2⟩:=q h1;have e2:=q2 (by rw[h2];decide);rw[h2]at e2;unfold alive at q1;rw[if_pos e2.symm]at q1;exact⟨hk,q1⟩
theorem lT (x y z w:Int):(bt 50 (.agg ⟨[iv x,iv y,uv z,.int .u8 w]⟩) (.agg ⟨[iv x,iv y,uv z,.int .u8 w]⟩)=true)=True:=by simp[bt,bt.go]
theorem jX (x:Int):0≤IntKind.wrap .u64 x:=by show (0:Int)≤x%(2 ^ 64:Int);exact Int.emod_nonneg _ ao
theorem Ln {a:Ad}{V:VD}{h:ak}{M:MD}{n p q:Nat}{g:Int}{c:Cj}{K:Value→ak→Prop}(s:St a V h M) (I:Inv n M) (hn:n≤300)
  (hp:p<M.ax.length) (hq:q<M.ax.length) (ha1:0≤c.a1) (ha2:0≤c.a2) (hk:12≤c.kind∧c.kind≤22)
  (hN:∀ j (hj:j<(cI c.kind).length),jR M (cI c.kind)[j] (if j=0 then (p:Int) else (q:Int)))
  (hK:∀ (w e:Int) M' V' h',0≤w→Nx n M M'→St a V' h' M'→Kp (own a V) (own a V') h h'→K (.tuple #[uv w,iv e]) h'):cy env (.func 91) [mp a,iv g,.agg ⟨c.cells⟩,.agg ⟨[iv p,iv q]⟩] h K:=by
 obtain⟨ck,a0,a1,a2,a3,a4⟩:=c
 simp only[Cj.cells]at *
 have cl:=I.Iz hn
 obtain⟨h1,eh1⟩:=gz (ai (ai h (.cells [iv ck,uv a0,uv a1,uv a2,uv a3,uv a4] 43 true)) (.cells [iv p,iv q] 211 true))
 have X2:aw h.n h h1:=eh1▸((aw.new _ a_).trans (aw.new _ (aL _)))
 have g6:h1.b.get h.n=some (.cells [iv ck,uv a0,uv a1,uv a2,uv a3,uv a4] 43 true):=eh1▸((aK _ (by show h.n<h.n+1;omega)).trans (az _ _))
 have g7:h1.b.get (h.n+1)=some (.cells [iv p,iv q] 211 true):=eh1▸(az _ _)
 have n2:h1.n=h.n+2:=eh1▸rfl
 have m1:(ai h (.cells [iv ck,uv a0,uv a1,uv a2,uv a3,uv a4] 43 true)).n=h.n+1:=rfl
 have no6:¬own a V h.n:=fun o=>dy _ (s.lt _ o)
 have no7:¬own a V (h.n+1):=fun o=>absurd (s.lt _ o) ah
 unfold mp at *
 refine F91 rfl ?_
 have ww:=mW (aN Wi @m1)
 refine wk ?_
 rw[eh1]
 have s1:=s.ext X2
 clear m1
 obtain⟨i0,c0,hi0,oi0,mD,cp,cq⟩:=Ih s1 hp hq
 have cp5:=cp 4 4 ao
 have cq5:=cq 4 4 ao
 simp only[KD.cells,mB,eh,iX,iH]at cp5 cq5
 have b0:cellAt h1 (ad (h.n+1) 0)=some (iv p):=ay (off:=0) (show h.n+1<h1.n by omega) g7 rfl
 have b1:cellAt h1 (ad (h.n+1) 1)=some (iv q):=ay (off:=1) (show h.n+1<h1.n by omega) g7 rfl
 have lp0:(p:Int)<(M.ax.length:Int):=ah
 have lq0:(q:Int)<(M.ax.length:Int):=ah
 have ww:=mW (aN (aN (aN SA @mD) (aN @cp5 @cq5)) (aN (aN @Gu @lp0) @lq0))
 refine wk ?_
 have X4:aw h1.n h1 (ai (ai h1 (.cells [iv 0,iv 0,uv 0,.int .u8 0] 109 true)) (.cells [iv 0,iv 0,uv 0,.int .u8 0] 109 true)):=(aw.new _ a_).trans (aw.new _ (by show h1.n≤h1.n+1;omega))
 have gz1:(ai (ai h1 (.cells [iv 0,iv 0,uv 0,.int .u8 0] 109 true)) (.cells [iv 0,iv 0,uv 0,.int .u8 0] 109 true)).b.get h1.n=some (.cells [iv 0,iv 0,uv 0,.int .u8 0] 109 true):=(aK _ (by show h1.n<h1.n+1;omega)).trans (az _ _)
 have gz2:(ai (ai h1 (.cells [iv 0,iv 0,uv 0,.int .u8 0] 109 true)) (.cells [iv 0,iv 0,uv 0,.int .u8 0] 109 true)).b.get (h1.n+1)=some (.cells [iv 0,iv 0,uv 0,.int .u8 0] 109 true):=az _ _
 have n4:(ai (ai h1 (.cells [iv 0,iv 0,uv 0,.int .u8 0] 109 true)) (.cells [iv 0,iv 0,uv 0,.int .u8 0] 109 true)).n=h1.n+2:=rfl
 refine aM (off:=0) (cs':=[iv M.ax[p].kind,iv M.ax[p].oi,uv M.ax[p].og,.int .u8 M.ax[p].ri]) gz1 rfl rfl rfl rfl ao ?_
 obtain⟨h2,eh2⟩:=gz (aO (ai (ai h1 (.cells [iv 0,iv 0,uv 0,.int .u8 0] 109 true)) (.cells [iv 0,iv 0,uv 0,.int .u8 0] 109 true)) h1.n (.cells [iv M.ax[p].kind,iv M.ax[p].oi,uv M.ax[p].og,.int .u8 M.ax[p].ri] 109 true))
 have X5:aw h1.n h1 h2:=eh2▸(X4.trans (aw.set _ a_))
 have r11:h2.b.get h1.n=some (.cells [iv M.ax[p].kind,iv M.ax[p].oi,uv M.ax[p].og,.int .u8 M.ax[p].ri] 109 true):=eh2▸aF
 have r12:h2.b.get (h1.n+1)=some (.cells [iv 0,iv 0,uv 0,.int .u8 0] 109 true):=eh2▸((aC ah).trans gz2)
 have n5:h2.n=h1.n+2:=eh2▸rfl
 rw[eh2]
 have am1:=s1.lt _ fE
 have k23a:=aD X5 am1 mD
 have cq5a:=aG X5 hi0 cq5
 have b1a:=aD X5 (show h.n+1<h1.n by omega) b1
 have ww:=ww.a @lT
 refine wk ?_
 refine aM (off:=0) (cs':=[iv M.ax[q].kind,iv M.ax[q].oi,uv M.ax[q].og,.int .u8 M.ax[q].ri]) r12 rfl rfl rfl rfl ao ?_
 obtain⟨h3,eh3⟩:=gz (aO h2 (h1.n+1) (.cells [iv M.ax[q].kind,iv M.ax[q].oi,uv M.ax[q].og,.int .u8 M.ax[q].ri] 109 true))
 have X6:aw h1.n h1 h3:=eh3▸(X5.trans (aw.set _ ah))
 have t11:h3.b.get h1.n=some (.cells [iv M.ax[p].kind,iv M.ax[p].oi,uv M.ax[p].og,.int .u8 M.ax[p].ri] 109 true):=eh3▸((aC ah).trans r11)
 have t12:=rS eh3
 have n6:=sW eh3
 rw[eh3]
 refine wk ?_
 have XX:aw h.n h h3:=X2.jI X6
 have s3:=s.ext XX
 have y6:=X6.cY g6
 have y7:=X6.cY g7
 have nx0:Nx n M M:=⟨I.mono (aL n),rfl,rfl,rfl,rfl,rfl⟩
 have K3:Kp (own a V) (own a V) h h3:=Kp.ext XX
 have mid:∀ fr:Go.Ev.Fr,fr.get 0=some (mp a)→fr.get 1=some (iv g)→fr.get 6=some (pt h.n 0)→fr.get 7=some (pt (h.n+1) 0)→fr.get 8=some (uv 0)→fr.get 9=some (iv 0)→fr.get 10=some (pt h1.n 0)→fr.get 11=some (pt (h1.n+1) 0)→Dk.wp env 199 none fr h3 (cW env [.tmp 8,.tmp 9] K):=by
  intro fr f0 f1 f6 f7 f8 f9 f10 f11;unfold mp at f0;have X0:aw h3.n h3 h3:=aw.refl _ _;have z6:=X0.cY y6;have z7:=X0.cY y7;have z10:=X0.cY t11;have z11:=X0.cY t12;have xo:av h3 (ad h1.n 1) 2=some [iv M.ax[p].oi,uv M.ax[p].og]:=aq ah z10 rfl rfl;have yo:av h3 (ad (h1.n+1) 1) 2=some [iv M.ax[q].oi,uv M.ax[q].og]:=aq ah z11 rfl rfl;have c6:av h3 (ad h.n 0) 6=some [iv ck,uv a0,uv a1,uv a2,uv a3,uv a4]:=aq ah z6 rfl rfl;clear X0;by_cases e12:ck=12
  ·subst e12;have ww:=mW (aN (aN (aN Jw @MY) (aN @Is @Iv)) (aN (aN @Gu @lT) @dY));refine wk ?_;refine o_ s3 cl.1 I.bP fun e h4 x4=>?_;have n4:=x4.n;have s4:=s3.ext x4;have K4:=K3.trans (Kp.ext (O:=own a V) x4);have z6a:=x4.cY y6;have z7a:=x4.cY y7;have z10a:=x4.cY t11;have z11a:=x4.cY t12;have xoa:av h4 (ad h1.n 1) 2=some [iv M.ax[p].oi,uv M.ax[p].og]:=aq ah z10a rfl rfl;have yoa:av h4 (ad (h1.n+1) 1) 2=some [iv M.ax[q].oi,uv M.ax[q].og]:=aq ah z11a rfl rfl;by_cases h0:¬e=0;·have ww:=ww.a @h0;refine wk ?_;all_goals exact hK 0 e M V h4 (bN 0) nx0 s4 K4
   obtain rfl:e=0:=lx.1 h0;refine Ep ?_ ?_;all_goals (first|exact hK 0 2 M V h4 (bN 0) nx0 s4 K4|skip)
   refine uR s4 hp cl.1 ah I.bP (fun e h5 x5=>?_) fun sl V5 h5 s5 k5=>?_;·refine wk ?_;exact hK 0 e M V h5 (bN 0) nx0 (s4.ext x5) (K4.trans (Kp.ext x5))
   ·refine wk ?_;exact hK 0 0 _ V5 h5 (bN 0) ⟨I.rO hp,rfl,rfl,rfl,rfl,rfl⟩ s5 (K4.trans k5)
  by_cases e13:ck=13
  ·subst e13;have ww:=mW (aN (aN (aN Jw @MY) (aN @Is @Iv)) (aN (aN @Gu @lT) @dY));refine wk ?_;refine uR s3 hp cl.1 ah I.bP (fun e h5 x5=>?_) fun sl V5 h5 s5 k5=>?_;·refine wk ?_;exact hK 0 e M V h5 (bN 0) nx0 (s3.ext x5) (K3.trans (Kp.ext x5))
   ·refine wk ?_;exact hK 0 0 _ V5 h5 (bN 0) ⟨I.rO hp,rfl,rfl,rfl,rfl,rfl⟩ s5 (K3.trans k5)
  by_cases e17:ck=17
  ·subst e17;have ww:=mW (aN (aN (aN Jw @MY) (aN @Is @Iv)) (aN (aN @Gu @lT) @dY));refine wk ?_;refine uR s3 hq cl.1 ah I.bP (fun e h5 x5=>?_) fun sl V5 h5 s5 k5=>?_;·refine wk ?_;exact hK 0 e M V h5 (bN 0) nx0 (s3.ext x5) (K3.trans (Kp.ext x5))
   ·refine wk ?_;exact hK 0 0 _ V5 h5 (bN 0) ⟨I.rO hq,rfl,rfl,rfl,rfl,rfl⟩ s5 (K3.trans k5)
  by_cases e14:ck=14
  ·subst e14;have ww:=mW (aN (aN (aN Jw @MY) (aN @Is @Iv)) (aN (aN @Gu @lT) @dY));refine wk ?_;refine o_ s3 cl.1 I.bP fun e h4 x4=>?_;have n4:=x4.n;have s4:=s3.ext x4;have K4:=K3.trans (Kp.ext (O:=own a V) x4);have z6a:=x4.cY y6;have z7a:=x4.cY y7;have z10a:=x4.cY t11;have z11a:=x4.cY t12;have xoa:av h4 (ad h1.n 1) 2=some [iv M.ax[p].oi,uv M.ax[p].og]:=aq ah z10a rfl rfl;have yoa:av h4 (ad (h1.n+1) 1) 2=some [iv M.ax[q].oi,uv M.ax[q].og]:=aq ah z11a rfl rfl;by_cases h0:¬e=0;·have ww:=ww.a @h0;refine wk ?_;all_goals exact hK 0 e M V h4 (bN 0) nx0 s4 K4
   obtain rfl:e=0:=lx.1 h0;obtain⟨i9,c9,eV9,_,_,k23b,_,_⟩:=mg s4 hp;have ww:=ww.a (aN @k23b @lp0);refine wk ?_;refine st_k (y:={ M.ax[p]with slot:=IntKind.wrap .i64 a1 }) s4 hp (j:=3) rfl eV9 rfl rfl rfl rfl ao fun h5 s5 k5 n5=>?_;refine wk ?_;exact hK 0 0 _ V h5 (bN 0) ⟨(I.slot (y:={ M.ax[p]with slot:=IntKind.wrap .i64 a1 }) hp rfl rfl).mono (aL n),rfl,rfl,rfl,rfl,rfl⟩ s5 (K4.trans k5)
  by_cases e15:ck=15;·subst e15;have ww:=mW (aN (aN (aN Jw @MY) (aN @Is @Iv)) (aN (aN @Gu @lT) @dY));refine wk ?_;refine FX s3 hp cl.1 fun V5 h5 s5 k5=>?_;refine wk ?_;exact hK 0 0 _ V5 h5 (bN 0) ⟨(I.gone hp).mono (aL n),rfl,rfl,rfl,rfl,rfl⟩ s5 (K3.trans k5)
  by_cases e16:ck=16;·subst e16;have ww:=mW (aN (aN (aN Jw @MY) (aN @Is @Iv)) (aN (aN @Gu @lT) @dY));refine wk ?_;refine HP s3 I.K hp cl.1 cl.2 fun w l V5 h5 q1 q2 q3 s5 k5=>?_;refine wk ?_;exact hK _ 0 _ V5 h5 (jX _) ⟨(I.ab7 q1 q2 q3).mono (aL n),rfl,rfl,rfl,rfl,rfl⟩ s5 (K3.trans k5)
  by_cases e18:ck=18
  ·subst e18;obtain⟨_,j,hj⟩:=(hN 0 (by show 0<1;decide)).c rfl rfl;obtain⟨hjl,_⟩:=cE hj;have ww:=mW (aN (aN (aN Jw @MY) (aN @Is @Iv)) (aN (aN @Gu @lT) @dY));refine wk ?_;refine Mu (c:=⟨18,a0,a1,a2,a3,a4⟩) s3 hp hj hjl cl.1 ah I.bP I.cl I.C.ref I.C.fr.off (by have:=I.C.fr.len;have:=I.cl;omega) ha1 (fun e h5 x5=>?_) fun fl i hi Bk x sl ri V5 h5 q1 q2 q3 q4 s5 k5=>?_;·refine wk ?_;exact hK 0 e M V h5 (bN 0) nx0 (s3.ext x5) (K3.trans (Kp.ext x5))
   ·refine wk ?_;exact hK 0 0 _ V5 h5 (bN 0) ⟨(I.split q1 hi q2 q3 q4).rO hp,rfl,rfl,rfl,rfl,rfl⟩ s5 (K3.trans k5)
  by_cases e19:ck=19
  ·subst e19;obtain⟨_,j,hj⟩:=(hN 0 (by show 0<2;decide)).c rfl rfl;obtain⟨hjl,_⟩:=cE hj;obtain⟨_,k,hk'⟩:=(hN 1 (by show 1<2;decide)).c rfl rfl;obtain⟨hkl,_⟩:=cE hk';have ww:=mW (aN (aN (aN Jw @MY) (aN @Is @Iv)) (aN (aN @Gu @lT) @dY));refine wk ?_;refine Ii (x:=⟨M.ax[p].oi,M.ax[p].og⟩) (y:=⟨M.ax[q].oi,M.ax[q].og⟩) s3 I.cl hj hk' hjl hkl I.C.ref I.refs ha2 (fun e h5 x5=>?_) fun Bk V5 h5 q1 q2 s5 k5=>?_;·refine wk ?_;exact hK 0 e M V h5 (bN 0) nx0 (s3.ext x5) (K3.trans (Kp.ext x5))
   ·refine wk ?_;exact hK 0 0 _ V5 h5 (bN 0) ⟨(I.Bk q1 q2).mono (aL n),rfl,rfl,rfl,rfl,rfl⟩ s5 (K3.trans k5)
  by_cases e20:ck=20
  ·subst e20;obtain⟨_,d,hd⟩:=(hN 0 (by show 0<1;decide)).d rfl rfl;obtain⟨hdl,_⟩:=cE hd;have ww:=mW (aN (aN (aN Jw @MY) (aN @Is @Iv)) (aN (aN @Gu @lT) @dY));refine wk ?_;refine Lg (c:=⟨20,a0,a1,a2,a3,a4⟩) s3 hp hd hdl cl.1 ah I.bP I.sl (I.JM hn) I.S.fr.off (by have:=I.S.fr.len;have:=I.sl;omega) (fun e h5 x5=>?_) fun fl i hi x sl ri V5 h5 q1 q2 q3 q4 s5 k5=>?_;·refine wk ?_;exact hK 0 e M V h5 (bN 0) nx0 (s3.ext x5) (K3.trans (Kp.ext x5))
   ·refine wk ?_;have I1:=I.carve q1 hi (by rw[q2];exact hd) q3 q4;have I2:Inv (n+1) (M.rO M.ax[p].id g sl ⟨3,(i:Int),(M.sh[i].gen:Int),ri⟩):=I.rO hp;have I3:Inv (n+1) (({ M with fs:=fl,sh:=M.sh.set i ⟨M.sh[i].gen,true,x⟩ }:MD).rO M.ax[p].id g sl ⟨3,(i:Int),(M.sh[i].gen:Int),ri⟩):={ I1 with q:=I1.q.of rfl rfl rfl rfl,K:=I2.K,kl:=I2.kl,cw:=I2.cw };exact hK 0 0 _ V5 h5 (bN 0) ⟨I3,rfl,rfl,rfl,rfl,rfl⟩ s5 (K3.trans k5)
  by_cases e21:ck=21
  ·subst e21;obtain⟨_,d,hd⟩:=(hN 0 (by show 0<1;decide)).d rfl rfl;obtain⟨hdl,hdi,hde⟩:=cE hd;have ww:=mW (aN (aN (aN Jw @MY) (aN @Is @Iv)) (aN (aN @Gu @lT) @dY));refine wk ?_;refine qY (r:=⟨M.ax[p].oi,M.ax[p].og⟩) s3 I.sl hd hdl (I.JM hn) fun h4 x4=>?_;have n4:=x4.n;have lone:=I.lone hdl hdi;rw[← hde]at lone;generalize iu M.sh ⟨M.ax[p].oi,M.ax[p].og⟩ M.sh[d].x M.sh.length=D at lone ⊢;have z10a:=x4.cY t11;have xoa:av h4 (ad h1.n 1) 2=some [iv M.ax[p].oi,uv M.ax[p].og]:=aq ah z10a rfl rfl;have ww:=mW (aN V91_54 @dY);refine wk ?_;have X5:aw h3.n h3 (ai h4 (.cells D.cells 168 true)):=x4.trans (aw.new _ ah);have gd:(ai h4 (.cells D.cells 168 true)).b.get h4.n=some (.cells D.cells 168 true):=az _ _;have n5:(ai h4 (.cells D.cells 168 true)).n=h4.n+1:=rfl;generalize ai h4 (.cells D.cells 168 true)=h5 at X5 gd n5 ⊢;have s5:=s3.ext X5;have K5:=K3.trans (Kp.ext (O:=own a V) X5);have z10b:=X5.cY t11;have xob:av h5 (ad h1.n 1) 2=some [iv M.ax[p].oi,uv M.ax[p].og]:=aq ah z10b rfl rfl;by_cases hb:0<D.below;·have ww:=mW (aN Jw @hb);refine Ep ?_ ?_;all_goals first|exact hK 0 2 M V h5 (bN 0) nx0 s5 K5|exact hK 0 14 M V h5 (bN 0) nx0 s5 K5
   by_cases hkd:0<D.kids;·have ww:=mW (aN (aN Jw @hb) @hkd);refine Ep ?_ ?_;all_goals first|exact hK 0 2 M V h5 (bN 0) nx0 s5 K5|exact hK 0 14 M V h5 (bN 0) nx0 s5 K5
   obtain⟨l1,l2⟩:=lone hb hkd;have ww:=mW (aN (aN Jw @hb) @hkd);refine Ep ?_ ?_;·exact hK 0 2 M V h5 (bN 0) nx0 s5 K5
   refine KB (r:=⟨M.ax[p].oi,M.ax[p].og⟩) s5 hd hdl (by have:=(I.S.gen d hdl).2;omega) (by have:=I.S.fr.len;have:=I.sl;omega) I.sl fun V6 h6 s6 k6=>?_;have n6:=k6.n;refine wk ?_;exact hK 0 0 _ V6 h6 (bN 0) ⟨I.merge hdl hdi l1 (by rw[← hde];exact l2),rfl,rfl,rfl,rfl,rfl⟩ s6 (K5.trans k6)
  ·obtain rfl:ck=22:=ah;obtain⟨_,j,hj⟩:=(hN 0 (by show 0<1;decide)).c rfl rfl;obtain⟨hjl,hji,hje⟩:=cE hj;have ww:=mW (aN (aN (aN Jw @MY) (aN @Is @Iv)) (aN (aN @Gu @lT) @dY));refine wk ?_;refine j_ (r:=⟨M.ax[p].oi,M.ax[p].og⟩) s3 I.cl fun h4 x4=>?_;have n4:=x4.n;have s4:=s3.ext x4;have K4:=K3.trans (Kp.ext (O:=own a V) x4);rw[hj];unfold fC;have z10a:=x4.cY t11;have xoa:av h4 (ad h1.n 1) 2=some [iv M.ax[p].oi,uv M.ax[p].og]:=aq ah z10a rfl rfl;obtain⟨w,hwl,hw,cr,cc,_⟩:=s4.Bi (k:=j) hjl;have c5:=cc 5 ao;simp only[Ob.cells,XW.cells,cu,cR]at c5;rw[cr.dH]at c5;have hb:=I.T.dH j hjl hji;by_cases hb0:0<M.cl[j].x.dH;·have ww:=ww.a (aN @c5 @hb0);refine wk ?_;all_goals exact hK 0 14 M V h4 (bN 0) nx0 s4 K4
   have ww:=ww.a (aN @c5 @hb0);refine wk ?_;refine LK (r:=⟨M.ax[p].oi,M.ax[p].og⟩) s4 hj hjl (by have:=(I.C.gen j hjl).2;omega) (by have:=I.C.fr.len;have:=I.cl;omega) I.cl fun V6 h6 s6 k6=>?_;have n6:=k6.n;refine wk ?_;exact hK 0 0 _ V6 h6 (bN 0) ⟨I.dropC hjl hji ah (eX _),rfl,rfl,rfl,rfl,rfl⟩ s6 (K4.trans k6)
 exact mid _ (by simp[T.aj,mp]) aA aA aA aA aA aA aA
end Go.Proofs.YthjlppdnlahhoaaGreat
