/- THE PLAIN MACHINE's FUNCTIONS, walked (6). Conditions: none beyond each theorem's own. -/
import Derived.Test.YthjlppdnlahhoaaGreatP5
import Derived.Test.YthjlppdnlahhoaaGreatP4
set_option linter.unusedSimpArgs false
set_option linter.unusedVariables false
namespace Go.Proofs.YthjlppdnlahhoaaGreat
open Go.Ev
open Pl
set_option maxRecDepth 100000
set_option maxHeartbeats 4000000
def Vl (ev:List Value):Prop:=∃ w pp gi gg hw k a0 a1 a2 a3 a4 code ans:Int,ev=[.int .i64 0,.int .u64 0,.int .i64 w,.int .i64 pp,.int .i64 gi,.int .u64 gg,.int .i64 hw,.int .i64 k,.int .u64 a0,.int .u64 a1,.int .u64 a2,.int .u64 a3,.int .u64 a4,.int .i64 code,.int .u64 ans,.slice none 0 0]
def ev0:List Value:=[.int .i64 0,.int .u64 0,.int .i64 0,.int .i64 0,.int .i64 0,.int .u64 0,.int .i64 0,.int .i64 0,.int .u64 0,.int .u64 0,.int .u64 0,.int .u64 0,.int .u64 0,.int .i64 0,.int .u64 0,.slice none 0 0]
theorem xC {a:Ad}{V V0:VD}{h h0:ak}{M:MD}{p j6:Nat}{l:List Nat}{lv:Value}{how left:Int}{fr:Go.Ev.Fr}{Q:Ex→Go.Ev.Fr→ak→Prop}(s:St a V h M) (q:nD M) (L:Lv M) (hp:p<M.ps.length) (hru:M.ps[p].runs=[]) (hl:l.length≤1) (rl:RI (own a V) h lv l)
   (hg:∀ g∈l,(∃ h:g<M.gs.length,M.gs[g].is=true)∧dS M.all M.ps g=0) (h6:h.b.get j6=some (.cells ev0 46 true)) (l6:j6<h.n) (o6:¬own a V j6) (kp0:Kp (own a V0) (own a V) h0 h) (hj6:h0.n≤j6)
   (f0:fr.get 0=some (pt a.m 0)) (f1:fr.get 1=some (iv p)) (f6:fr.get 6=some (pt j6 0)) (f7:fr.get 7=some (pt a.p (p*5))) (f9:fr.get 9=some lv) (f10:fr.get 10=some (iv how)) (f11:fr.get 11=some (iv left))
   (hQ1:∀ fr' h' M' V' ev,fr'.get 6=some (pt j6 0)→av h' (ad j6 0) 16=some ev→Vl ev→St a V' h' M'→nE M M'→nD M'→Lv M'→Kp (own a V0) (own a V') h0 h'→Q .ret fr' h')
   (hQ2:∀ fr' h' M' V',l≠[]→fr'.get 8=fr.get 8→h'.b.get j6=some (.cells ev0 46 true)→St a V' h' M'→nE M M'→nD M'→Lv M'→M'.all=M.all→M'.ps=M.ps→Kp (own a V0) (own a V') h0 h'→h.n≤h'.n→¬own a V' j6→Q (.exit 1) fr' h'):Hv.wp env 110 none fr h Q:=by
 have gl:=L.gl
 have sl:=L.sl
 have clen:=L.cl
 obtain⟨la,lc,rfl,_⟩:=rl.cut
 match l,hl with
 | [],_ =>
   have ww:=mW (aN Sx @cF.{0})
   refine wk ?_
   refine fa (off:=0) (cs':=[iv 0,uv 0,iv 1,iv p,iv 0,uv 0,iv 0,iv 0,uv 0,uv 0,uv 0,uv 0,uv 0,iv 0,uv 0,nS]) h6 rfl rfl rfl rfl ao ?_
   have s6:=s.loc (cs':=[iv 0,uv 0,iv 1,iv p,iv 0,uv 0,iv 0,iv 0,uv 0,uv 0,uv 0,uv 0,uv 0,iv 0,uv 0,nS]) h6 o6
   refine wk ?_
   exact hQ1 _ _ M V _ (by simp[T.aj,f6]) (aq (by show j6<h.n;exact l6) aF rfl rfl) ⟨1,p,0,0,0,0,0,0,0,0,0,0,0,rfl⟩ s6 (.refl _) q L (kp0.loc hj6)
 | [g],_ =>
   obtain⟨⟨hgl,hgi⟩,hocc⟩:=hg g an
   obtain⟨i,o,rfl,hi,hcell⟩:=rl.r.at_ (k:=0) an
   simp only[hJ,cj]at hcell
   obtain⟨⟨j,hj⟩,lc',hch,hlc⟩:=L.ZO g hgl hgi
   have ww:=mW (aN (aN (aN Sx @dn.{0}) @cF.{0}) (aN @hcell @dO))
   refine wk ?_
   refine zI s sl clen hgl hj L.ref L.refs hch hlc fun b sh cl V1 h1 E1 E2 R1 s1 k1=>?_
   have n1:=k1.n
   have h61:=(k1.get j6 l6 o6).trans h6
   have o61:=k1.no l6 o6
   have rl1:=rl.kp k1
   cases b with
   | false =>
     refine wk ?_
     refine lY s1 (k:=g) hgl (j:=2) (y:={ M.gs[g]with x:={ M.gs[g].x with st:=6 } }) rfl rfl rfl rfl rfl ao fun h2 s2 k2 n2=>?_
     refine wk ?_
     have S2:nE M { M with sh:=sh,cl:=cl,gs:=M.gs.set g { M.gs[g]with x:={ M.gs[g].x with st:=6 } } }:=⟨rfl,rfl,rfl,rfl,rfl,rfl,rfl,rfl,rfl,rfl,E1,E2,oZ.set hgl rfl rfl rfl rfl rfl id,rfl,.refl _⟩
     exact hQ2 _ h2 _ V1 an aA ((k2.get j6 ah o61).trans h61) s2 S2 (q.of an rfl rfl rfl) (L.of S2 R1 fun z hz=>.inl hz) rfl rfl (kp0.trans (k1.trans k2)) ah (k2.no ah o61)
   | true =>
     obtain⟨i1,o1,e1',hi1,hcell1⟩:=rl1.r.at_ (k:=0) an
     cases e1'
     simp only[hJ,cj]at hcell1
     refine wk ?_
     refine lY s1 (k:=g) hgl (j:=2) (y:={ M.gs[g]with x:={ M.gs[g].x with st:=2 } }) rfl rfl rfl rfl rfl ao fun h2 s2 k2 n2=>?_
     have rl2:=rl1.kp k2
     obtain⟨i2,o2,e2',hi2,hcell2⟩:=rl2.r.at_ (k:=0) an
     cases e2'
     simp only[hJ,cj]at hcell2
     have E3:oZ (M.gs.set g { M.gs[g]with x:={ M.gs[g].x with st:=2 } }) M.gs:=oZ.set hgl rfl rfl rfl rfl rfl id
     have s2':St a V1 h2 { M with sh:=sh,cl:=cl,gs:=M.gs.set g { M.gs[g]with x:={ M.gs[g].x with st:=2 } } }:=s2
     generalize M.gs.set g { M.gs[g]with x:={ M.gs[g].x with st:=2 } }=gs2 at E3 s2'
     have ww:=ww.a @hcell2
     refine wk ?_
     have s3:=s2'.new (.cells [iv g] 3 true)
     obtain⟨h3,eh3⟩:=gz (ai h2 (.cells [iv g] 3 true))
     have k3:Kp (own a V1) (own a V1) h2 h3:=eh3▸.new
     have q3:RI (own a V1) h3 (.slice (some ⟨h2.n,0,none⟩) 1 1) [g]:=eh3▸(RI.lit s2'.lt)
     change jQ 1 _ _ (ai h2 (.cells [iv g] 3 true)) _
     rw[eh3];try rw[eh3]at s3
     refine J7 s3 hp rfl q3 fun V4 h4 s4 k4 n4=>?_
     refine wk ?_
     refine JV s4 (by simpa using hp) rfl fun V5 h5 s5 k5 n5=>?_
     have K5:=k1.trans (k2.trans (k3.trans (k4.trans k5)))
     have rl5:=rl.kp K5
     obtain⟨i5,o5,e5',hi5,hcell5⟩:=rl5.r.at_ (k:=0) an
     cases e5'
     simp only[hJ,cj]at hcell5
     have hg2:g<gs2.length:=by rw[E3.len];exact hgl
     have K5n:=K5.n
     have ww:=ww.a @hcell5
     refine wk ?_
     refine pS s5 (k:=g) hg2 fun h7 x7=>?_
     have n7:=x7.n
     refine wk ?_
     have h67:=x7.cY ((K5.get j6 l6 o6).trans h6)
     refine fa (off:=0) (cs':=[iv 0,uv 0,iv 2,iv p,iv g,uv gs2[g].gen,iv how,iv 0,uv 0,uv 0,uv 0,uv 0,uv 0,iv 0,uv 0,nS]) h67 rfl rfl rfl rfl ao ?_
     have o67:=K5.no l6 o6
     have s8:=(s5.ext x7).loc (cs':=[iv 0,uv 0,iv 2,iv p,iv g,uv gs2[g].gen,iv how,iv 0,uv 0,uv 0,uv 0,uv 0,uv 0,iv 0,uv 0,nS]) h67 o67
     refine wk ?_
     have s9:St a V5 _ { M with sh:=sh,cl:=cl,gs:=gs2,ps:=M.ps.set p ⟨M.ps[p].ring,M.ps[p].next,[g],left,M.ps[p].turns⟩ }:=(congrArg (St a V5 _) (by simp only[iD,cU])).mp s8
     have ho:∀ z,dS M.all (M.ps.set p ⟨M.ps[p].ring,M.ps[p].next,[g],left,M.ps[p].turns⟩) z=dS M.all M.ps z+(if z=g then 1 else 0):=fun z=>by have:=US (all:=M.all) hp (⟨M.ps[p].ring,M.ps[p].next,[g],left,M.ps[p].turns⟩) z;simp only[PD.Bl,hru,pA,ju]at this;omega
     have S9:nE M { M with sh:=sh,cl:=cl,gs:=gs2,ps:=M.ps.set p ⟨M.ps[p].ring,M.ps[p].next,[g],left,M.ps[p].turns⟩ }:=⟨rfl,rfl,rfl,rfl,rfl,rfl,rfl,rfl,rfl,rfl,E1,E2,E3,an,.refl _⟩
     have q9:nD { M with sh:=sh,cl:=cl,gs:=gs2,ps:=M.ps.set p ⟨M.ps[p].ring,M.ps[p].next,[g],left,M.ps[p].turns⟩ }:=by
       have q':nD { M with sh:=sh,cl:=cl,gs:=gs2 }:=q.of E3.len rfl rfl rfl;refine q'.Ip hp (all:=M.all) (q.next p hp) an (fun z=>?_) fun z hz=>?_
       · rw[ho];have:=q.dS z;split;· rename_i e;subst e;omega
         · omega
       · rw[ho]at hz;show z<gs2.length;rw[E3.len];by_cases e:z=g;· subst e;exact hgl
         · rw[if_neg e]at hz;exact q.lt z ah
     refine hQ1 _ _ _ V5 _ (by simp[T.aj,f6]) (aq (by show j6<h7.n;omega) aF rfl rfl) ⟨2,p,g,gs2[g].gen,how,0,0,0,0,0,0,0,0,rfl⟩ s9 S9 q9 (L.of S9 R1 fun z hz=>?_) ((kp0.trans (K5.trans (Kp.ext x7))).loc hj6)
     simp only at hz
     rw[ho]at hz
     by_cases e:z=g
     · subst e;exact .inr ⟨hgl,hgi⟩
     · rw[if_neg e]at hz;exact .inl ah
set_option linter.defProp false
def IG:=@Fh
theorem Qm {a:Ad}{V:VD}{h:ak}{M:MD}{p:Nat}{iw:Int}{fr:Go.Ev.Fr}{Q:Ex→Go.Ev.Fr→ak→Prop}(s:St a V h M) (q:nD M) (ha:v_ M) (hp:p<M.ps.length)
  (g0:fr.get 0=some (pt a.m 0)) (g1:fr.get 1=some (iv p)) (g2:fr.get 2=some (iv iw)) (g7:fr.get 7=some (pt a.p (p*5)))
  (hQ:∀ fr' l x v (how:Int) V' h',l.length≤1→Mv M x l→RI (own a V') h' v l→St a V' h' (M.q x)→Kp (own a V) (own a V') h h'→fr'.get 9=some v→fr'.get 10=some (iv how)→fr'.get 11=some (iv M.cfg.slice)→(∀ i,i<9→fr'.get i=fr.get i)→Q .normal fr' h'):GL.wp env 110 none fr h Q:=by
 obtain⟨w,_,_,r,c0,c1,c2,c3,c4,_⟩:=s.Gt hp
 by_cases h4:M.ps[p].turns.tmod 4=0
 all_goals
  have ww:=mW (aN Sx @c4)
  refine wk ?_
  refine La s q ha hp fun l x v how V1 h1 hl m1 r1 s1 k1=>?_
  have n1:=k1.n
  refine wk ?_
  refine hQ _ l x v how V1 h1 hl m1 r1 s1 k1 aA aA (by simp[T.aj];rfl) fun i hi=>?_
  simp only[T.aj]
  repeat (rw[if_neg (by omega)])
theorem C3 {a:Ad}{V:VD}{h:ak}{M:MD}{p:Nat}{iw:Int}{K:Value→ak→Prop}(s:St a V h M) (q:nD M) (L:Lv M) (hp:p<M.ps.length) (hru:M.ps[p].runs=[])
   (hK:∀ ev M' V' h',Vl ev→nE M M'→nD M'→Lv M'→St a V' h' M'→Kp (own a V) (own a V') h h'→K (.agg ⟨ev⟩) h'):cy env (.func 27) [mp a,iv p,iv iw] h K:=by
 unfold mp at *
 refine F27 rfl ?_
 have no:¬own a V h.n:=fun o=>dy _ (s.lt _ o)
 have s1:=s.new (.cells [iv 0,uv 0,iv 0,iv 0,iv 0,uv 0,iv 0,iv 0,uv 0,uv 0,uv 0,uv 0,uv 0,iv 0,uv 0,nS] 46 true)
 obtain⟨h1,eh1⟩:=gz (ai h (.cells [iv 0,uv 0,iv 0,iv 0,iv 0,uv 0,iv 0,iv 0,uv 0,uv 0,uv 0,uv 0,uv 0,iv 0,uv 0,nS] 46 true))
 have k1:Kp (own a V) (own a V) h h1:=eh1▸.new
 have g1:=Dj eh1
 have n1:=qk eh1
 have LV:=s1.LV
 have Bj:=q.Bj
 have ww:=mW Sx
 refine wk ?_
 rw[eh1];try rw[eh1]at s1;try rw[eh1]at LV
 have hTl:(Tl M.all M.ps).length≤64:=by
   refine bO (zo M.gs.length _ (fun x hx=>q.lt x ?_) fun x=>?_) q.zP;· rw[← wF];exact kD.2 hx
   · rw[wF];exact q.dS x
 refine aP (fun m fr' h''=>∃ (M1:MD) (V1:VD),m=(Tl M1.all M1.ps).length∧(∃ b,fr'.get 8=some (.bool b))∧h''.b.get h.n=some (.cells ev0 46 true)∧St a V1 h'' M1∧nE M M1∧nD M1∧Lv M1∧(∀ h1:p<M1.ps.length,M1.ps[p].runs=[])∧Kp (own a V) (own a V1) h h''∧¬own a V1 h.n∧h.n<h''.n) (Tl M.all M.ps).length ?_ ah ?_
 · exact⟨M,V,rfl,⟨false,aA⟩,g1,s1,.refl _,q,L,fun _=>hru,k1,no,ah⟩
 rintro m fr2 h2 ⟨M1,V1,rfl,⟨b8,f8⟩,gj,s2,S2,Q2,L2,R2,k2,no2,hn2⟩ hag
 have g0:fr2.get 0=some (pt a.m 0):=(hag 0 rfl).trans (by simp[T.aj,bY])
 have g1:fr2.get 1=some (iv p):=(hag 1 rfl).trans (by simp[T.aj,bY])
 have g2:fr2.get 2=some (iv iw):=(hag 2 rfl).trans (by simp[T.aj,bY])
 have g6:fr2.get 6=some (pt h.n 0):=(hag 6 rfl).trans aA
 have g7:fr2.get 7=some (pt a.p (p*5)):=(hag 7 rfl).trans (by simp[T.aj,Addr.add_lit])
 have hp2:p<M1.ps.length:=by rw[S2.ps];exact hp
 have hr2:=R2 hp2
 obtain⟨w,_,_,r,c0,c1,c2,c3,c4,_⟩:=s2.Gt hp2
 obtain⟨na,nc,ne,_⟩:=r.next.cut
 have rn:=r.next
 have hnl:=Q2.next p hp2
 rw[ne]at c1 rn
 by_cases hA:M1.ps[p].next≠[]∧0<M1.ps[p].left
 · obtain⟨hA1,hA2⟩:=hA;have hlen1:M1.ps[p].next.length=1:=by have:=oE.2 hA1;omega
   have ww:=mW (aN (aN IG @c1) @c3);refine wk ?_;refine oF s2 hp2 ah (RI.nil s2.lt) fun V3 h3 s3 k3 n3=>?_;have m3:Mv M1 (M1.all,M1.ps.set p { M1.ps[p]with next:=[] }) M1.ps[p].next:=Mv.set (Mv.refl Q2) hp2 rfl an fun z=>by simp;omega
   have s3':St a V3 h3 (M1.q (M1.all,M1.ps.set p { M1.ps[p]with next:=[] })):=s3;have Q3:=m3.Sv Q2;have L3:=m3.lv L2;have S3:=S2.trans m3.same;have hp3:p<(M1.q (M1.all,M1.ps.set p { M1.ps[p]with next:=[] })).ps.length:=by simpa[MD.q]using hp2
   have hr3:(M1.q (M1.all,M1.ps.set p { M1.ps[p]with next:=[] })).ps[p].runs=[]:=by simp only[MD.q,cU];exact hr2
   have hg3:∀ g∈M1.ps[p].next,(∃ h:g<M1.gs.length,M1.gs[g].is=true)∧dS (M1.q (M1.all,M1.ps.set p { M1.ps[p]with next:=[] })).all (M1.q (M1.all,M1.ps.set p { M1.ps[p]with next:=[] })).ps g=0:=fun g hg=>by have h1:=m3.dS g;have h2:=kD.2 hg;have h3:=Q2.dS g;simp only at h1;exact⟨L2.lv g ah,by simp only[MD.q];omega⟩
   refine wk ?_;refine xC (how:=1) (left:=M1.ps[p].left) (V0:=V) (h0:=h) (l:=M1.ps[p].next) (p:=p) (j6:=h.n) s3' Q3 L3 hp3 hr3 hnl (rn.kp k3) hg3 ((k3.get _ hn2 no2).trans gj) ah (k3.no hn2 no2) (k2.trans k3) a_ (by simp[T.aj,g0]) (by simp[T.aj,g1]) (by simp[T.aj,g6]) (by simp[T.aj,g7]) aA aA aA (fun fr' h' M' V' ev hf hc hev sM SM QM LM kM=>?_) (fun fr' h' M' V' hne hf8 hb' sM SM QM LM ha hps kM hn ho=>?_);· have hfk:=bf hf;have ww:=mW (aN Sx @hc);refine wk ?_;exact hK ev M' V' h' hev (S3.trans SM) QM LM sM kM
   · have ww:=mW Sx;refine wk ?_;refine⟨(Tl M'.all M'.ps).length,?_,M',V',rfl,⟨b8,hf8.trans (by simp[T.aj,f8])⟩,hb',sM,S3.trans SM,QM,LM,fun h1=>?_,kM,ho,ah⟩
     · rw[ha,hps];have hTT:=GP (l:=M1.ps[p].next) (fun z=>m3.dS z);try simp only[gy]at hTT
       try simp only[MD.q]
       have hpos:=oE.2 hne;omega
     · simp only[hps];exact hr3
 · have hnz:∀ {P:Prop},(M1.ps[p].next.length=0→P)→(0<M1.ps[p].next.length→¬0<M1.ps[p].left→P)→P:=fun h1 h2=>by
     rcases Nat.eq_zero_or_pos M1.ps[p].next.length with h|h
     · exact h1 h
     · exact h2 h fun h'=>hA ⟨oE.1 h,h'⟩
   cases b8 with
   | true =>
     refine hnz (fun hz=>?_) (fun hz hz2=>?_)
     all_goals
       have ww:=mW (aN (aN @c1 @c3) @c4)
       refine wk ?_
       refine Qm (iw:=iw) s2 Q2 L2.jF hp2 (by simp[T.aj,g0]) (by simp[T.aj,g1]) (by simp[T.aj,g2]) (by simp[T.aj,g7]) fun fr3 l x v how V5 h5 hl m5 r5 s5 k5 f9 f10 f11 fs=>?_
       have g0:=(fs 0 ao).trans (show _=some (pt a.m 0) by simp[T.aj,g0])
       have g1:=(fs 1 ao).trans (show _=some (iv p) by simp[T.aj,g1])
       have g6:=(fs 6 ao).trans (show _=some (pt h.n 0) by simp[T.aj,g6])
       have g7:=(fs 7 ao).trans (show _=some (pt a.p (p*5)) by simp[T.aj,g7])
       have f8:=(fs 8 ao).trans (show _=some (.bool true) by simp[T.aj,f8])
       have n5:=k5.n
       have Q5:=m5.Sv Q2
       have L5:=m5.lv L2
       have S5:=S2.trans m5.same
       have hp5:p<(M1.q x).ps.length:=by show p<x.2.length;rw[m5.len];exact hp2
       have hr5:(M1.q x).ps[p].runs=[]:=by rw[← hr2];exact m5.runs p hp5 hp2
       have hg5:∀ g∈l,(∃ h:g<(M1.q x).gs.length,(M1.q x).gs[g].is=true)∧dS (M1.q x).all (M1.q x).ps g=0:=fun g hg=>by have h1:=m5.dS g;have h2:=kD.2 hg;have h3:=Q2.dS g;exact⟨L2.lv g ah,by simp only[MD.q];omega⟩
       have ww:=mW IG
       refine wk ?_
       refine xC (V0:=V) (h0:=h) (l:=l) (p:=p) (j6:=h.n) s5 Q5 L5 hp5 hr5 hl r5 hg5 ((k5.get _ hn2 no2).trans gj) (by have:=k5.n;omega) (k5.no hn2 no2) (k2.trans k5) a_ g0 g1 g6 g7 f9 f10 f11 (fun fr' h' M' V' ev hf hc hev sM SM QM LM kM=>?_) (fun fr' h' M' V' hne hf8 hb' sM SM QM LM ha hps kM hn ho=>?_)
       · have hfk:=bf hf;have ww:=mW (aN Sx @hc);refine wk ?_;exact hK ev M' V' h' hev (S5.trans SM) QM LM sM kM
       · have ww:=mW Sx;refine wk ?_;refine⟨(Tl M'.all M'.ps).length,?_,M',V',rfl,⟨true,hf8.trans f8⟩,hb',sM,S5.trans SM,QM,LM,fun h1=>?_,kM,ho,ah⟩
         · rw[ha,hps];have hTT:=GP (l:=l) (fun z=>m5.dS z);try simp only[gy]at hTT
           try simp only[MD.q]
           have hpos:=oE.2 hne;omega
         · simp only[hps];exact hr5
   | false =>
     refine hnz (fun hz=>?_) (fun hz hz2=>?_)
     all_goals
       have ww:=mW (aN (aN @c1 @c3) @c4)
       refine wk ?_
       refine Qp s2 hp2 rfl fun V3 h3 s3 k3 n3=>?_
       have mz:Mv M1 (M1.all,M1.ps.set p { M1.ps[p]with turns:=IntKind.wrap .u64 (M1.ps[p].turns+1) }) []:=Mv.set (Mv.refl Q2) hp2 rfl hnl fun z=>rfl
       have s3':St a V3 h3 (M1.q (M1.all,M1.ps.set p { M1.ps[p]with turns:=IntKind.wrap .u64 (M1.ps[p].turns+1) })):=s3
       have Q3:=mz.Sv Q2
       have L3:=mz.lv L2
       have S3:=S2.trans mz.same
       have hp3:p<(M1.q (M1.all,M1.ps.set p { M1.ps[p]with turns:=IntKind.wrap .u64 (M1.ps[p].turns+1) })).ps.length:=by simpa[MD.q]using hp2
       have hr3:(M1.q (M1.all,M1.ps.set p { M1.ps[p]with turns:=IntKind.wrap .u64 (M1.ps[p].turns+1) })).ps[p].runs=[]:=by simp only[MD.q,cU];exact hr2
       have oz:=mz.dS
       refine wk ?_
       refine Qm (iw:=iw) s3' Q3 L3.jF hp3 (by simp[T.aj,g0]) (by simp[T.aj,g1]) (by simp[T.aj,g2]) (by simp[T.aj,g7]) fun fr3 l x v how V5 h5 hl m5 r5 s5 k5' f9 f10 f11 fs=>?_
       have k5:=k3.trans k5'
       have g0:=(fs 0 ao).trans (show _=some (pt a.m 0) by simp[T.aj,g0])
       have g1:=(fs 1 ao).trans (show _=some (iv p) by simp[T.aj,g1])
       have g6:=(fs 6 ao).trans (show _=some (pt h.n 0) by simp[T.aj,g6])
       have g7:=(fs 7 ao).trans (show _=some (pt a.p (p*5)) by simp[T.aj,g7])
       have f8:=(fs 8 ao).trans (show _=some (.bool true) by simp[T.aj])
       have n5:=k5.n
       have Q5:=m5.Sv Q3
       have L5:=m5.lv L3
       have S5:=S3.trans m5.same
       have m5':=mz.trans m5
       have hp5:p<((M1.q (M1.all,M1.ps.set p { M1.ps[p]with turns:=IntKind.wrap .u64 (M1.ps[p].turns+1) })).q x).ps.length:=by show p<x.2.length;rw[m5.len];exact hp3
       have hr5:((M1.q (M1.all,M1.ps.set p { M1.ps[p]with turns:=IntKind.wrap .u64 (M1.ps[p].turns+1) })).q x).ps[p].runs=[]:=by rw[← hr3];exact m5.runs p hp5 hp3
       have hg5:∀ g∈l,(∃ h:g<M1.gs.length,M1.gs[g].is=true)∧dS x.1 x.2 g=0:=fun g hg=>by have h1:=m5'.dS g;rw[gy]at h1;have h2:=kD.2 hg;have h3:=Q2.dS g;exact⟨L2.lv g ah,ah⟩
       have ww:=mW IG
       refine wk ?_
       refine xC (V0:=V) (h0:=h) (l:=l) (p:=p) (j6:=h.n) s5 Q5 L5 hp5 hr5 hl r5 hg5 ((k5.get _ hn2 no2).trans gj) (by have:=k5.n;omega) (k5.no hn2 no2) (k2.trans k5) a_ g0 g1 g6 g7 f9 f10 f11 (fun fr' h' M' V' ev hf hc hev sM SM QM LM kM=>?_) (fun fr' h' M' V' hne hf8 hb' sM SM QM LM ha hps kM hn ho=>?_)
       · have hfk:=bf hf;have ww:=mW (aN Sx @hc);refine wk ?_;exact hK ev M' V' h' hev (S5.trans SM) QM LM sM kM
       · have ww:=mW Sx;refine wk ?_;refine⟨(Tl M'.all M'.ps).length,?_,M',V',rfl,⟨true,hf8.trans f8⟩,hb',sM,S5.trans SM,QM,LM,fun h1=>?_,kM,ho,ah⟩
         · rw[ha,hps];have hTT:=GP (l:=l) (fun z=>m5'.dS z);try simp only[gy]at hTT
           try simp only[MD.q]
           have hpos:=oE.2 hne;omega
         · simp only[hps];exact hr5
theorem aM {h:ak}{K:Value→ak→Prop}[iJ K] {n i off:Nat}{cs cs' l:List Value}{e:TypeId}{b:Bool}{v:Value}(hb:h.b.get i=some (.cells cs e b)) (hv:v.cells.toList=l) (hl:l.length=n) (ho:fV cs off l=some cs') (h1:l.all aE=true) (hn:n≠0)
  (q:K undef (aO h i (.cells cs' e b))):jQ n (pt i off) v h K:=fa hb hv hl ho h1 hn q
theorem J5 {n:Int}{h:ak}{K:Value→ak→Prop}(hK:K (.bool false) h):cy env (.func 155) [uv n] h K:=by refine F155 rfl ?_;refine wk ?_;all_goals first|exact hK|omega
theorem S_ {x y:Int}{h:ak}{K:Value→ak→Prop}(hK:∀ r:Int,K (iv r) h):cy env (.func 147) [uv x,uv y] h K:=by
 refine F147 rfl ?_;refine wk ?_;refine J5 ?_;refine wk ?_;refine J5 ?_;by_cases h1:x<y;·refine wk ?_;exact hK _
 ·by_cases h2:y<x;·refine wk ?_;exact hK _
  ·refine wk ?_;exact hK _
theorem Si {x y:TD}{h:ak}{K:Value→ak→Prop}(hK:∀ (r:Int) h',aw h.n h h'→K (iv r) h'):cy env (.func 146) [.agg ⟨[uv x.at_,iv x.id]⟩,.agg ⟨[uv y.at_,iv y.id]⟩] h K:=by refine F146 rfl ?_;have X1:aw h.n h (ai h (.cells [uv x.at_,iv x.id] 137 true)):=br;have d1:cellAt (ai (ai h (.cells [uv x.at_,iv x.id] 137 true)) (.cells [uv y.at_,iv y.id] 137 true)) ⟨h.n,0,none⟩=some (uv x.at_):=(lH (cK _)).trans bI;have d2:cellAt (ai (ai h (.cells [uv x.at_,iv x.id] 137 true)) (.cells [uv y.at_,iv y.id] 137 true)) ⟨h.n+1,0,none⟩=some (uv y.at_):=bI (h:=ai h (.cells [uv x.at_,iv x.id] 137 true));refine wk ?_;refine S_ fun r=>?_;refine wk ?_;exact hK r _ ((aw.new _ a_).trans (aw.new _ (by simp[ai])))
structure uH (i:Nat) (h h':ak):Prop where
 n:h.n≤h'.n
 get:∀ j,j<h.n→j≠i→h'.b.get j=h.b.get j
theorem uH.refl (i:Nat) (h:ak):uH i h h:=⟨aQ _,fun _ _ _=>rfl⟩
theorem uH.trans {i:Nat}{h h1 h2:ak}(a:uH i h h1) (b:uH i h1 h2):uH i h h2:=⟨bO a.n b.n,fun j hj hi=>(b.get j (bX hj a.n) hi).trans (a.get j hj hi)⟩
theorem uH.ext {i:Nat}{h h':ak}(x:aw h.n h h'):uH i h h':=⟨x.n,fun j hj _=>x.get j hj⟩
theorem uH.set {i:Nat}{h:ak}{k:iY}:uH i h (aO h i k):=⟨aQ _,fun _ _ hj=>aC hj⟩
theorem swap_perm {α:Type}:∀ (l:List α) (j:Nat) (h:j+1<l.length),((l.set (j+1) l[j]).set j l[j+1]).Perm l
 | [],_,h=>by simp at h
 | [_],_,h=>by simp at h
 | x::y::l,0,_=>by simpa using List.Perm.swap x y l
 | x::y::l,j+1,h=>by have:=swap_perm (y::l) j (by simpa using h);simp only[List.set_cons_succ,sT];exact List.Perm.cons x this
theorem Tg {i n:Nat}{l:List TD}{h:ak}{K:Value→ak→Prop}(hi:i<h.n) (hb:h.b.get i=some (.cells (l.map TD.cells).flatten 137 false)) (hn:l.length=n) (hl:n≤1000)
   (hK:∀ (l':List TD) h',l'.Perm l→h'.b.get i=some (.cells (l'.map TD.cells).flatten 137 false)→uH i h h'→K (dE []) h'):cy env (.func 163) [.slice (some ⟨i,0,none⟩) n bh,iv 0,iv n,.func (.func 146) #[] #[]] h K:=by
 refine F163 rfl ?_
 refine wk ?_
 refine aP (fun m fr' h''=>∃ (k:Nat) (l1:List TD),1≤k∧m=n-k∧fr'.get 8=some (iv k)∧l1.Perm l∧h''.b.get i=some (.cells (l1.map TD.cells).flatten 137 false)∧uH i h h'') (n-1) ?_ ah ?_
 · exact⟨1,l,ah,ah,aA,.refl _,hb,.refl _ _⟩
 rintro m fr2 h2 ⟨k,l1,hk,rfl,f8,p1,hb1,c1⟩ hag
 have g0:fr2.get 0=some (.slice (some ⟨i,0,none⟩) n bh):=(hag 0 rfl).trans (by simp[T.aj,bY])
 have g1:fr2.get 1=some (iv 0):=(hag 1 rfl).trans (by simp[T.aj,bY])
 have g2:fr2.get 2=some (iv n):=(hag 2 rfl).trans (by simp[T.aj,bY])
 have g3:fr2.get 3=some (.func (.func 146) #[] #[]):=(hag 3 rfl).trans (by simp[T.aj,bY])
 have hl1:l1.length=n:=p1.length_eq.trans hn
 by_cases aT:k<n
 · refine wk ?_;refine aP (fun m fr' h''=>∃ (j:Nat) (l3:List TD),j≤k∧m=j∧fr'.get 9=some (iv j)∧l3.Perm l∧h''.b.get i=some (.cells (l3.map TD.cells).flatten 137 false)∧uH i h h'') k ?_ ah ?_;· exact⟨k,l1,ah,rfl,aA,p1,hb1,c1⟩
   rintro m fr3 h3 ⟨j,l3,hj,rfl,f9,p3,hb3,c3⟩ hag3;have k0:fr3.get 0=some (.slice (some ⟨i,0,none⟩) n bh):=(hag3 0 rfl).trans (by simp[T.aj,g0]);have k1:fr3.get 1=some (iv 0):=(hag3 1 rfl).trans (by simp[T.aj,g1]);have k3:fr3.get 3=some (.func (.func 146) #[] #[]):=(hag3 3 rfl).trans (by simp[T.aj,g3]);have k8:fr3.get 8=some (iv k):=(hag3 8 rfl).trans (by simp[T.aj,f8]);have n3:=c3.n;have w8:=rU k;have done:∀ (l4:List TD) (h4:ak) (fr4:Go.Ev.Fr),l4.Perm l→h4.b.get i=some (.cells (l4.map TD.cells).flatten 137 false)→uH i h h4→fr4.get 8=some (iv ((k+1:Nat):Int))→∃ m,m<n-k∧∃ (k:Nat) (l1:List TD),1≤k∧m=n-k∧Go.Ev.T.get fr4 8=some (iv k)∧l1.Perm l∧h4.b.get i=some (.cells (l1.map TD.cells).flatten 137 false)∧uH i h h4 :=
     fun l4 h4 fr4 p4 hb4 c4 f=>⟨n-(k+1),ah,k+1,l4,ah,rfl,f,p4,hb4,c4⟩
   cases m with
   | zero =>
     have ww:=mW @w8
     refine wk ?_
     exact done l3 h3 _ p3 hb3 c3 aA
   | succ j =>
     have hl3:l3.length=n:=p3.length_eq.trans hn
     have w9:IntKind.wrap .i64 (((j+1:Nat):Int)-1)=(j:Int):=by rw[wrap_i64 ah ah];omega
     have ldA:=dC (j:=0) (n:=2) (sz:=2) (k:=j+1) hb3 ah TD.hf ah ao
     have ldB:=dC (j:=0) (n:=2) (sz:=2) (k:=j) hb3 ah TD.hf ah ao
     simp only[cj,TD.cells,eh,iX,iH,List.take_nil]at ldA ldB
     have ww:=mW (aN (aN @w9 @ldA) @ldB)
     refine wk ?_
     refine Si (x:=l3[j+1]) (y:=l3[j]) fun r h4 x4=>?_
     have n4:=x4.n
     have hb4:=x4.cY hb3
     have ldA4:=aG x4 ah ldA
     have ldB4:=aG x4 ah ldB
     by_cases hr:r<0
     · refine wk ?_;refine jc (l:=l3) (f:=TD.cells) (sz:=2) (k:=j+1) (j:=0) (y:=l3[j]) hb4 TD.hf ah rfl rfl rfl rfl ao ?_;obtain⟨h5,eh5⟩:=gz (aO h4 i (.cells ((l3.set (j+1) l3[j]).map TD.cells).flatten 137 false));have hb5:=rS eh5;have c5:uH i h4 h5:=eh5▸.set;have n5:=sW eh5;rw[eh5];refine wk ?_;refine jc (l:=l3.set (j+1) l3[j]) (f:=TD.cells) (sz:=2) (k:=j) (j:=0) (y:=l3[j+1]) hb5 TD.hf (by simp;omega) rfl rfl rfl rfl ao ?_;obtain⟨h6,eh6⟩:=gz (aO h5 i (.cells (((l3.set (j+1) l3[j]).set j l3[j+1]).map TD.cells).flatten 137 false));have hb6:=rS eh6;have c6:uH i h5 h6:=eh6▸.set;have n6:=sW eh6;rw[eh6];refine wk ?_;exact⟨j,ah,j,_,ah,rfl,aA,(swap_perm l3 j ah).trans p3,hb6,c3.trans ((uH.ext x4).trans (c5.trans c6))⟩
     · have ww:=ww.a @w8;refine wk ?_;exact done l3 h4 _ p3 hb4 (c3.trans (uH.ext x4)) aA
 · refine wk ?_;exact hK _ _ p1 hb1 c1
theorem OV {i n:Nat}{l:List TD}{h:ak}{K:Value→ak→Prop}(hi:i<h.n) (hb:h.b.get i=some (.cells (l.map TD.cells).flatten 137 false)) (hn:l.length=n) (hl:n<20)
  (hK:∀ (l':List TD) h',l'.Perm l→h'.b.get i=some (.cells (l'.map TD.cells).flatten 137 false)→uH i h h'→K (dE []) h'):cy env (.func 154) [.slice (some ⟨i,0,none⟩) n bh,iv n,.func (.func 146) #[] #[]] h K:=by
 refine F154 rfl ?_
 refine wk ?_
 refine vU 2 ao ?_
 rw[mY]
 refine wk ?_
 refine Tg hi hb hn ah fun l' h' p hb' c=>?_
 refine wk ?_
 refine vU 2 ao ?_
 rw[mY]
 refine wk ?_
 exact hK l' h' p hb' c
theorem Lb {i n:Nat}{l:List TD}{h:ak}{K:Value→ak→Prop}(hi:i<h.n) (hb:h.b.get i=some (.cells (l.map TD.cells).flatten 137 false)) (hn:l.length=n) (hl:n<20)
  (hK:∀ (l':List TD) h',l'.Perm l→h'.b.get i=some (.cells (l'.map TD.cells).flatten 137 false)→uH i h h'→K (dE []) h'):cy env (.func 145) [.slice (some ⟨i,0,none⟩) n bh,.func (.func 146) #[] #[]] h K:=by
 refine F145 rfl ?_
 refine wk ?_
 refine OV hi hb hn hl fun l' h' p hb' c=>?_
 refine wk ?_
 exact hK l' h' p hb' c
theorem Me {a:Ad}{V:VD}{h:ak}{M:MD}{at':Int}{g:Nat}{K:Value→ak→Prop}(s:St a V h M) (hl:M.tm.length<19)
  (hK:∀ tm V' h',tm.Perm (M.tm++[⟨at',(g:Int)⟩])→St a V' h' { M with tm:=tm }→Kp (own a V) (own a V') h h'→K (dE []) h'):cy env (.func 124) [mp a,uv at',iv g] h K:=by
 obtain⟨ta,tc,te,t1,t2,t3,_⟩:=s.tm.len
 have LF:=s.LF
 rw[aI]at te t3
 rw[te]at LF
 unfold mp at *
 refine F124 rfl ?_
 refine wk ?_
 refine js Ia ao t1 t2 t3 ?_
 refine wk ?_
 obtain⟨h0,eh0⟩:=gz (ai h (.cells [uv at',iv g] 137 true))
 have X0:=tW eh0
 have d0:av h0 (ad h.n 0) 2=some [uv at',iv g]:=eh0▸(aV rfl)
 have n0:=qk eh0
 change iK 137 2 _ _ (ai h (.cells [uv at',iv g] 137 true)) _
 rw[eh0]
 have hfc:firstCells h0 2 M.tm.length (.slice ta M.tm.length M.tm.length)=some (M.tm.map TD.cells).flatten:=by
  have r0:=RS.T (s.tm.kp (Kp.ext X0));by_cases hz:M.tm.length=0;·have hz':M.tm=[]:=dq.1 hz;rw[hz'];cases ta<;>rfl
  ·have:=r0.first hz
   rw[te]at this;cases ta with
   | none=>exact absurd (t2 rfl) ah
   | some x=>simpa only[firstCells]using this
 refine jL (n:=M.tm.length) (m:=1) (cs:=(M.tm.map TD.cells).flatten) (new:=[uv at',iv g]) ah (fun e=>by have:=t2 e;omega) hfc rfl ao ao (by simpa only[firstCells,fk]using d0) rfl ?_
 obtain⟨h1,eh1⟩:=gz (ai h0 (.cells ((M.tm.map TD.cells).flatten++[uv at',iv g]) 137 false))
 have X1:=tW eh1
 have g1:h1.b.get h0.n=some (.cells (((M.tm++[⟨at',(g:Int)⟩]:List TD)).map TD.cells).flatten 137 false):=eh1▸(by rw[az];simp[TD.cells])
 have n1:=qk eh1
 rw[eh1]
 have n0':(ai h (.cells (Value.agg ⟨[uv at',iv g]⟩).cells.toList 137 true)).n=h.n+1:=rfl
 have X01:aw h.n h h1:=X0.jI X1
 have s1:=s.ext X01
 refine wk ?_
 refine aM (off:=27) (cs':=cL a { V with tm:=.slice (some ⟨h0.n,0,none⟩) (M.tm.length+1) bh } M) s1.cZ rfl rfl rfl rfl ao ?_
 obtain⟨h2,eh2⟩:=gz (aO h1 a.m (.cells (cL a { V with tm:=.slice (some ⟨h0.n,0,none⟩) (M.tm.length+1) bh } M) 98 true))
 have gm:=rS eh2
 have hm:a.m<h.n:=s.lt _ fE
 have g2:h2.b.get h0.n=some (.cells (((M.tm++[⟨at',(g:Int)⟩]:List TD)).map TD.cells).flatten 137 false):=eh2▸((aC ah).trans g1)
 have n2:=sW eh2
 have c2:uH a.m h1 h2:=eh2▸.set
 rw[eh2]
 have c27:cellAt h2 (ad a.m 27)=some (.slice (some ⟨h0.n,0,none⟩) (M.tm.length+1) bh):=ay ah gm rfl
 refine wk ?_
 refine Lb ah g2 an ah fun l' h3 p3 g3 c3=>?_
 have n3:=c3.n
 refine wk ?_
 have X1':aw h.n h (aO h1 h0.n (.cells (l'.map TD.cells).flatten 137 false)):=X01.trans (aw.set _ ah)
 have hl':l'.length=M.tm.length+1:=by rw[p3.length_eq];simp
 have rT:RS (own a V) 2 (aO h1 h0.n (.cells (l'.map TD.cells).flatten 137 false)) (.slice (some ⟨h0.n,0,none⟩) (M.tm.length+1) bh) (l'.map TD.cells) :=
  RS.pre (N:=h.n) (by show h0.n<h1.n;omega) aF (by rw[← TD.len,iF]) hl'.symm s.lt ah ah
 have s1':=s.ext X1'
 obtain⟨s4,_⟩:=s1'.FT (now:=M.now) (aX:=M.aX) (cw:=M.cw) (calls:=M.calls) s1'.all rT s1'.log
 refine hK l' { V with tm:=.slice (some ⟨h0.n,0,none⟩) (M.tm.length+1) bh } h3 p3 (s4.ext ⟨by show h1.n≤h3.n;omega,fun j hj=>?_⟩) ⟨ah,fun j hj ho=>?_,fun j _ o=>o⟩
 ·have hj:j<h1.n:=hj;by_cases e1:j=a.m;·subst e1;rw[aF,c3.get _ ah ah];exact gm
  ·rw[aC e1];by_cases e2:j=h0.n;·subst e2;rw[aF];exact g3
   ·rw[aC e2,c3.get j ah e2,c2.get j hj e1]
 ·have e1:j≠a.m:=fun e=>ho (e▸fE);rw[c3.get j ah ah,c2.get j ah e1,X01.get j hj]
theorem tK {all:List Nat}{ps:List PD}{g:Nat}:(my all ps g).2.length=ps.length∧∀ p (h:p<(my all ps g).2.length) (h':p<ps.length),(my all ps g).2[p].next=ps[p].next.erase g∧((my all ps g).2[p].runs=[]∨(my all ps g).2[p].runs=ps[p].runs):=by
 generalize hy:(my all ps g).2=y;simp only[my]at hy;cases hr:dF (cO all ps g).2 g with
 | none =>
   rw[hr]at hy
   simp only at hy
   subst hy
   exact⟨by simp[cO],fun p h h'=>by simp[cO,dR]⟩
 | some k =>
   obtain⟨hk,_⟩:=lI hr
   rw[hr]at hy
   simp only[JH,bw hk]at hy
   subst hy
   refine⟨by simp[cO],fun p h h'=>?_⟩
   simp only[cJ]
   split
   · rename_i e;subst e;simp[cO,dR]
   · simp[cO,dR]
theorem Gg {M:MD}(q:nD M) (g:Nat):nD (M.off g)∧∀ z,dS (M.off g).all (M.off g).ps z=if z=g then 0 else dS M.all M.ps z:=by
 have ho:∀ z,dS (M.off g).all (M.off g).ps z=if z=g then 0 else dS M.all M.ps z:=fun z=>Uo q.dS (fun p hp=>by obtain⟨i,hi,rfl⟩:=eU hp;exact q.runs i hi) z
 obtain⟨h1,h2⟩:=tK (all:=M.all) (ps:=M.ps) (g:=g);refine⟨⟨by show (my M.all M.ps g).2.length≤8;rw[h1];exact q.Bj,q.zP,fun z=>?_,fun z hz=>?_,fun p h=>?_,fun p h=>?_,q.ring,q.nR⟩,ho⟩
 ·rw[ho];split;·omega
  ·exact q.dS z
 ·rw[ho]at hz;by_cases e:z=g;·rw[if_pos e]at hz;omega
  ·rw[if_neg e]at hz;exact q.lt z hz
 ·have h':p<M.ps.length:=by rw[← h1];exact h
  show (my M.all M.ps g).2[p].next.length≤1
  rw[(h2 p h h').1];exact bO qS (q.next p h')
 ·have h':p<M.ps.length:=by rw[← h1];exact h
  show (my M.all M.ps g).2[p].runs.length≤1;rcases(h2 p h h').2 with e|e;·rw[e];simp
  ·rw[e];exact q.runs p h'
def TmL (M:MD):Prop:=∀ t∈M.tm,∃ g:Nat,t.id=(g:Int)∧∃ h:g<M.gs.length,M.gs[g].is=true
structure ue (M0 M:MD):Prop where
 same:nE M0 M
 q:nD M
 L:Lv M
 t:TmL M
theorem nE.Wb {M M':MD}(S:nE M M') (t:TmL M):TmL M':=fun x hx=>by
 obtain⟨g,e,h,hi⟩:=t x (S.tm.subset hx);have h':g<M'.gs.length:=by rw[S.gs.len];exact h
 exact⟨g,e,h',by rw[S.gs.is g h' h];exact hi⟩
theorem ue.step {M0 M M':MD}(r:ue M0 M) (S:nE M M') (q:nD M') (L:Lv M'):ue M0 M':=⟨r.same.trans S,q,L,S.Wb r.t⟩
theorem wy (l:List TD) (g:Nat):(oX l g).Sublist l:=List.filter_sublist
theorem ue.off {M0 M:MD}(r:ue M0 M) {g:Nat}{gs:List (Ob GD)}{all:List Nat}(E:oZ gs M.gs) (hg:∃ h:g<M.gs.length,M.gs[g].is=true) (ha:all=(M.off g).all∨all=(M.off g).all++[g]):ue M0 { M.off g with gs:=gs,all:=all }:=by
 obtain⟨q1,ho⟩:=Gg r.q g;have S:nE M { M.off g with gs:=gs,all:=all }:=⟨rfl,rfl,rfl,rfl,rfl,rfl,rfl,rfl,rfl,rfl,.refl _,.refl _,E,tK.1,wy _ _⟩;have hoc:∀ z,dS all (M.off g).ps z≤(if z=g then 1 else dS M.all M.ps z):=fun z=>by
  have h1:=ho z;rcases ha with rfl|rfl;·rw[h1];split<;>omega
  ·have:dS ((M.off g).all++[g]) (M.off g).ps z=dS (M.off g).all (M.off g).ps z+(if z=g then 1 else 0):=by simp only[dS,hI,ju];omega
   rw[this,h1];split<;>omega
 have q2:nD { M.off g with gs:=gs,all:=all } :=
  ⟨q1.Bj,by show gs.length≤64;rw[E.len];exact q1.zP,fun z=>by
    have:=hoc z;have:=r.q.dS z;show dS all (M.off g).ps z≤1;split at *<;>omega,fun z hz=>by
    have hz:0<dS all (M.off g).ps z:=hz;show z<gs.length;rw[E.len];by_cases e:z=g;·subst e;exact hg.1
    ·have:=hoc z;rw[if_neg e]at this;exact r.q.lt z ah,q1.next,q1.runs,q1.ring,q1.nR⟩
 refine r.step S q2 (r.L.of S r.L.ref fun z hz=>?_);have hz:0<dS all (M.off g).ps z:=hz;by_cases e:z=g;·subst e;exact .inr hg
 ·have:=hoc z;rw[if_neg e]at this;exact .inl ah
theorem ue.mv {M0 M:MD}(r:ue M0 M) {x:List Nat×List PD}(m:Mv M x []):ue M0 (M.q x):=r.step m.same (m.Sv r.q) (m.lv r.L)
theorem ue.tl {M0 M:MD}(r:ue M0 M) (h:M0.tm.length≤5000):M.tm.length≤5000:=bO r.same.tm.length_le h
theorem tick4 {a:Ad}{V:VD}{h:ak}{M0 M:MD}{fr:Go.Ev.Fr}{Q:Ex→Go.Ev.Fr→ak→Prop}(s:St a V h M) (r:ue M0 M) (ht:M0.tm.length≤5000) (f0:fr.get 0=some (pt a.m 0))
   (hQ:∀ fr' h' M' V',ue M0 M'→St a V' h' M'→Kp (own a V) (own a V') h h'→Q .normal fr' h'):IJ.wp env 188 none fr h Q:=by
 have Bj:=r.q.Bj
 have ww:=mW W26
 refine wk ?_
 refine aP (fun m fr' h''=>∃ (p:Nat) (M1:MD) (V1:VD),p≤M.ps.length∧m=M.ps.length-p∧fr'.get 123=some (iv p)∧ue M0 M1∧St a V1 h'' M1∧Kp (own a V) (own a V1) h h''∧M1.ps.length=M.ps.length) M.ps.length ?_ ah ?_
 · exact⟨0,M,V,ah,ah,aA,r,s,Kp.refl _ _,rfl⟩
 rintro m fr2 h2 ⟨p,M1,V1,hp,rfl,f123,r1,s1,k1,pl1⟩ hag
 have g0:fr2.get 0=some (pt a.m 0):=(hag 0 rfl).trans (by simp[T.aj,f0])
 by_cases aT:p<M.ps.length
 · have hp1:p<M1.ps.length:=ah;obtain⟨w,_,_,pr,c0,c1,c2,c3,c4,_⟩:=s1.Gt hp1;have wn:=rU p;have ww:=ww.a @c3;refine wk ?_;refine JV s1 hp1 rfl fun V3 h3 s3 k3 n3=>?_;have m3:Mv M1 (M1.all,M1.ps.set p { M1.ps[p]with left:=max (IntKind.wrap .i64 (M1.ps[p].left-1)) 0 }) []:=Mv.set (Mv.refl r1.q) hp1 rfl (r1.q.next p hp1) fun z=>rfl;have s3':St a V3 h3 (M1.q (M1.all,M1.ps.set p { M1.ps[p]with left:=max (IntKind.wrap .i64 (M1.ps[p].left-1)) 0 })):=s3;have r3:=r1.mv m3;have K3:=k1.trans k3;have hp3:p<(M1.q (M1.all,M1.ps.set p { M1.ps[p]with left:=max (IntKind.wrap .i64 (M1.ps[p].left-1)) 0 })).ps.length:=by simpa[MD.q]using hp1
   have pl3:(M1.q (M1.all,M1.ps.set p { M1.ps[p]with left:=max (IntKind.wrap .i64 (M1.ps[p].left-1)) 0 })).ps.length=M.ps.length:=by simpa[MD.q]using pl1
   generalize M1.q (M1.all,M1.ps.set p { M1.ps[p]with left:=max (IntKind.wrap .i64 (M1.ps[p].left-1)) 0 })=M3 at s3' r3 hp3 pl3;obtain⟨w',_,_,pr',d0,d1,d2,d3,d4,_⟩:=s3'.Gt hp3;obtain⟨ra,rc,re,_⟩:=pr'.runs.cut;have rr:=pr'.runs;have hrl:=r3.q.runs p hp3;rw[re]at d2 rr;have done:∀ (fr4:Go.Ev.Fr) (h4:ak) M4 V4,ue M0 M4→St a V4 h4 M4→Kp (own a V) (own a V4) h h4→M4.ps.length=M.ps.length→Go.Ev.T.get fr4 123=some (iv ((p+1:Nat):Int))→∃ m,m<M.ps.length-p∧∃ (p:Nat) (M1:MD) (V1:VD),p≤M.ps.length∧m=M.ps.length-p∧Go.Ev.T.get fr4 123=some (iv p)∧ue M0 M1∧St a V1 h4 M1∧Kp (own a V) (own a V1) h h4∧M1.ps.length=M.ps.length :=
     fun fr4 h4 M4 V4 r4 s4 k4 pl4 f=>⟨M.ps.length-(p+1),ah,p+1,M4,V4,ah,rfl,f,r4,s4,k4,pl4⟩
   cases hru:M3.ps[p].runs with
   | nil =>
     rw[hru]at d2
     have ww:=ww.a (aN (aN @d2 @cF.{0}) @wn)
     refine wk ?_
     exact done _ h3 M3 V3 r3 s3' K3 pl3 aA
   | cons g rest =>
     have hrest:rest=[]:=by rw[hru]at hrl;simpa using hrl
     subst hrest
     rw[hru]at rr d2
     obtain⟨i,o,rfl,hi,hcell⟩:=rr.r.at_ (k:=0) an
     simp only[hJ,cj]at hcell
     have hlv:=r3.L.lv g (by have:=mH (all:=M3.all) (z:=g) hp3;rw[hru]at this;simp only[List.count_cons_self]at this;omega)
     obtain⟨hgl,hgi⟩:=hlv
     have zP:=r3.q.zP
     by_cases hl0:M3.ps[p].left=0
     · rw[hl0]at d3;have ww:=ww.a (aN (aN (aN @d2 @d3) @hcell) (aN (aN @dn.{0} @cF.{0}) @dO));refine wk ?_;have sm:=r3.q.sm;obtain⟨x1,x2,x3⟩:=sm.row p hp3;obtain⟨mk,_⟩:=DQ r3.q hp3;refine Ag s3' hp3 x2 x1 sm.all sm.ring sm.nR fun V5 h5 s5 k5=>?_;have r5:=r3.mv mk;have pl5:(M3.q (iT M3.cfg.ring M3.all M3.ps p)).ps.length=M.ps.length:=by show (iT M3.cfg.ring M3.all M3.ps p).2.length=_;rw[mk.len];exact pl3
       refine wk ?_;refine wE s5 r5.q.sm (r5.tl ht) hgl (by show M3.gs.length≤1000;omega) fun gs all V6 h6 E6 ha s6 k6=>?_;have r6:=r5.off E6 ⟨hgl,hgi⟩ ha;have ww:=ww.a @wn;refine wk ?_;exact done _ h6 _ V6 r6 s6 (K3.trans (k5.trans k6)) (tK.1.trans pl5) aA
     · have M6:=s3'.M6;have ww:=ww.a (aN (aN (aN @d2 @d3) @hcell) (aN (aN @dn.{0} @cF.{0}) @dO));refine wk ?_;obtain⟨⟨j,hj⟩,lc',hch,hlc⟩:=r3.L.ZO g hgl hgi;refine zI s3' r3.L.sl r3.L.cl hgl hj r3.L.ref r3.L.refs hch hlc fun b sh cl V5 h5 E1 E2 R1 s5 k5=>?_;have S5:nE M3 { M3 with sh:=sh,cl:=cl }:=⟨rfl,rfl,rfl,rfl,rfl,rfl,rfl,rfl,rfl,rfl,E1,E2,.refl _,rfl,.refl _⟩;have r5:ue M0 { M3 with sh:=sh,cl:=cl }:=r3.step S5 (r3.q.of rfl rfl rfl rfl) (r3.L.of S5 R1 fun z hz=>.inl hz);cases b with
       | true =>have ww:=ww.a @wn;refine wk ?_;exact done _ h5 _ V5 r5 s5 (K3.trans k5) pl3 aA
       | false =>refine wk ?_;refine qM s5 r5.q.sm (r5.tl ht) fun V6 h6 s6 k6=>?_;have k17':=s6.M6;have hgl6:g<(({ M3 with sh:=sh,cl:=cl }:MD).off g).gs.length:=hgl;have hlen6:(({ M3 with sh:=sh,cl:=cl }:MD).off g).gs.length=M3.gs.length:=rfl;rw[hlen6]at k17';refine wk ?_;refine lY s6 hgl6 (j:=2) (y:={ M3.gs[g]with x:={ M3.gs[g].x with st:=6 } }) rfl rfl rfl rfl rfl ao fun h7 s7 k7 n7=>?_;have r7:=r5.off (gs:=M3.gs.set g { M3.gs[g]with x:={ M3.gs[g].x with st:=6 } }) (oZ.set hgl rfl rfl rfl rfl rfl id) ⟨hgl,hgi⟩ (.inl rfl);have ww:=ww.a @wn;refine wk ?_;exact done _ h7 _ V6 r7 s7 (K3.trans (k5.trans (k6.trans k7))) (tK.1.trans pl3) aA
 · refine wk ?_;exact hQ _ _ M1 V1 r1 s1 k1
def abl:=(aN @zN @As)
def Yk:=(aN @A0 @As)
def abp:=(aN @A0 @zN)
theorem tick3 {a:Ad}{V:VD}{h:ak}{M0 M:MD}{fr:Go.Ev.Fr}{Q:Ex→Go.Ev.Fr→ak→Prop}(s:St a V h M) (r:ue M0 M) (ht:M0.tm.length≤5000) (f0:fr.get 0=some (pt a.m 0))
   (hQ:∀ fr' h' M' V',ue M0 M'→St a V' h' M'→Kp (own a V) (own a V') h h'→Q .normal fr' h'):Hs.wp env 188 none fr h Q:=by
 have gl:=r.L.gl
 have ww:=mW abl
 refine wk ?_
 refine aP (fun m fr' h''=>∃ (p:Nat) (M1:MD) (V1:VD),p≤M.gs.length∧m=M.gs.length-p∧fr'.get 85=some (iv p)∧ue M0 M1∧St a V1 h'' M1∧Kp (own a V) (own a V1) h h''∧M1.gs.length=M.gs.length) M.gs.length ?_ ah ?_
 · exact⟨0,M,V,ah,ah,aA,r,s,Kp.refl _ _,rfl⟩
 rintro m fr2 h2 ⟨p,M1,V1,hp,rfl,f85,r1,s1,k1,pl1⟩ hag
 have g0:fr2.get 0=some (pt a.m 0):=(hag 0 rfl).trans (by simp[T.aj,f0])
 by_cases aT:p<M.gs.length
 · have hp1:p<M1.gs.length:=ah;have wn:=rU p;have g1:=s1.gC hp1 1 ao;have g2:=s1.gC hp1 2 ao;simp only[Ob.cells,GD.cells,cu,cR]at g1 g2;have done:∀ (fr4:Go.Ev.Fr) (h4:ak) M4 V4,ue M0 M4→St a V4 h4 M4→Kp (own a V) (own a V4) h h4→M4.gs.length=M.gs.length→Go.Ev.T.get fr4 85=some (iv ((p+1:Nat):Int))→∃ m,m<M.gs.length-p∧∃ (p:Nat) (M1:MD) (V1:VD),p≤M.gs.length∧m=M.gs.length-p∧Go.Ev.T.get fr4 85=some (iv p)∧ue M0 M1∧St a V1 h4 M1∧Kp (own a V) (own a V1) h h4∧M1.gs.length=M.gs.length :=
     fun fr4 h4 M4 V4 r4 s4 k4 pl4 f=>⟨M.gs.length-(p+1),ah,p+1,M4,V4,ah,rfl,f,r4,s4,k4,pl4⟩
   cases his:M1.gs[p].is with
   | false =>
     rw[his]at g1
     have ww:=ww.a @wn
     refine wk ?_
     exact done _ h2 M1 V1 r1 s1 k1 pl1 aA
   | true =>
     rw[his]at g1
     by_cases hst:M1.gs[p].x.st=6
     · rw[hst]at g2;obtain⟨⟨j,hj⟩,lc',hch,hlc⟩:=r1.L.ZO p hp1 his;obtain⟨hjl,_⟩:=aH.1 hj;have hrj:=r1.L.ref j hjl;refine wk ?_;refine Ki s1 r1.L.sl r1.L.cl hp1 hj hjl ah hch hlc fun b h3 x3 _=>?_;have n3:=x3.n;have s3:=s1.ext x3;cases b with
       | false =>have ww:=ww.a @wn;refine wk ?_;exact done _ h3 M1 V1 r1 s3 (k1.trans (Kp.ext x3)) pl1 aA
       | true =>refine wk ?_;refine wE s3 r1.q.sm (r1.tl ht) hp1 ah fun gs all V6 h6 E6 ha s6 k6=>?_;have r6:=r1.off E6 ⟨hp1,his⟩ ha;have ww:=ww.a @wn;refine wk ?_;exact done _ h6 _ V6 r6 s6 (k1.trans ((Kp.ext x3).trans k6)) (E6.len.trans pl1) aA
     · have ww:=ww.a @wn;refine wk ?_;exact done _ h2 M1 V1 r1 s1 k1 pl1 aA
 · refine wk ?_;refine tick4 s1 r1 ht (by simp[T.aj,g0]) fun fr' h' M' V' r' s' k'=>hQ fr' h' M' V' r' s' (k1.trans k')
def zS (o:Ob SD):Ob SD:={ o with x:={ o.x with used:=0 } }
theorem Xo {a:Ad}{V:VD}{h:ak}{M0 M:MD}{fr:Go.Ev.Fr}{Q:Ex→Go.Ev.Fr→ak→Prop}(s:St a V h M) (r:ue M0 M) (ht:M0.tm.length≤5000) (hper:∀ k (h:k<M0.sh.length),M0.sh[k].is=true→M0.sh[k].x.ee≠0) (f0:fr.get 0=some (pt a.m 0))
   (hQ:∀ fr' h' M' V',ue M0 M'→St a V' h' M'→Kp (own a V) (own a V') h h'→Q .normal fr' h'):HF.wp env 188 none fr h Q:=by
 have sl:=r.L.sl
 have ww:=mW Yk
 refine wk ?_
 refine aP (fun m fr' h''=>∃ (p:Nat) (M1:MD) (V1:VD),p≤M.sh.length∧m=M.sh.length-p∧fr'.get 51=some (iv p)∧ue M0 M1∧St a V1 h'' M1∧Kp (own a V) (own a V1) h h''∧M1.sh.length=M.sh.length) M.sh.length ?_ ah ?_
 · exact⟨0,M,V,ah,ah,aA,r,s,Kp.refl _ _,rfl⟩
 rintro m fr2 h2 ⟨p,M1,V1,hp,rfl,f51,r1,s1,k1,pl1⟩ hag
 have g0:fr2.get 0=some (pt a.m 0):=(hag 0 rfl).trans (by simp[T.aj,f0])
 by_cases aT:p<M.sh.length
 · have hp1:p<M1.sh.length:=ah;have wn:=rU p;have sA:=s1.sA hp1;simp only[Ob.cells,SD.cells]at sA;have done:∀ (fr4:Go.Ev.Fr) (h4:ak) M4 V4,ue M0 M4→St a V4 h4 M4→Kp (own a V) (own a V4) h h4→M4.sh.length=M.sh.length→Go.Ev.T.get fr4 51=some (iv ((p+1:Nat):Int))→∃ m,m<M.sh.length-p∧∃ (p:Nat) (M1:MD) (V1:VD),p≤M.sh.length∧m=M.sh.length-p∧Go.Ev.T.get fr4 51=some (iv p)∧ue M0 M1∧St a V1 h4 M1∧Kp (own a V) (own a V1) h h4∧M1.sh.length=M.sh.length :=
     fun fr4 h4 M4 V4 r4 s4 k4 pl4 f=>⟨M.sh.length-(p+1),ah,p+1,M4,V4,ah,rfl,f,r4,s4,k4,pl4⟩
   have s2:=s1.new (.cells [uv M1.sh[p].gen,.bool M1.sh[p].is,iv M1.sh[p].x.par.i,uv M1.sh[p].x.par.g,iv M1.sh[p].x.gs,uv M1.sh[p].x.x_,uv M1.sh[p].x.ee,iv M1.sh[p].x.own,uv M1.sh[p].x.used] 129 true);have Sy:=s2.Sy;have k21':=s2.k21;have hp0:p<M0.sh.length:=by rw[← r1.same.sh.len];exact hp1
   cases his:M1.sh[p].is with
   | false =>
     rw[his]at sA s2 Sy k21'
     have ww:=ww.a (aN @sA @wn)
     refine wk ?_
     exact done _ _ M1 V1 r1 s2 (k1.trans .new) pl1 aA
   | true =>
     have hpz:M1.sh[p].x.ee≠0:=by rw[r1.same.sh.ee p hp1 hp0];exact hper p hp0 (by rw[← r1.same.sh.is p hp1 hp0];exact his)
     rw[his]at sA s2 Sy k21'
     by_cases hz:(M1.now:Int).tmod M1.sh[p].x.ee=0
     · have ww:=ww.a (aN @sA @hpz);refine wk ?_;refine HQ s2 hp1 (j:=8) (y:=zS M1.sh[p]) ah rfl rfl rfl rfl ao fun h3 s3 k3 n3=>?_;have S3:nE M1 { M1 with sh:=M1.sh.set p (zS M1.sh[p]) }:=⟨rfl,rfl,rfl,rfl,rfl,rfl,rfl,rfl,rfl,rfl,yH.set hp1 rfl rfl rfl rfl rfl,.refl _,.refl _,rfl,.refl _⟩;have r3:=r1.step S3 (r1.q.of rfl rfl rfl rfl) (r1.L.of S3 r1.L.ref fun z hz=>.inl hz);have ww:=ww.a @wn;refine wk ?_;exact done _ h3 _ V1 r3 s3 (k1.trans (Kp.trans .new k3)) (by simpa using pl1) aA
     · have ww:=ww.a (aN (aN @sA @hpz) @wn);refine wk ?_;exact done _ _ M1 V1 r1 s2 (k1.trans .new) pl1 aA
 · refine wk ?_;refine tick3 s1 r1 ht (by simp[T.aj,g0]) fun fr' h' M' V' r' s' k'=>hQ fr' h' M' V' r' s' (k1.trans k')
theorem VP {l:List TD}{g:Nat}{t:TD}(ht:t∈l) (e:t.id=(g:Int)):(oX l g).length<l.length:=by
 have h1:(oX l g).length≤l.length:=(wy l g).length_le;have h2:(oX l g).length≠l.length:=fun h=>by have:=(wy l g).eq_of_length h;rw[← this]at ht;have:=(List.mem_filter.1 ht).2;simp[Lp,e]at this
 omega
theorem Po {a:Ad}{V:VD}{h:ak}{M:MD}{K:Value→ak→Prop}(s:St a V h M) (q:nD M) (L:Lv M) (t:TmL M) (ht:M.tm.length≤5000) (hnow:M.now<1000000) (hper:∀ k (h:k<M.sh.length),M.sh[k].is=true→M.sh[k].x.ee≠0)
   (hK:∀ M' V' h',ue { M with now:=M.now+1 } M'→St a V' h' M'→Kp (own a V) (own a V') h h'→K (dE []) h'):cy env (.func 26) [mp a] h K:=by
 unfold mp at *
 refine F26 rfl ?_
 have wn:IntKind.wrap .u64 ((M.now:Int)+1)=((M.now+1:Nat):Int):=by rw[wrap_u64 ah ah];omega
 have ww:=mW (aN abp @wn)
 refine wk ?_
 refine st_now s fun V1 h1 s1 k1 n1=>?_
 have S1:nE { M with now:=M.now+1 } { M with now:=M.now+1 }:=.refl _
 have r1:ue { M with now:=M.now+1 } { M with now:=M.now+1 }:=⟨.refl _,q.of rfl rfl rfl rfl,⟨L.gl,L.sl,L.cl,L.refs,L.ref,L.jF,L.lv,L.ZO⟩,t⟩
 refine wk ?_
 refine aP (fun m fr' h''=>∃ (M2:MD) (V2:VD),m=M2.tm.length∧ue { M with now:=M.now+1 } M2∧St a V2 h'' M2∧Kp (own a V) (own a V2) h h'') M.tm.length ?_ ah ?_
 · exact⟨{ M with now:=M.now+1 },V1,rfl,r1,s1,k1⟩
 rintro m fr2 h2 ⟨M2,V2,rfl,r2,s2,k2⟩ hag
 have g0:fr2.get 0=some (pt a.m 0):=(hag 0 rfl).trans (by simp[T.aj,bY])
 obtain⟨ta,tc,te,_⟩:=s2.tm.len
 have LF:=s2.LF
 have rt:=s2.tm
 have htl:=r2.tl (M:=M2) ht
 rw[aI]at te
 rw[te]at LF rt
 cases htm:M2.tm with
 | nil =>
   rw[htm]at LF
   have ww:=ww.a @cF.{0}
   refine wk ?_
   refine Xo s2 r2 ht hper (by simp[T.aj,g0]) fun fr' h' M' V' r' s' k'=>?_
   have ww:=mW W26
   refine wk ?_
   exact hK M' V' h' r' s' (k2.trans k')
 | cons x rest =>
   have hmem:x∈M2.tm:=by rw[htm];simp
   obtain⟨g,hid,hgl,hgi⟩:=r2.t x hmem
   obtain⟨i,o,rfl,hi,hcell⟩:=rt.at_ (k:=0) (by simp[htm])
   have hc0:=dk hcell (j:=0) (v:=uv x.at_) (by simp[htm,TD.cells])
   have hc1:=dk hcell (j:=1) (v:=iv x.id) (by simp[htm,TD.cells])
   simp only[dO,cj]at hc0 hc1
   have hlen:M2.tm.length=rest.length+1:=by rw[htm];rfl
   have gl:=r2.L.gl
   rw[hlen]at LF
   rw[hid]at hc1
   by_cases hle:x.at_≤(M2.now:Int)
   · have ww:=ww.a @dO;refine wk ?_;refine wE s2 r2.q.sm htl hgl ah fun gs all V6 h6 E6 ha s6 k6=>?_;have r6:=r2.off E6 ⟨hgl,hgi⟩ ha;refine wk ?_;exact⟨(oX M2.tm g).length,by have:=VP hmem hid;omega,_,V6,rfl,r6,s6,k2.trans k6⟩
   · have ww:=ww.a @dO;refine wk ?_;refine Xo s2 r2 ht hper (by simp[T.aj,g0]) fun fr' h' M' V' r' s' k'=>?_;have ww:=mW W26;refine wk ?_;exact hK M' V' h' r' s' (k2.trans k')
end Go.Proofs.YthjlppdnlahhoaaGreat
