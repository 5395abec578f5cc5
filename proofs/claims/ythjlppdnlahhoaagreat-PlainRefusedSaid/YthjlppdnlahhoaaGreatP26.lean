/- THE PLAIN MACHINE's FUNCTIONS, walked (26). Conditions: none beyond each theorem's own. -/
import Derived.Test.YthjlppdnlahhoaaGreatP23
import Derived.Test.YthjlppdnlahhoaaGreatP25
set_option linter.unusedSimpArgs false
set_option linter.unusedVariables false
namespace Go.Proofs.YthjlppdnlahhoaaGreat
open Go.Ev
open Pl
set_option maxRecDepth 100000
set_option linter.defProp false
def V3_9:=(aN (aN (aN @nL @nA) (aN @lh @kh)) (aN (aN @ky @kN) (aN @ks @km)))
def V3_7:=(aN (aN (aN @nL @nK) (aN @lh @kh)) (aN (aN @ky @kN) (aN @ks @km)))
def Yn:=(aN (aN (aN @nA @nK) (aN @lh @kh)) (aN (aN @ky @kN) (aN @ks @km)))
set_option maxHeartbeats 4000000
theorem ur.one {h:ak}{v:Value}{M:MD}(a:ur h v M):∃ vT vC vD vK v1 v2 v3 v4 v5 v6 vM pa pn pc,v=.agg ⟨[uv M.now,vT,vC,vD,vK,v1,v2,v3,v4,v5,v6,vM,.slice pa pn pc,iv M.aX]⟩∧[uv M.now,vT,vC,vD,vK,v1,v2,v3,v4,v5,v6,vM,.slice pa pn pc,iv M.aX].all aE=true:=by obtain⟨vT,vC,vD,vK,v1,v2,v3,v4,v5,v6,vM,va,rfl,a1,a2⟩:=a.ex;obtain⟨_,_,_,_,_,_,_,_,_,_,_,ea,o1,o2,o3,o4,o5,o6,o7,o8,o9,o10,o11⟩:=a1.one;cases ea;obtain⟨pa,pc,rfl⟩:=a2.yM rfl;exact⟨_,_,_,_,_,_,_,_,_,_,_,pa,_,pc,rfl,by simp only[hY,kE,o1,o2,o3,o4,o5,o6,o7,o8,o9,o10,o11,jb,kI];rfl⟩
theorem RW.sm {P:Nat→Prop}{h:ak}{v:Value}{sz:Nat}{rows:List (List Value)}(r:RW P h v sz rows):bt 49 v v=true:=by
 obtain⟨a,c,rfl,sp,_⟩:=r;cases a with
 | none=>simp[bt]
 | some x=>have:=sp x rfl;simp[bt,this]
theorem ur.same {h:ak}{v:Value}{M:MD}(a:ur h v M):(bt 50 v v=true)=True:=by obtain⟨vT,vC,vD,vK,v1,v2,v3,v4,v5,v6,vM,va,rfl,a1,a2⟩:=a.ex;obtain⟨_,_,_,_,_,_,_,_,_,_,_,rvs,kvs,cvs,ea,p1,p2,p3,p4,p5,p6,p7,p8,p9,p10,p11,p12,p13,p14,p15,p16,p17⟩:=a1.ex;cases ea;simp only[bt,bt.go,p1.sm,p2.sm,p5.sm,p6.sm,p9.sm,p10.sm,p11.sm,p14.sm,p15.sm,p16.sm,p17.sm,a2.sm,jb,dP,beq_self_eq_true,decide_true]
theorem Ui {a:Ad}{U:VD}{M:MD}{C:xO}{N i3 i5:Nat}{pv:Value}{x:ER}{h:ak}{fr:Go.Ev.Fr}(S:St a U h M) (I:Inv 200 M) (co:Rg C) (ecf:M.cfg=C) (eac:M.aX≤200) (lo:∀ j,own a U j→N≤j) (hN:N≤h.n) (hpr:C.cG.length≤16∧∀ l∈C.cG,l.length≤1024)
  (V:iI h i3 (bU (mw C) pv) 25) (W:iI h i5 [iv x.kind,iv x.p,iv x.iw,iv x.pick] 29) (l3:i3<N) (l5:i5<N)
  (f3:fr.get 3=some (pt i3 0)) (f5:fr.get 5=some (pt i5 0)) (f7:fr.get 7=some (mp a)):Rm.wp env 117 none fr h (cW env [.tmp 6] fun v _=>v=.bool true):=by
 rcases x with ⟨kd,p,iw,pk⟩
 dsimp only at W
 unfold mp at f7
 have e3:=bf f3
 have e5:=bf f5
 have e7:=bf f7
 have hps:M.ps.length=C.ps:=by rw[I.Su,ecf]
 have hps0:=co.ps
 have wac:IntKind.wrap .i64 ((M.aX:Int)+1)=((M.aX+1:Nat):Int):=bC ah
 have ww:=mW V3_9
 refine wk ?_
 refine Ce S I ah ah fun v h1 x1 lv=>?_
 have n1:=x1.n
 have lv0:=lv
 obtain⟨vT,vC,vD,vK,v1,v2,v3,v4,v5,v6,vM,pa,pn,pc,rfl,oo⟩:=lv.one
 refine wk ?_
 refine aM (off:=0) (l:=[uv M.now,vT,vC,vD,vK,v1,v2,v3,v4,v5,v6,vM,.slice pa pn pc,iv M.aX]) (cs':=[uv M.now,vT,vC,vD,vK,v1,v2,v3,v4,v5,v6,vM,.slice pa pn pc,iv M.aX]) (az h1 _) rfl rfl rfl oo (Nat.succ_ne_zero 13) ?_
 obtain⟨h2,eh2⟩:=gz (aO (ai h1 (.cells [uv 0,nS,nS,nS,nS,nS,nS,nS,nS,nS,nS,nS,nS,iv 0] 63 true)) h1.n (.cells [uv M.now,vT,vC,vD,vK,v1,v2,v3,v4,v5,v6,vM,.slice pa pn pc,iv M.aX] 63 true))
 have X2:aw h1.n h1 h2:=eh2▸((aw.new _ a_).trans (aw.set _ a_))
 have g10:h2.b.get h1.n=some (.cells [uv M.now,vT,vC,vD,vK,v1,v2,v3,v4,v5,v6,vM,.slice pa pn pc,iv M.aX] 63 true):=eh2▸aF
 have n2:h2.n=h1.n+1:=eh2▸rfl
 rw[eh2]
 have Y2:aw h.n h h2:=x1.trans (X2.mono n1)
 have S2:=S.ext Y2
 have V2:=V.ext Y2 ah
 have W2:=W.ext Y2 ah
 have lv2:=lv0.ext X2
 refine wk ?_
 have no10:¬own a U h1.n:=fun o=>absurd (S.lt _ o) ah
 have no3:¬own a U i3:=fun o=>by have:=lo _ o;omega
 have no5:¬own a U i5:=fun o=>by have:=lo _ o;omega
 have fin:∀ fr:Go.Ev.Fr,fr.get 3=some (pt i3 0)→fr.get 5=some (pt i5 0)→fr.get 7=some (mp a)→fr.get 10=some (pt h1.n 0)→Zd.wp env 117 none fr h2 (cW env [.tmp 6] fun v _=>v=.bool true):=by
  clear e3 e5 e7 f3 f5 f7;intro fr f3 f5 f7 f10;unfold mp at f7;have e3:=bf f3;have e5:=bf f5;have e7:=bf f7;have e10:=bf f10;have w0:cellAt h2 (ad i5 0)=some (iv kd):=W2.at_ rfl;have w1:cellAt h2 (ad i5 1)=some (iv p):=W2.at_ rfl;have w4:av h2 (ad i5 0) 4=some [iv kd,iv p,iv iw,iv pk]:=aq W2.lt W2.get rfl rfl;have ww:=mW V3_7;refine wk ?_;refine Q1 S2 I ah ah (by rw[ecf];omega) (fun p hp=>by rw[ecf]at hp;have:=hpr.2 p hp;omega) ah (fun hd ev ra rc M3 U3 h3 I3 ec3 ea3 S3 k3 el=>?_) (fun hd h3 X3=>?_)
  ·obtain⟨tm,w,pp,gi,gg,hw,k,a0,a1,a2,a3,a4,code,ans,rfl⟩:=el;have n3:=k3.n;have hps3:M3.ps.length=C.ps:=by rw[I3.Su,ec3,ecf]
   have V3:iI h3 i3 (bU (mw C) pv) 25:=⟨ah,(k3.get i3 V2.lt no3).trans V2.get⟩;have W3:iI h3 i5 [iv kd,iv p,iv iw,iv pk] 29:=⟨ah,(k3.get i5 W2.lt no5).trans W2.get⟩;have g3:=(k3.get h1.n ah no10).trans g10;refine wk ?_;obtain⟨h4,eh4⟩:=gz (ai h3 (.cells [iv M.aX,uv tm,iv w,iv pp,iv gi,uv gg,iv hw,iv k,uv a0,uv a1,uv a2,uv a3,uv a4,iv code,uv ans,.slice ra M.ps.length rc] 46 true));have X4:=tW eh4;have g11:=Dj eh4;have n4:=qk eh4;rw[eh4];have S4:=S3.ext X4;have V4:=V3.ext X4 V3.lt;have W4:=W3.ext X4 W3.lt;have g4:=X4.cY g3;have y0:cellAt h4 (ad i5 0)=some (iv kd):=W4.at_ rfl;have y1:cellAt h4 (ad i5 1)=some (iv p):=W4.at_ rfl;have d0:cellAt h4 (ad i3 0)=some (iv C.ps):=V4.at_ rfl;have q13:=ay (off:=13) (h:=h4) (i:=h1.n) ah g4 rfl;have r0:=ay (off:=0) (h:=h4) (i:=h3.n) ah g11 rfl;have r15:=ay (off:=15) (h:=h4) (i:=h3.n) ah g11 rfl;have hps4:(M.ps.length:Int)=(C.ps:Int):=ah;have ea:((M3.aX:Int)=((M.aX+1:Nat):Int)):=ah;rcases hd with rfl|⟨rfl,hp0,hp1⟩;·(repeat' (first|(with_reducible show gV _ (rg _ _) _ _ _;first|with_reducible refine Ef ?_)|(with_reducible show lW _ _ _;first|with_reducible refine CJ ?_|with_reducible refine CS ?_|with_reducible refine wN (fun _=>?_) (fun _=>?_))|(with_reducible show _∧_;first|with_reducible refine CU ?_|with_reducible refine CN ?_|with_reducible refine Ea ?_)|(with_reducible show jQ _ _ _ _ _;first|with_reducible refine C1 ?_)|(with_reducible show vX _ _ _ _ _ _ _;first|with_reducible refine C9 ?_)|(with_reducible show yb _ _ _ _;first|with_reducible refine Du ?_)|(with_reducible show lU _ _ _ _;first|with_reducible refine C0 ?_)|(with_reducible show eR _ _ _;first|with_reducible refine Dd ?_|with_reducible refine Ei ?_)|(with_reducible show de (cellAt _ _) _;first|with_reducible refine Cz ?_|with_reducible refine C_ ?_|with_reducible refine DZ ?_)|(with_reducible show de (av _ _ _) _;first|with_reducible refine BZ ?_|with_reducible refine D1 ?_)|simp -dsimp only[↓ww.o,↓WB,WP,WS,bE,Nat.reduceEqDiff,Nat.reduceAdd]|simp -dsimp only[↓WB,↓nL,↓nA,↓nK,↓lh,↓kh,↓ky,↓kN,↓ks,↓km,WP,WS,bE,Nat.reduceEqDiff,Nat.reduceAdd,↓e3,↓e5,↓e7,↓e10,y0,y1,d0,q13,r0,r15]|(with_reducible show dJ _ _ _ _ _;refine DU ?_)|simp -dsimp (disch:=(first|with_reducible assumption|(with_reducible refine hag _ ?_;rfl)|(with_reducible show _<_;omega))) only [CP,DX,CI,D7]|simp -dsimp (disch:=(first|with_reducible assumption|(with_reducible refine hag _ ?_;rfl)|(with_reducible show _<_;omega))) only [Dz,cL,p_,List.getElem?_cons_zero,List.getElem?_cons_succ]|simp -dsimp (disch:=(first|with_reducible assumption|(with_reducible show _<_;omega)|(with_reducible show GetElem?.getElem? _ _=_;with_unfolding_all rfl)|(with_reducible show List.length _=_;with_unfolding_all rfl))) only [DM,qp]|simp -dsimp (disch:=(conv=>lhs;cbv)) only [Dl]));refine Ai S4 ah ?_;have ww:=mW (aN (aN W3 @wac) (aN @ea @hps4));refine wk ?_;refine pB ?_;exact wkE
   ·have hp1':p<(C.ps:Int):=ah;(repeat' (first|(with_reducible show gV _ (rg _ _) _ _ _;first|with_reducible refine Ef ?_)|(with_reducible show lW _ _ _;first|with_reducible refine CJ ?_|with_reducible refine CS ?_|with_reducible refine wN (fun _=>?_) (fun _=>?_))|(with_reducible show _∧_;first|with_reducible refine CU ?_|with_reducible refine CN ?_|with_reducible refine Ea ?_)|(with_reducible show jQ _ _ _ _ _;first|with_reducible refine C1 ?_)|(with_reducible show vX _ _ _ _ _ _ _;first|with_reducible refine C9 ?_)|(with_reducible show yb _ _ _ _;first|with_reducible refine Du ?_)|(with_reducible show lU _ _ _ _;first|with_reducible refine C0 ?_)|(with_reducible show eR _ _ _;first|with_reducible refine Dd ?_|with_reducible refine Ei ?_)|(with_reducible show de (cellAt _ _) _;first|with_reducible refine Cz ?_|with_reducible refine C_ ?_|with_reducible refine DZ ?_)|(with_reducible show de (av _ _ _) _;first|with_reducible refine BZ ?_|with_reducible refine D1 ?_)|simp -dsimp only[↓ww.o,↓WB,WP,WS,bE,Nat.reduceEqDiff,Nat.reduceAdd]|simp -dsimp only[↓WB,↓nL,↓nA,↓nK,↓lh,↓kh,↓ky,↓kN,↓ks,↓km,WP,WS,bE,Nat.reduceEqDiff,Nat.reduceAdd,↓e3,↓e5,↓e7,↓e10,y0,y1,d0,q13,r0,r15,hp0,hp1']|(with_reducible show dJ _ _ _ _ _;refine DU ?_)|simp -dsimp (disch:=(first|with_reducible assumption|(with_reducible refine hag _ ?_;rfl)|(with_reducible show _<_;omega))) only [CP,DX,CI,D7]|simp -dsimp (disch:=(first|with_reducible assumption|(with_reducible refine hag _ ?_;rfl)|(with_reducible show _<_;omega))) only [Dz,cL,p_,List.getElem?_cons_zero,List.getElem?_cons_succ]|simp -dsimp (disch:=(first|with_reducible assumption|(with_reducible show _<_;omega)|(with_reducible show GetElem?.getElem? _ _=_;with_unfolding_all rfl)|(with_reducible show List.length _=_;with_unfolding_all rfl))) only [DM,qp]|simp -dsimp (disch:=(conv=>lhs;cbv)) only [Dl]));refine Ai S4 ah ?_;have ww:=mW (aN (aN W3 @wac) (aN @ea @hps4));refine wk ?_;refine pB ?_;exact wkE
  ·have n3:=X3.n;have hd2:kd≠2:=fun e=>hd (.inl e);unfold ev0;refine wk ?_;obtain⟨h4,eh4⟩:=gz (ai h3 (.cells [iv 0,uv 0,iv 0,iv 0,iv 0,uv 0,iv 0,iv 0,uv 0,uv 0,uv 0,uv 0,uv 0,iv 0,uv 0,nS] 46 true));have X4:=tW eh4;have g11:=Dj eh4;have n4:=qk eh4;rw[eh4];have Y4:aw h2.n h2 h4:=X3.trans (X4.mono n3);have S4:=S2.ext Y4;have V4:=V2.ext Y4 V2.lt;have W4:=W2.ext Y4 W2.lt;have g4:=(Y4.get h1.n ah).trans g10;have lv4:=lv2.ext Y4;have y0:cellAt h4 (ad i5 0)=some (iv kd):=W4.at_ rfl;have y1:cellAt h4 (ad i5 1)=some (iv p):=W4.at_ rfl;have d0:cellAt h4 (ad i3 0)=some (iv C.ps):=V4.at_ rfl;have r11:av h4 (ad h3.n 0) 16=some [iv 0,uv 0,iv 0,iv 0,iv 0,uv 0,iv 0,iv 0,uv 0,uv 0,uv 0,uv 0,uv 0,iv 0,uv 0,nS]:=aq ah g11 rfl rfl;have q10:av h4 (ad h1.n 0) 14=some [uv M.now,vT,vC,vD,vK,v1,v2,v3,v4,v5,v6,vM,.slice pa pn pc,iv M.aX]:=aq ah g4 rfl rfl;have mid:∀ fr:Go.Ev.Fr,fr.get 7=some (pt a.m 0)→fr.get 10=some (pt h1.n 0)→fr.get 11=some (pt h3.n 0)→fr.get 12=some (iv 2)→s3_1.wp env 117 none fr h4 (cW env [.tmp 6] fun v _=>v=.bool true):=by clear e3 e5 e7 e10;intro fr z7 z10 z11 z12;have e7:=bf z7;have e10:=bf z10;have ww:=mW W3;refine wk ?_;refine Hi fun h5 X5=>?_;have n5:=X5.n;have q5:av h5 (ad h1.n 0) 14=some [uv M.now,vT,vC,vD,vK,v1,v2,v3,v4,v5,v6,vM,.slice pa pn pc,iv M.aX]:=aG X5 ah q10;have r5:av h5 (ad h3.n 0) 16=some [iv 0,uv 0,iv 0,iv 0,iv 0,uv 0,iv 0,iv 0,uv 0,uv 0,uv 0,uv 0,uv 0,iv 0,uv 0,nS]:=aG X5 ah r11;refine wk ?_;refine Ce (S4.ext X5) I ah ah fun vv6 h6 X6 lv6=>?_;have n6:=X6.n;have q6:av h6 (ad h1.n 0) 14=some [uv M.now,vT,vC,vD,vK,v1,v2,v3,v4,v5,v6,vM,.slice pa pn pc,iv M.aX]:=aG X6 ah q5;have r6:av h6 (ad h3.n 0) 16=some [iv 0,uv 0,iv 0,iv 0,iv 0,uv 0,iv 0,iv 0,uv 0,uv 0,uv 0,uv 0,uv 0,iv 0,uv 0,nS]:=aG X6 ah r5;have sameL:(bt 50 (.agg ⟨[uv M.now,vT,vC,vD,vK,v1,v2,v3,v4,v5,v6,vM,.slice pa pn pc,iv M.aX]⟩) (.agg ⟨[uv M.now,vT,vC,vD,vK,v1,v2,v3,v4,v5,v6,vM,.slice pa pn pc,iv M.aX]⟩)=true)=True:=lv4.same;have ww:=ww.a @sameL;refine wk ?_;refine GZ lv6 ((lv4.ext X5).ext X6) I ah fun h7 X7=>?_;have n7:=X7.n;have q7:av h7 (ad h1.n 0) 14=some [uv M.now,vT,vC,vD,vK,v1,v2,v3,v4,v5,v6,vM,.slice pa pn pc,iv M.aX]:=aG X7 ah q6;have r7:av h7 (ad h3.n 0) 16=some [iv 0,uv 0,iv 0,iv 0,iv 0,uv 0,iv 0,iv 0,uv 0,uv 0,uv 0,uv 0,uv 0,iv 0,uv 0,nS]:=aG X7 ah r6;refine wk ?_;refine pB ?_;exact wkE
   by_cases h1':kd=1
   ·by_cases hp0:0≤p;·have hp1:¬p<(C.ps:Int):=fun e=>hd (.inr ⟨h1',hp0,ah⟩);have ww:=mW (aN (aN (aN Yn @hd2) @h1') (aN @hp0 @hp1));refine wk ?_;exact mid _ (by simp[T.aj];exact f7) (by simp[T.aj];exact f10) aA aA
    ·have ww:=mW (aN (aN Yn @hd2) (aN @h1' @hp0));refine wk ?_;exact mid _ (by simp[T.aj];exact f7) (by simp[T.aj];exact f10) aA aA
   ·have ww:=mW (aN (aN Yn @hd2) @h1');refine wk ?_;exact mid _ (by simp[T.aj];exact f7) (by simp[T.aj];exact f10) aA aA
 exact fin _ (by simp[T.aj];exact f3) (by simp[T.aj];exact f5) (by simp[T.aj];exact f7) aA
def V3_39:=(aN (aN (aN @nL @nA) (aN @nK @lh)) (aN (aN @kh @ky) (aN @kN @ks)))
def V3_33:=(aN (aN (aN @nL @nA) (aN @nK @lh)) (aN (aN @kh @ky) (aN @kN @km)))
def V3_31:=(aN (aN (aN @nL @nA) (aN @nK @lh)) (aN (aN @kh @ky) (aN @ks @km)))
def V3_25:=(aN (aN (aN @nL @nA) (aN @nK @lh)) (aN (aN @kh @kN) (aN @ks @km)))
def Qt:=(aN (aN (aN @nL @nA) (aN @nK @ky)) (aN (aN @kN @ks) @km))
def V3_11:=(aN (aN (aN @nL @nA) (aN @nK @kh)) (aN (aN @ky @kN) (aN @ks @km)))
theorem cf_of {c:Nat→Int}{P:List (List UInt8)}(hm:qE c P=0) (hg:c 2≤16):∃ C:xO,Rg C∧C.cG=P∧(∀ pv,bU c pv=bU (mw C) pv)∧(∀ k,k<14→c k=mw C k)∧(C.cG.length≤16∧∀ l∈C.cG,l.length≤1024):=by
 unfold qE at hm;split at hm
 ·rename_i h14;have hb:=qJ.1 h14;split at hm;·exact absurd hm ao
  ·rename_i hl;split at hm;·exact absurd hm ao
   ·rename_i ha;have b:∀ i,i<14→Bp i≤c i∧c i≤By i:=fun i hi=>by have:=hb i hi;simpa only[xS,aZ,decide_eq_true_eq]using this
    have b0:1≤c 0∧c 0≤8:=b 0 ao;have b1:2≤c 1∧c 1≤32:=b 1 ao;have b2:1≤c 2∧c 2≤64:=b 2 ao;have b3:1≤c 3∧c 3≤32:=b 3 ao;have b4:1≤c 4∧c 4≤32:=b 4 ao;have b5:3≤c 5∧c 5≤512:=b 5 ao;have b6:3≤c 6∧c 6≤32:=b 6 ao;have b7:2≤c 7∧c 7≤16:=b 7 ao;have b8:1≤c 8∧c 8≤256:=b 8 ao;have b9:1≤c 9∧c 9≤64:=b 9 ao;have b11:1≤c 11:=(b 11 ao).1;have hc:∀ k,k<14→c k=mw ⟨(c 0).toNat,(c 1).toNat,(c 2).toNat,(c 3).toNat,(c 4).toNat,(c 5).toNat,(c 6).toNat,(c 7).toNat,(c 8).toNat,(c 9).toNat,c 10,c 11,c 12,c 13,P⟩ k:=fun k hk=>by
     rcases k with _|_|_|_|_|_|_|_|_|_|_|_|_|_|k;·show c 0=((c 0).toNat:Int);omega
     ·show c 1=((c 1).toNat:Int);omega
     ·show c 2=((c 2).toNat:Int);omega
     ·show c 3=((c 3).toNat:Int);omega
     ·show c 4=((c 4).toNat:Int);omega
     ·show c 5=((c 5).toNat:Int);omega
     ·show c 6=((c 6).toNat:Int);omega
     ·show c 7=((c 7).toNat:Int);omega
     ·show c 8=((c 8).toNat:Int);omega
     ·show c 9=((c 9).toNat:Int);omega
     ·rfl
     ·rfl
     ·rfl
     ·rfl
     ·omega
    refine⟨⟨(c 0).toNat,(c 1).toNat,(c 2).toNat,(c 3).toNat,(c 4).toNat,(c 5).toNat,(c 6).toNat,(c 7).toNat,(c 8).toNat,(c 9).toNat,c 10,c 11,c 12,c 13,P⟩,⟨?_,?_,?_,?_,?_,?_,?_,?_,b11,by show 1≤P.length;omega⟩,rfl,fun pv=>?_,hc,(by show P.length≤16;omega),fun l hl'=>?_⟩;·show 1≤(c 0).toNat∧(c 0).toNat≤8;omega
    ·show 2≤(c 1).toNat∧(c 1).toNat≤32;omega
    ·show 1≤(c 2).toNat∧(c 2).toNat≤16;omega
    ·show 1≤(c 3).toNat∧(c 3).toNat≤32;omega
    ·show 1≤(c 4).toNat∧(c 4).toNat≤32;omega
    ·show (c 6).toNat≤32;omega
    ·show (c 7).toNat≤16;omega
    ·show 1≤(c 8).toNat∧(c 8).toNat≤256;omega
    ·unfold bU;rw[← hc 0 ao,← hc 1 ao,← hc 2 ao,← hc 3 ao,← hc 4 ao,← hc 5 ao,← hc 6 ao,← hc 7 ao,← hc 8 ao,← hc 9 ao,← hc 10 ao,← hc 11 ao,← hc 12 ao,← hc 13 ao]
    ·have hn:¬∃ p∈P,1024<p.length:=fun ⟨p,hp,hp2⟩=>ha (sb.2 ⟨p,hp,by simpa using hp2⟩);have:¬1024<l.length:=fun h=>hn ⟨l,hl',h⟩;omega
 ·exact absurd hm ao
theorem WJ {B:Nat}{c:Nat→Int}{pv lv:Value}{P:List (List UInt8)}{A:List ER}{x:ER}{h:ak}(r:Eo B h pv P) (ra:RdA B h lv A) (hB:B≤h.n):cy env (.func 3) [.agg ⟨bU c pv⟩,lv,.agg ⟨x.cells⟩] h fun v _=>v=.bool true:=by
 obtain⟨pa,pc,rfl,_⟩:=id r;obtain⟨la,lc,rfl,_⟩:=id ra;refine F3 rfl ?_;simp only[ER.cells];obtain⟨h1,e1,G1,G2,n1,X⟩:=C4 h (.cells (bU c (.slice pa P.length pc)) 25 true) (.cells [iv x.kind,iv x.p,iv x.iw,iv x.pick] 29 true);have ww:=mW (aN V3_39 @lu);refine wk ?_;rw[e1];clear e1;have V:iI h1 h.n (bU c (.slice pa P.length pc)) 25:=⟨ah,G1⟩;have W:iI h1 (h.n+1) [iv x.kind,iv x.p,iv x.iw,iv x.pick] 29:=⟨ah,G2⟩;have dv:=V.cfg;have ww:=mW (aN V3_33 @dv);refine wk ?_;refine OQ (r.ext (X.mono hB)) ah fun b h2 X2 hb=>?_;have Y2:=X.jI X2;have n2:=X2.n;cases b with
 | false =>
   refine wk ?_
   refine pB ?_
   exact wkE
 | true =>
 by_cases hl:200<A.length;· have hl':(200:Int)<(A.length:Int):=ah;have ww:=ww.a @hl';refine wk ?_;refine pB ?_;exact wkE
 have hl':¬(200:Int)<(A.length:Int):=ah;obtain⟨⟨hc2,hP16⟩,hmay⟩:=hb rfl;obtain⟨C,co,rfl,hcf,hck,hp16,hp1024⟩:=cf_of hmay hc2;have hmay':qE (mw C) C.cG=0:=by
   rw[← hmay];unfold qE;have:(List.range 14).all (xS (mw C))=(List.range 14).all (xS c):=by
     rw[sK,qJ,qJ];refine⟨fun q i hi=>?_,fun q i hi=>?_⟩;· have:=q i hi;unfold xS at this ⊢;rw[hck i hi];exact this
     · have:=q i hi;unfold xS at this ⊢;rw[← hck i hi];exact this
   rw[this]
 have V2:=V.ext X2 ah;have W2:=W.ext X2 ah;rw[hcf]at V2 ⊢;have dv:=V2.cfg;have ww:=ww.a @hl';refine wk ?_;have ww:=mW (aN V3_31 @dv);refine wk ?_;refine Ux (r.ext (Y2.mono hB)) ah hmay' (by exact ⟨ah,fun l hl=>by have:=hp1024 l hl;omega⟩) co fun a U M h3 X3 S I ecf eac lo=>?_;have n3:=X3.n;have V3:=V2.ext X3 ah;have W3:=W2.ext X3 ah;have ra3:RdA B h3 (.slice la A.length lc) A:=ra.ext ((Y2.mono hB).trans (X3.mono ah));have ne0:mp a=pt a.m 0:=rfl;rw[ne0];have ww:=mW (aN V3_25 @Rf);refine wk ?_;have fin:∀ fr:Go.Ev.Fr,fr.get 1=some (.slice la A.length lc)→fr.get 3=some (pt h.n 0)→fr.get 5=some (pt (h.n+1) 0)→fr.get 7=some (mp a)→Sf.wp env 117 none fr h3 (cW env [.tmp 6] fun v _=>v=.bool true):=by intro fr f1 f3 f5 f7;have ww:=mW Qt;refine wk ?_;refine Of S I co ecf eac lo ah ah ra3 ah ⟨hp16,hp1024⟩ V3 W3 ah ah f1 f3 f5 f7 fun U4 M4 h4 fr4 S4 I4 ec4 ea4 lo4 n4 V4 W4 z3 z5 z7=>?_;have ww:=mW V3_11;refine wk ?_;exact Ui S4 I4 co ec4 ea4 lo4 n4 ⟨hp16,hp1024⟩ V4 W4 ah ah z3 z5 z7
 exact fin _ aA aA aA (by simp[T.aj,mp])
end Go.Proofs.YthjlppdnlahhoaaGreat
