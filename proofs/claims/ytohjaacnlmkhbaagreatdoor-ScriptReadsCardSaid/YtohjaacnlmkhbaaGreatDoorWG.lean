/- THE DOCUMENT's Same, walked. Conditions: none beyond each theorem's own. -/
import Derived.Test.YtohjaacnlmkhbaaGreatDoorWA
set_option linter.unusedSimpArgs false
set_option linter.unusedVariables false
namespace Go.Proofs.YtohjaacnlmkhbaaGreatDoor
open Go.Ev
set_option maxRecDepth 1000000
set_option maxHeartbeats 400000
theorem str_inj {l m:List UInt8}:((⟨l.toArray⟩:ByteArray)=⟨m.toArray⟩)↔l=m:=by
 constructor;·intro h;have:=congrArg (fun b=>b.data.toList) h;simpa using this
 ·rintro rfl;rfl
theorem Bd {B:Nat}{h:Heap}{v:Value}{l:List UInt8}{J:Value→Prop}(r:nu B h v l) (q:J (.string ⟨l.toArray⟩)):qW h v J:=by
 obtain⟨a,c,rfl,e⟩:=r;cases a with
 | none =>
   cases l with
   | nil=>exact q
   | cons x l=>obtain⟨i,o,e,_⟩:=e (by simp);cases e
 | some a =>
   refine jn (l:=l) ?_ q
   cases l with
   | nil=>rfl
   | cons x l=>obtain⟨i,o,e,_,q⟩:=e (by simp);cases e;exact q
theorem cZ (n:Nat) (k:IntKind) (m:Int):aW n (.int k m) (.int k m)=true:=by cases n<;>simp[aW]
theorem CB {c:Nat→Int}{pv:Value}(h:∀ n,aW n pv pv=true):(aW 50 (.agg ⟨br c pv⟩) (.agg ⟨br c pv⟩)=true)=True:=by
 have:aW.go 49 (br c pv) (br c pv)=true:=by simp[br,aW.go,cZ,h]
 simpa[aW]using this
theorem Aa {B:Nat}{c d:Nat→Int}{pv qv:Value}{P Q:List (List UInt8)}{h:Heap}{K:Value→Heap→Prop}(r:qk B h pv P) (s:qk B h qv Q) (hB:B≤h.n)
  (hsp:∀ n,aW n pv pv=true) (hsq:∀ n,aW n qv qv=true) (hP:P.length≤5000)
  (hK:∀ b h',ai h.n h h'→(b=true↔((∀ i,i<14→c i=d i)∧P=Q))→K (.bool b) h'):bT env (.func 22) [.agg ⟨br c pv⟩,.agg ⟨br d qv⟩] h K:=by
 obtain⟨pa,pc,rfl,_⟩:=id r
 obtain⟨qa,qc,rfl,_⟩:=id s
 refine F22 rfl ?_
 simp -dsimp only[↓WB,↓Bp,WP,ae,Nat.reduceEqDiff,Nat.reduceAdd,kZ]
 have hx:∀ k,k<1→True:=fun _ _=>trivial
 have V:=dm.new h (br c (.slice pa P.length pc)) 25
 have X:ai h.n h (af h (.cells (br c (.slice pa P.length pc)) 25 true)):=ai.new _ (Nat.le_refl _)
 have hn1:(af h (.cells (br c (.slice pa P.length pc)) 25 true)).n=h.n+1:=rfl
 generalize af h (.cells (br c (.slice pa P.length pc)) 25 true)=h1 at V X hn1 ⊢
 have W:=dm.new h1 (br d (.slice qa Q.length qc)) 25
 have X1:ai h1.n h1 (af h1 (.cells (br d (.slice qa Q.length qc)) 25 true)):=ai.new _ (Nat.le_refl _)
 have hn2:(af h1 (.cells (br d (.slice qa Q.length qc)) 25 true)).n=h.n+2:=by show h1.n+1=_;omega
 rw[hn1]at W ⊢
 replace V:=V.ext X1 (by omega)
 replace X:=X.trans (X1.mono (by omega))
 generalize af h1 (.cells (br d (.slice qa Q.length qc)) 25 true)=h2 at V W X hn2 ⊢
 clear X1 hn1
 have sc:=CB (c:=c) hsp
 have sd:=CB (c:=d) hsq
 have dv:=V.cfg
 have dw:=W.cfg
 simp -dsimp only[↓WB,↓Bp,WP,ae,Nat.reduceEqDiff,Nat.reduceAdd,dv,dw,sc,sd]
 refine sZ fun j3 h3 X3 j3l c3=>?_
 have n3:=X3.n
 have V3:=V.ext X3 (by omega)
 have W3:=W.ext X3 (by omega)
 have dv3:=V3.cfg
 have dw3:=W3.cfg
 (with_reducible repeat' (first|refine y5 ?_|simp -dsimp only[↓WB,↓Bp,WP,ae,Nat.reduceEqDiff,Nat.reduceAdd,dv3,dw3,sc,sd]))
 refine sZ fun j4 h4 X4 j4l d4=>?_
 have n4:=X4.n
 have V4:=V3.ext X4 (by omega)
 have W4:=W3.ext X4 (by omega)
 have dv4:=V4.cfg
 have dw4:=W4.cfg
 have c4:∀ k,k<10→cellAt h4 ⟨j3,k,none⟩=some (.int .i64 (c k)):=fun k hk=>aI X4 j3l (c3 k hk)
 have XX:ai h.n h h4:=(X.trans (X3.mono (by omega))).trans (X4.mono (by omega))
 clear X X3 X4 V V3 W W3 dv dw dv3 dw3 c3
 (with_reducible repeat' (first|refine y5 ?_|simp -dsimp only[↓WB,↓Bp,WP,ae,Nat.reduceEqDiff,Nat.reduceAdd,dv4,dw4,sc,sd]))
 refine aE (fun m fr' h'=>∃ k:Nat,k≤10∧m=10-k∧h'=h4∧fr'.get 7=some (.int .i64 k)∧∀ i,i<k→c i=d i) 10 ?_ (by omega) ?_
 ·exact⟨0,by omega,by omega,rfl,by simp[T.ah],fun i hi=>by omega⟩
 rintro m fr2 h' ⟨k,hk,rfl,rfl,f7,hcd⟩ hag
 have e7:=aj f7
 have b2:=au (hag 2 rfl)
 have b3:=au (hag 3 rfl)
 have b5:=au (hag 5 rfl)
 have b6:=au (hag 6 rfl)
 by_cases aB:k<10
 ·have c5:=c4 k aB;have d5:=d4 k aB;by_cases hcdk:c k=d k
  ·(with_reducible repeat' (first|refine y1 ?_|refine y4 ?_|simp -dsimp only[↓WB,↓Bp,WP,ae,Nat.reduceEqDiff,Nat.reduceAdd,↓e7,↓b2,↓b3,↓b5,↓b6,Nat.zero_add,Nat.mul_one,c5,d5,hcdk]));exact⟨10-(k+1),by omega,k+1,by omega,rfl,by simp[T.ah,bf (show k≤4611686018427387904 by omega)],fun i hi=>by
    by_cases e:i=k;·rw[e];exact hcdk
    ·exact hcd i (by omega)⟩
  ·(with_reducible repeat' (first|refine y1 ?_|refine y4 ?_|simp -dsimp only[↓WB,↓Bp,WP,ae,Nat.reduceEqDiff,Nat.reduceAdd,↓e7,↓b2,↓b3,↓b5,↓b6,Nat.zero_add,Nat.mul_one,c5,d5,hcdk]));exact hK _ _ XX ⟨fun h=>(by cases h),fun h=>absurd (h.1 k (by omega)) hcdk⟩
 have k10:k=10:=by omega
 subst k10
 clear c4 d4 aB
 (with_reducible repeat' (first|refine y2 ?_|simp -dsimp only[↓WB,↓Bp,WP,ae,Nat.reduceEqDiff,Nat.reduceAdd,↓e7,↓b2,↓b3,↓b5,↓b6,dv4,dw4,sc,sd]))
 refine sw fun j5 h5 X5 j5l c5=>?_
 have n5:=X5.n
 have V5:=V4.ext X5 (by omega)
 have W5:=W4.ext X5 (by omega)
 have dv5:=V5.cfg
 have dw5:=W5.cfg
 (with_reducible repeat' (first|refine y5 ?_|simp -dsimp only[↓WB,↓Bp,WP,ae,Nat.reduceEqDiff,Nat.reduceAdd,↓b2,↓b3,dv5,dw5,sc,sd]))
 refine sw fun j6 h6 X6 j6l d6=>?_
 have n6:=X6.n
 have V6:=V5.ext X6 (by omega)
 have W6:=W5.ext X6 (by omega)
 have dv6:=V6.cfg
 have dw6:=W6.cfg
 have c6:∀ k,k<4→cellAt h6 ⟨j5,k,none⟩=some (.int .u64 (c (10+k))):=fun k hk=>aI X6 j5l (c5 k hk)
 replace XX:ai h.n h h6:=(XX.trans (X5.mono (by omega))).trans (X6.mono (by omega))
 clear X5 X6 V4 V5 W4 W5 dv4 dw4 dv5 dw5 c5 e7 f7 n3
 (with_reducible repeat' (first|refine y5 ?_|simp -dsimp only[↓WB,↓Bp,WP,ae,Nat.reduceEqDiff,Nat.reduceAdd,↓b2,↓b3,dv6,dw6,sc,sd]))
 refine aE (fun m fr' h'=>∃ k:Nat,k≤4∧m=4-k∧h'=h6∧fr'.get 10=some (.int .i64 k)∧∀ i,i<10+k→c i=d i) 4 ?_ (by omega) ?_
 ·exact⟨0,by omega,by omega,rfl,by simp[T.ah],fun i hi=>hcd i (by omega)⟩
 rintro m fr3 h' ⟨k,hk,rfl,rfl,f10,hcd⟩ hag2
 have o_:=aj f10
 have b2':=au (hag2 2 rfl)
 have b3':=au (hag2 3 rfl)
 have b8:=au (hag2 8 rfl)
 have b9:=au (hag2 9 rfl)
 by_cases aB:k<4
 ·have c5:=c6 k aB;have d5:=d6 k aB;by_cases hcdk:c (10+k)=d (10+k)
  ·(with_reducible repeat' (first|refine y1 ?_|refine y4 ?_|simp -dsimp only[↓WB,↓Bp,WP,ae,Nat.reduceEqDiff,Nat.reduceAdd,↓o_,↓b8,↓b9,Nat.zero_add,Nat.mul_one,c5,d5,hcdk]));exact⟨4-(k+1),by omega,k+1,by omega,rfl,by simp[T.ah,bf (show k≤4611686018427387904 by omega)],fun i hi=>by
    by_cases e:i=10+k;·rw[e];exact hcdk
    ·exact hcd i (by omega)⟩
  ·(with_reducible repeat' (first|refine y1 ?_|refine y4 ?_|simp -dsimp only[↓WB,↓Bp,WP,ae,Nat.reduceEqDiff,Nat.reduceAdd,↓o_,↓b8,↓b9,Nat.zero_add,Nat.mul_one,c5,d5,hcdk]));exact hK _ _ XX ⟨fun h=>(by cases h),fun h=>absurd (h.1 (10+k) (by omega)) hcdk⟩
 have k4:k=4:=by omega
 subst k4
 clear c6 d6 aB
 by_cases hlen:P.length=Q.length
 case neg =>(with_reducible repeat' (first|refine y2 ?_|simp -dsimp only[↓WB,↓Bp,WP,ae,Nat.reduceEqDiff,Nat.reduceAdd,↓o_,↓b8,↓b9,↓b2',↓b3',↓b2,↓b3,dv6,dw6]));all_goals exact hK _ _ XX ⟨fun h=>(by cases h),fun h=>absurd (congrArg List.length h.2) hlen⟩
 have hleni:((P.length:Int)=(Q.length:Int)):=by omega
 (with_reducible repeat' (first|refine y1 ?_|refine y2 ?_|simp -dsimp only[↓WB,↓Bp,WP,ae,Nat.reduceEqDiff,Nat.reduceAdd,↓o_,↓b8,↓b9,↓b2',↓b3',↓b2,↓b3,dv6,dw6]))
 refine aE (fun m fr' h''=>∃ k:Nat,k≤P.length∧m=P.length-k∧h''=h'∧fr'.get 11=some (.int .i64 k)∧P.take k=Q.take k) P.length ?_ (by omega) ?_
 ·exact⟨0,by omega,by omega,rfl,by simp[T.ah],rfl⟩
 rintro m fr4 h'' ⟨k,hk,rfl,rfl,f11,hpq⟩ hag3
 have e11:=aj f11
 have b2'':=au (hag3 2 rfl)
 have b3'':=au (hag3 3 rfl)
 by_cases aB:k<P.length
 ·have hlq:k<Q.length:=by omega
  obtain⟨i,o,ua,uc,rfl,hi,hc,hu⟩:=(r.ext (XX.mono hB)).at_ aB;obtain⟨i',o',ua',uc',rfl,hi',hc',hu'⟩:=(s.ext (XX.mono hB)).at_ hlq;(with_reducible repeat' (first|refine y1 ?_|refine y4 ?_|simp -dsimp only[↓WB,↓Bp,WP,ae,Nat.reduceEqDiff,Nat.reduceAdd,↓e11,↓b2'',↓b3'',↓b2',↓b3',↓b2,↓b3,dv6,dw6,Nat.mul_one,hc,hc']));refine Bd hu ?_;(with_reducible repeat' (first|refine y4 ?_|refine y5 ?_|simp -dsimp only[↓WB,↓Bp,WP,ae,Nat.reduceEqDiff,Nat.reduceAdd,↓e11,↓b2'',↓b3'',↓b2',↓b3',↓b2,↓b3,dv6,dw6,Nat.mul_one,hc,hc']));refine Bd hu' ?_;by_cases he:P[k]=Q[k];·rw[he];(with_reducible repeat' (first|refine y5 ?_|simp -dsimp only[↓WB,↓Bp,WP,ae,Nat.reduceEqDiff,Nat.reduceAdd,↓e11,↓b2'',↓b3'',↓b2',↓b3',↓b2,↓b3]));exact⟨P.length-(k+1),by omega,k+1,by omega,rfl,by simp[T.ah,bf (show k≤4611686018427387904 by omega)],by rw[← List.take_append_getElem aB,← List.take_append_getElem hlq,hpq,he]⟩
  ·have hne:¬((⟨P[k].toArray⟩:ByteArray)=⟨Q[k].toArray⟩):=fun e=>he (str_inj.1 e);(with_reducible repeat' (first|refine y5 ?_|simp -dsimp only[↓WB,↓Bp,WP,ae,Nat.reduceEqDiff,Nat.reduceAdd,↓e11,↓b2'',↓b3'',↓b2',↓b3',↓b2,↓b3,hne]));exact hK _ _ XX ⟨fun h=>(by cases h),fun h=>absurd (by simp[h.2]) he⟩
 ·have hkl:k=P.length:=by omega
  (with_reducible repeat' (first|refine y2 ?_|simp -dsimp only[↓WB,↓Bp,WP,ae,Nat.reduceEqDiff,Nat.reduceAdd,↓e11,↓b2'',↓b3'',↓b2',↓b3',↓b2,↓b3,dv6,dw6]));exact hK _ _ XX ⟨fun _=>⟨hcd,by have h1:P.take k=P:=List.take_of_length_le (by omega);have h2:Q.take k=Q:=List.take_of_length_le (by omega);rw[h1,h2]at hpq;exact hpq⟩,fun _=>rfl⟩
theorem qg.at_ {B:Nat}{h:Heap}{a:Option Addr}{n c:Nat}{A:List ba}(r:qg B h (.slice a n c) A) {k:Nat}(hk:k<A.length) :
  ∃ i o,a=some ⟨i,o,none⟩∧i<B∧ax h ⟨i,o+k*4,none⟩ 4=some [.int .i64 A[k].k,.int .i64 A[k].p,.int .i64 A[k].v,.int .i64 A[k].c]:=by
 obtain⟨a',c',e,q⟩:=r
 cases e
 obtain⟨i,o,e1,e2,e3⟩:=q k (by simpa using hk)
 refine⟨i,o,e1,e2,?_⟩
 rw[e3,List.getElem_map];rfl
theorem SN {a b:ba}:(a.k=b.k∧a.p=b.p∧a.v=b.v∧a.c=b.c∧True)↔a=b:=by cases a;cases b;simp
theorem tC {B:Nat}{c d:Nat→Int}{pv qv av dv:Value}{P Q:List (List UInt8)}{A D:List ba}{h:Heap}{K:Value→Heap→Prop}(r:qk B h pv P) (s:qk B h qv Q) (ra:qg B h av A) (rd:qg B h dv D) (hB:B≤h.n)
   (hsp:∀ n,aW n pv pv=true) (hsq:∀ n,aW n qv qv=true) (hsa:∀ n,aW n av av=true) (hsd:∀ n,aW n dv dv=true) (hP:P.length≤5000) (hA:A.length≤1000)
   (hK:∀ b h',ai h.n h h'→(b=true↔((∀ i,i<14→c i=d i)∧P=Q∧A=D))→K (.bool b) h'):bT env (.func 10) [.agg ⟨aV c pv av⟩,.agg ⟨aV d qv dv⟩] h K:=by
 obtain⟨pa,pc,rfl,_⟩:=id r
 obtain⟨qa,qc,rfl,_⟩:=id s
 obtain⟨aa,ac,rfl,_⟩:=id ra
 obtain⟨da,dc,rfl,_⟩:=id rd
 refine F10 rfl ?_
 simp -dsimp only[↓WB,↓TN,WP,ae,Nat.reduceEqDiff,Nat.reduceAdd,jm]
 have V:=dm.new h (aV c (.slice pa P.length pc) (.slice aa A.length ac)) 28
 have X:ai h.n h (af h (.cells (aV c (.slice pa P.length pc) (.slice aa A.length ac)) 28 true)):=ai.new _ (Nat.le_refl _)
 have hn1:(af h (.cells (aV c (.slice pa P.length pc) (.slice aa A.length ac)) 28 true)).n=h.n+1:=rfl
 generalize af h (.cells (aV c (.slice pa P.length pc) (.slice aa A.length ac)) 28 true)=h1 at V X hn1 ⊢
 have W:=dm.new h1 (aV d (.slice qa Q.length qc) (.slice da D.length dc)) 28
 have X1:ai h1.n h1 (af h1 (.cells (aV d (.slice qa Q.length qc) (.slice da D.length dc)) 28 true)):=ai.new _ (Nat.le_refl _)
 have hn2:(af h1 (.cells (aV d (.slice qa Q.length qc) (.slice da D.length dc)) 28 true)).n=h.n+2:=by show h1.n+1=_;omega
 rw[hn1]at W ⊢
 replace V:=V.ext X1 (by omega)
 replace X:=X.trans (X1.mono (by omega))
 generalize af h1 (.cells (aV d (.slice qa Q.length qc) (.slice da D.length dc)) 28 true)=h2 at V W X hn2 ⊢
 clear X1 hn1
 have dv:=V.kW
 have dw:=W.kW
 simp -dsimp only[↓WB,↓TN,WP,ae,Nat.reduceEqDiff,Nat.reduceAdd,dv,dw]
 refine Aa (r.ext (X.mono hB)) (s.ext (X.mono hB)) (by omega) hsp hsq hP fun b h3 X3 hb=>?_
 have n3:=X3.n
 have V3:=V.ext X3 (by omega)
 have W3:=W.ext X3 (by omega)
 have dv3:=V3.kW
 have dw3:=W3.kW
 replace X:=X.trans (X3.mono (by omega))
 cases b with
 | false =>
   simp -dsimp only[↓WB,↓TN,WP,ae,Nat.reduceEqDiff,Nat.reduceAdd,dv3,dw3,Bool.not_true,Bool.not_false]
   exact hK _ _ X ⟨fun h=>(by cases h),fun h=>(by have:=hb.2 ⟨h.1,h.2.1⟩;cases this)⟩
 | true =>
 have hb:=hb.1 rfl
 by_cases hlen:A.length=D.length
 case neg =>
   have hleni:¬((A.length:Int)=(D.length:Int)):=by omega
   (with_reducible repeat' (first|refine y2 ?_|simp -dsimp only[↓WB,↓TN,WP,ae,Nat.reduceEqDiff,Nat.reduceAdd,dv3,dw3,Bool.not_true,Bool.not_false]));all_goals exact hK _ _ X ⟨fun h=>(by cases h),fun h=>absurd (congrArg List.length h.2.2) hlen⟩
 have hleni:((A.length:Int)=(D.length:Int)):=by omega
 simp -dsimp only[↓WB,↓TN,WP,ae,Nat.reduceEqDiff,Nat.reduceAdd,dv3,dw3,hleni,Bool.not_true,Bool.not_false]
 refine aE (fun m fr' h''=>∃ k:Nat,k≤A.length∧m=A.length-k∧h''=h3∧fr'.get 5=some (.int .i64 k)∧A.take k=D.take k) A.length ?_ (by omega) ?_
 · exact⟨0,by omega,by omega,rfl,by simp[T.ah],rfl⟩
 rintro m fr4 h'' ⟨k,hk,rfl,rfl,f5,hpq⟩ hag
 have e5:=aj f5
 have b2:=au (hag 2 rfl)
 have b3:=au (hag 3 rfl)
 by_cases aB:k<A.length
 · have hlq:k<D.length:=by omega
   obtain⟨i,o,rfl,hi,hc⟩:=(ra.ext (X.mono hB)).at_ aB;obtain⟨i',o',rfl,hi',hc'⟩:=(rd.ext (X.mono hB)).at_ hlq;by_cases he:A[k]=D[k];· rw[← he]at hc';(with_reducible repeat' (first|refine y1 ?_|refine y4 ?_|simp -dsimp only[↓WB,↓TN,WP,ae,Nat.reduceEqDiff,Nat.reduceAdd,↓e5,↓b2,↓b3,dv3,dw3,hc,hc']));exact⟨A.length-(k+1),by omega,k+1,by omega,rfl,by simp[T.ah,bf (show k≤4611686018427387904 by omega)],by rw[← List.take_append_getElem aB,← List.take_append_getElem hlq,hpq,he]⟩
   · have hne:=fun e=>he (SN.1 e);(with_reducible repeat' (first|refine y1 ?_|refine y3 (fun _=>?_) (fun _=>?_)|refine y4 ?_|refine y5 ?_|simp -dsimp only[↓WB,↓TN,WP,ae,Nat.reduceEqDiff,Nat.reduceAdd,↓e5,↓b2,↓b3,dv3,dw3,hc,hc']));all_goals first
       | exact hK _ _ X ⟨fun h=>(by cases h),fun h=>absurd (by simp[h.2.2]) he⟩
       | (rename_i hh;exact absurd (by simpa using hh) (by simpa using hne))
 · have hkl:k=A.length:=by omega
   (with_reducible repeat' (first|refine y2 ?_|simp -dsimp only[↓WB,↓TN,WP,ae,Nat.reduceEqDiff,Nat.reduceAdd,↓e5,↓b2,↓b3,dv3,dw3]));exact hK _ _ X ⟨fun _=>⟨hb.1,hb.2,by have h1:A.take k=A:=List.take_of_length_le (by omega);have h2:D.take k=D:=List.take_of_length_le (by omega);rw[h1,h2]at hpq;exact hpq⟩,fun _=>rfl⟩
set_option maxRecDepth 100000
def Dc (k:Nat):Nat:=if k<10 then 106 else 107
structure BndL (i:Nat) (l:List Value):Prop where
 len:l.length=56
 one:l.all aF=true
 at_:∀ k,k<14→l[4*k+1]?=some (.iface (Dc k) (.pointer (some ⟨i,k,none⟩)))
theorem wQ {c:Nat→Int}{pv:Value}{k:Nat}(hk:k<14):(br c pv)[k]?=some (.int (if k<10 then .i64 else .u64) (c k)):=by rcases k with _|_|_|_|_|_|_|_|_|_|_|_|_|_|k<;>first|rfl|omega
theorem vE {l Z:List Value}(h:Z.length=l.length):over Z 0 l=some l:=by have:=vA l [] Z [] h;simpa using this
end Go.Proofs.YtohjaacnlmkhbaaGreatDoor
