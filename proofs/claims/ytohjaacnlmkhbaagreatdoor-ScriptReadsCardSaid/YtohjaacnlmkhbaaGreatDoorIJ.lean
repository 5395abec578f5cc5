/- script.Of, walked. Conditions: none beyond each theorem's own. -/
import Derived.Test.YtohjaacnlmkhbaaGreatDoorTA
import Derived.Test.YtohjaacnlmkhbaaGreatDoorIA
import Derived.Test.YtohjaacnlmkhbaaGreatDoorPU
set_option linter.unusedSimpArgs false
set_option linter.unusedVariables false
namespace Go.Proofs.YtohjaacnlmkhbaaGreatDoor
open Go.Ev
set_option maxRecDepth 100000
set_option maxHeartbeats 1000000
theorem yj {c d:Nat→Int}{i:Nat}(h:c i=d i):oM c i=oM d i:=by unfold oM;rw[h]
theorem wD {c d:Nat→Int}{P:List (List UInt8)}{A:List ba}(h:∀ k,k<14→c k=d k):iz c P A=iz d P A:=by
 have e:(List.range 14).all (oM c)=(List.range 14).all (oM d):=by
   cases hd:(List.range 14).all (oM d) with
   | true=>exact jr.2 fun i hi=>(yj (h i hi)).trans (jr.1 hd i hi)
   | false =>
     cases hc:(List.range 14).all (oM c) with
     | false=>rfl
     | true =>
       have:(List.range 14).all (oM d)=true:=jr.2 fun i hi=>(yj (h i hi)).symm.trans (jr.1 hc i hi)
       rw[hd]at this;cases this
 unfold iz kU;rw[e]
theorem Ds {c d:Nat→Int}{P:List (List UInt8)}{A:List ba}(h:∀ k,k<14→c k=d k):cU c P A=cU d P A:=by
 unfold cU;congr 2;have:∀ k∈List.range 14,cL (dh c k)=cL (dh d k):=fun k hk=>by unfold dh;rw[h k (List.mem_range.1 hk)]
 rw[List.flatMap_def,List.flatMap_def,List.map_congr_left this]
theorem Cc {c:Nat→Int}{P:List (List UInt8)}{A:List ba}(g:Good c P A) (hA:A.length≤100000):iz c P A=0:=by
 have h1:kU c P=0:=by unfold kU;have hl:=g.p1;have hl2:=g.Y8;rw[if_pos (jr.2 g.c),if_neg (by omega),if_neg];intro h;obtain⟨p,hp,hd⟩:=List.any_eq_true.1 h;have:=of_decide_eq_true hd;have:=g.p p hp;omega
 unfold iz;rw[h1,if_neg (by simp),if_pos g.a,if_neg (by omega)]
theorem G2 {c:Nat→Int}{P:List (List UInt8)}{A:List ba}(h:iz c P A=0) (ok:∀ a∈A,xA a):Good c P A:=by obtain⟨a1,a2,a3,a4,a5⟩:=th h;exact⟨a1,a3,a2,a4,a5,ok⟩
theorem pY {P:List (List UInt8)}(h:∀ p∈P,p.length≤1024):(P.map c_).map dJ=P:=by
 rw[List.map_map];conv=>rhs;rw[← List.map_id P]
 exact List.map_congr_left fun p hp=>xT (h p hp)
def Y7 (t:List UInt8) (c:Nat→Int) (P:List (List UInt8)) (A:List ba):Prop:=∀ c0 P0 A0,Good c0 P0 A0→t=cU c0 P0 A0→(∀ k,k<14→c k=c0 k)∧P=P0∧A=A0
theorem Pn {B1 b:Nat}{h h3 h':Heap}{s:St}{av qv:Value}{t:List UInt8}{fr:Fr}{K:Value→Heap→Prop}(hB:B1≤h3.n) (hb:b<B1) (hbn:b=h.n) (X0:ai h.n h h') (x:xw B1 b h3 h' s av qv) (gk:rW h) (hE:zo (aZ 10 t) s) (ok:GL s)
  (f0:fr.get 0=some (aq t)) (f2:fr.get 2=some (.pointer (some ⟨b,0,none⟩))) (f5:fr.get 5=some qv) (hQ:s.Q.length≤5000) (hA:s.A.length≤5000) (hq:∀ q∈s.Q,q.length≤20000)
  (hK1:∀ c P A pv av h',Good c P A→t=cU c P A→Y7 t c P A→A.length≤5000→ai h.n h h'→qk h'.n h' pv P→qg h'.n h' av A→(∀ n,aW n pv pv=true)→(∀ n,aW n av av=true)→K (.tuple #[.agg ⟨aV c pv av⟩,.int .i64 0]) h')
  (hK2:(∀ c P A,Good c P A→A.length≤100000→t≠cU c P A)→∀ h',ai h.n h h'→K (.tuple #[.agg ⟨aV zc d_ d_⟩,.int .i64 16]) h'):A_.wp env 129 none fr h' (eY env [.cell 2 28,.tmp 3] K):=by
 have gn:=gk.n
 have n0:=X0.n
 have xn:=x.n
 have g0:=aj f0
 have g2:=aj f2
 obtain⟨qa,qc,eq⟩:=gm x.Q
 subst eq
 have g5:=aj f5
 obtain⟨aa,ac,ea⟩:=gm x.A
 subst ea
 unfold aq at g0
 simp -dsimp only[↓WB,↓iN,↓iL,↓fh,↓iu,↓dD,↓iI,↓eo,↓iJ,↓eO,↓fC,↓dU,↓fz,WP,ae,Nat.reduceEqDiff,Nat.reduceAdd,↓g0,↓g2,↓g5]
 refine aE (fun m fr' h2=>∃ k pv,k≤s.Q.length∧m=s.Q.length-k∧h'.n≤h2.n∧dm h2 b (aV s.c pv (.slice aa s.A.length ac)) 28∧iS h'.n h2 pv ((s.Q.take k).map dJ)∧(∀ i,i<h'.n→i≠b→h2.b.get i=h'.b.get i)∧fr'.get 97=some (.int .i64 k)) s.Q.length ?_ (by omega) ?_
 ·exact⟨0,d_,by omega,by omega,Nat.le_refl _,x.bx,by simpa using iS.nil _ _,fun i _ _=>rfl,by simp[T.ah]⟩
 rintro m fr2 h2 ⟨k,pv,hk,rfl,n2,V2,O2,o2,f97⟩ hag
 have Ib:=aj f97
 have b0:=au (hag 0 rfl)
 have b2:=au (hag 2 rfl)
 have b95:=au (hag 95 rfl)
 have b96:=au (hag 96 rfl)
 have X2:ai h.n h h2:=⟨by omega,fun i hi=>(o2 i (by omega) (by omega)).trans (X0.get i hi)⟩
 obtain⟨pa,pc,epv⟩:=O2.val
 have hkl:((s.Q.take k).map dJ).length=k:=by simp;omega
 rw[hkl]at epv
 subst epv
 have d2:=V2.kW
 have bl2:=V2.lt
 by_cases aB:k<s.Q.length
 ·obtain⟨i,rfl,ei⟩:∃ i,qa=some ⟨i,0,none⟩∧B1≤i∧i<h'.n∧h'.b.get i=some (.cells (s.Q.map aq) 9 false):=by
   have o:=x.Q;generalize hn:s.Q.length=n at o aB;generalize hc:s.Q.map aq=cs at o ⊢;generalize hv:Value.slice qa n qc=v at o;cases o with
   | nil=>omega
   | emp i hi=>omega
   | row i n cs h1 h2 h3=>cases hv;exact⟨i,rfl,h1,h2,h3⟩
  obtain⟨ei1,ei2,ei3⟩:=ei;have cq:cellAt h2 ⟨i,k,none⟩=some (aq s.Q[k]):=by refine bQ (by omega) ((o2 i ei2 (by omega)).trans ei3) ?_;rw[List.getElem?_map,List.getElem?_eq_getElem aB];rfl
  have hql:=hq _ (List.getElem_mem aB);have hsuc:(s.Q.take (k+1)).map dJ=(s.Q.take k).map dJ++[dJ s.Q[k]]:=by rw[← List.take_append_getElem aB,List.map_append];rfl
  generalize s.Q[k]=q at cq hql hsuc;unfold aq at cq;(with_reducible repeat' (first|refine y1 ?_|refine y4 ?_|simp -dsimp only[↓WB,↓iN,↓iL,↓fh,↓iu,↓dD,↓iI,↓eo,↓iJ,↓eO,↓fC,↓dU,↓fz,WP,ae,Nat.reduceEqDiff,Nat.reduceAdd,↓g0,↓g2,↓g5,↓Ib,↓b0,↓b2,↓b95,↓b96,Nat.zero_add,Nat.mul_one,cq]));refine FX (s:=q) (gk.ext (B:=h.n) gn X2) hql fun v e h4 X4 O4=>?_;have n4:=X4.n;have V4:=V2.ext X4 V2.lt;have d4:=V4.kW;obtain⟨ua,uc,rfl⟩:=gm O4;have OP4:=O2.ext X4 (Nat.le_refl _);(with_reducible repeat' (first|refine y8 ?_|simp -dsimp only[↓WB,↓iN,↓iL,↓fh,↓iu,↓dD,↓iI,↓eo,↓iJ,↓eO,↓fC,↓dU,↓fz,WP,ae,Nat.reduceEqDiff,Nat.reduceAdd,↓g0,↓g2,↓g5,↓Ib,↓b0,↓b2,↓b95,↓b96,d4.2.2.1]));refine iS.app (l:=dJ q) OP4 (yD O4 n2) (by omega) (by omega) rfl rfl fun v' h5 O5 X5 n5=>?_;obtain⟨va,vc,rfl⟩:=O5.val;have hb5:h5.b.get b=h4.b.get b:=X5.get b (by have:=x.bx.lt;omega);have V5:dm h5 b (aV s.c (.slice pa k pc) (.slice aa s.A.length ac)) 28:=⟨by omega,by rw[hb5];exact V4.get⟩;simp -dsimp only[↓WB,↓iN,↓iL,↓fh,↓iu,↓dD,↓iI,↓eo,↓iJ,↓eO,↓fC,↓dU,↓fz,WP,ae,Nat.reduceEqDiff,Nat.reduceAdd,↓g0,↓g2,↓g5,↓Ib,↓b0,↓b2,↓b95,↓b96];refine bN (off:=14) (cs':=aV s.c (.slice va ((s.Q.take k).map dJ++[dJ q]).length vc) (.slice aa s.A.length ac)) V5.get rfl rfl rfl rfl (by decide) ?_;simp -dsimp only[↓WB,↓iN,↓iL,↓fh,↓iu,↓dD,↓iI,↓eo,↓iJ,↓eO,↓fC,↓dU,↓fz,WP,ae,Nat.reduceEqDiff,Nat.reduceAdd,↓g0,↓g2,↓g5,↓Ib,↓b0,↓b2,↓b95,↓b96];refine⟨s.Q.length-(k+1),by omega,k+1,_,by omega,rfl,by show h'.n≤h5.n;omega,V5.set,?_,fun i hi hne=>?_,by simp[T.ah,bf (show k≤4611686018427387904 by omega)]⟩;·rw[hsuc];exact O5.Ao (by have:=x.bx.lt;omega)
  ·show (h5.b.set b _).get i=_;rw[T.ar _ _ (Ne.symm hne),X5.get i hi,X4.get i (by omega)];exact o2 i hi hne
 ·have hke:k=s.Q.length:=by omega
  subst hke;rw[List.take_length]at O2;(with_reducible repeat' (first|refine y2 ?_|simp -dsimp only[↓WB,↓tR,WP,ae,Nat.reduceEqDiff,Nat.reduceAdd,↓g0,↓g2,↓g5,↓Ib,↓b0,↓b2,↓b95,↓b96,d2.1]));have gk2:=gk.ext (B:=h.n) gn X2;have OA:bn 0 h2 35 (.slice aa s.A.length ac) s.A.length (s.A.map ba.cells).flatten:=by
   have o:=x.A;generalize hn:s.A.length=n at o ⊢;generalize hc:(s.A.map ba.cells).flatten=cs at o ⊢;generalize hv:Value.slice aa n ac=v at o ⊢;cases o with
   | nil=>exact .nil
   | emp i hi=>exact .emp i (by omega)
   | row i n cs h1 h2' h3'=>exact .row i _ _ (Nat.zero_le _) (by omega) ((o2 i h2' (by omega)).trans h3')
  have rA:=qg.own OA;have rP:=tX.own O2;have spv:∀ n,aW n (.slice pa s.Q.length pc) (.slice pa s.Q.length pc)=true:=fun n=>O2.same;have sav:∀ n,aW n (.slice aa s.A.length ac) (.slice aa s.A.length ac)=true:=fun n=>rB OA;refine LQ rP rA gk2 (Nat.le_refl _) ok.Mi ok.2 (by simpa using hQ) hA (fun hm h4 X4=>?_) (fun hm h4 X4=>?_)
  ·have V4:=V2.ext X4 V2.lt;have d4:=V4.kW;have X04:ai h.n h h4:=X2.trans (X4.mono (by omega));by_cases ht:cU s.c (s.Q.map dJ) s.A=t
   ·rw[ht];unfold aq;simp -dsimp only[↓WB,↓tR,WP,ae,Nat.reduceEqDiff,Nat.reduceAdd,↓g0,↓g2,↓g5,↓Ib,↓b0,↓b2,↓b95,↓b96,d4.1];refine bN (off:=0) (cs':=aV s.c (.slice pa s.Q.length pc) (.slice aa s.A.length ac)) V4.get rfl rfl (vE rfl) jm (by decide) ?_;have V5:=V4.set (cs':=aV s.c (.slice pa s.Q.length pc) (.slice aa s.A.length ac));have X5:ai h2.n h2 { h4 with b:=h4.b.set b (.cells (aV s.c (.slice pa s.Q.length pc) (.slice aa s.A.length ac)) 28 true) }:=⟨X4.n,fun i hi=>by
     show (h4.b.set b _).get i=_;by_cases hib:i=b;·subst hib;rw[T.get_set_same,← V2.get]
     ·rw[T.ar _ _ (Ne.symm hib)];exact X4.get i hi⟩
    generalize ({ h4 with b:=h4.b.set b (.cells (aV s.c (.slice pa s.Q.length pc) (.slice aa s.A.length ac)) 28 true) }:Heap)=h5 at V5 X5 ⊢;have d5:=V5.kW;simp -dsimp only[↓WB,↓tR,WP,ae,Nat.reduceEqDiff,Nat.reduceAdd,↓g0,↓g2,↓g5,↓Ib,↓b0,↓b2,↓b95,↓b96,d5.1];exact hK1 _ _ _ _ _ _ (G2 hm ok.2) ht.symm (fun c0 P0 A0 g0 e0=>by obtain⟨e1,e2,e3⟩:=mN g0 e0 hE;exact⟨e1,by rw[e2,pY g0.p],e3⟩) hA (X2.trans (X5.mono (by omega))) ((rP.rd.ext X5).mono X5.n) ((rA.ext X5).mono X5.n) spv sav
   ·have hne:¬((⟨(cU s.c (s.Q.map dJ) s.A).toArray⟩:ByteArray)=⟨t.toArray⟩):=fun e=>ht (str_inj.1 e);unfold aq;(with_reducible repeat' (first|refine y9 ?_|simp -dsimp only[↓WB,↓tR,WP,ae,Nat.reduceEqDiff,Nat.reduceAdd,↓g0,↓g2,↓g5,↓Ib,↓b0,↓b2,↓b95,↓b96,hne]));refine bN (off:=0) (cs':=aV zc d_ d_) V4.get rfl rfl (vE rfl) jm (by decide) ?_;have V5:=V4.set (cs':=aV zc d_ d_);have X5:ai h.n h4 { h4 with b:=h4.b.set b (.cells (aV zc d_ d_) 28 true) }:=ai.set _ (by omega);generalize ({ h4 with b:=h4.b.set b (.cells (aV zc d_ d_) 28 true) }:Heap)=h5 at V5 X5 ⊢;have d5:=V5.kW;simp -dsimp only[↓WB,↓tR,WP,ae,Nat.reduceEqDiff,Nat.reduceAdd,↓g0,↓g2,↓g5,↓Ib,↓b0,↓b2,↓b95,↓b96,d5.1];refine hK2 (fun c P A g hA' e=>ht ?_) _ (X04.trans X5);obtain⟨e1,e2,e3⟩:=mN g e hE;rw[e2,e3,pY g.p,Ds e1,e]
  ·have V4:=V2.ext X4 V2.lt;have X04:ai h.n h h4:=X2.trans (X4.mono (by omega));unfold aq;(with_reducible repeat' (first|refine y9 ?_|simp -dsimp only[↓WB,↓tR,WP,ae,Nat.reduceEqDiff,Nat.reduceAdd,↓g0,↓g2,↓g5,↓Ib,↓b0,↓b2,↓b95,↓b96,hm]));refine bN (off:=0) (cs':=aV zc d_ d_) V4.get rfl rfl (vE rfl) jm (by decide) ?_;have V5:=V4.set (cs':=aV zc d_ d_);have X5:ai h.n h4 { h4 with b:=h4.b.set b (.cells (aV zc d_ d_) 28 true) }:=ai.set _ (by omega);generalize ({ h4 with b:=h4.b.set b (.cells (aV zc d_ d_) 28 true) }:Heap)=h5 at V5 X5 ⊢;have d5:=V5.kW;simp -dsimp only[↓WB,↓tR,WP,ae,Nat.reduceEqDiff,Nat.reduceAdd,↓g0,↓g2,↓g5,↓Ib,↓b0,↓b2,↓b95,↓b96,d5.1];refine hK2 (fun c P A g hA' e=>hm ?_) _ (X04.trans X5);obtain⟨e1,e2,e3⟩:=mN g e hE;rw[e2,e3,pY g.p,wD e1];exact Cc g hA'
theorem tq:∀ (ls:List (List UInt8)) (k:Nat),((ls.take k).map fun l=>l.length+1).sum≤(ls.map List.length).sum+ls.length
 | [],k=>by simp
 | l::ls,0=>by simp
 | l::ls,k+1=>by have:=tq ls k;simp only[List.take_succ_cons,List.map_cons,List.sum_cons,List.length_cons];omega
theorem qh {t:List UInt8}{s:St}{k:Nat}(h:pB DM ((aZ 10 t).take k) s):s.A.length+s.Q.length≤t.length+1∧∀ q∈s.Q,q.length≤t.length+1:=by
 obtain⟨h1,h2⟩:=Ia h;have h3:=qJ 10 t;have h4:=tq (aZ 10 t) k;have h5:=mo 10 t;refine⟨?_,fun q hq=>?_⟩;·rw[List.length_take]at h1;simp only[DM,List.length_nil]at h1;omega
 ·have:=h2 0 (by simp[DM]) q hq;omega
theorem rR {t:List UInt8}{s:St}(h:zo (aZ 10 t) s):(s.A.length+s.Q.length≤t.length+1∧∀ q∈s.Q,q.length≤t.length+1)∧GL s:=by
 rcases h with h|⟨k,hk,h,_⟩
 ·have h':pB DM ((aZ 10 t).take (aZ 10 t).length) s:=by rw[List.take_length];exact h
  exact⟨qh h',h.GL Xv⟩
 ·exact⟨qh h,h.GL Xv⟩
theorem Ir {c:Nat→Int}{P:List (List UInt8)}{A:List ba}(g:Good c P A):(cU c P A).length≤300754+71*A.length:=by have okc:Mi c:=⟨fun k hk=>by have:=sf (c:=c) (k:=k) (by omega) (g.c k (by omega));omega,fun k h1 h2=>by have:=sf (c:=c) (k:=k) (by omega) (g.c k (by omega));omega⟩;have h1:=n_ okc (Nat.le_refl 14);have h2:=mv g.p (Nat.le_refl _);have h3:=oN g.ok (Nat.le_refl _);have:=g.Y8;rw[AW,List.length_append,List.length_append];omega
theorem WI {t:List UInt8}{h:Heap}{K:Value→Heap→Prop}(gk:rW h) (ht:t.length≤4000∨∃ c P A,Good c P A∧A.length≤300∧t=cU c P A)
  (hK1:∀ c P A pv av h',Good c P A→t=cU c P A→Y7 t c P A→A.length≤5000→ai h.n h h'→qk h'.n h' pv P→qg h'.n h' av A→(∀ n,aW n pv pv=true)→(∀ n,aW n av av=true)→K (.tuple #[.agg ⟨aV c pv av⟩,.int .i64 0]) h')
  (hK2:(∀ c P A,Good c P A→A.length≤100000→t≠cU c P A)→∀ h',ai h.n h h'→K (.tuple #[.agg ⟨aV zc d_ d_⟩,.int .i64 16]) h'):bT env (.func 15) [aq t] h K:=by
 have gn:=gk.n
 have htl:t.length≤400000:=by
  rcases ht with h|⟨c,P,A,g,hA,rfl⟩;·omega
  ·have:=Ir g;omega
 have hfin:∀ s,zo (aZ 10 t) s→s.Q.length≤5000∧s.A.length≤5000∧∀ q∈s.Q,q.length≤20000:=by
  intro s hE;obtain⟨⟨b1,b2⟩,_⟩:=rR hE;rcases ht with h|⟨c,P,A,g,hA,e⟩;·exact⟨by omega,by omega,fun q hq=>by have:=b2 q hq;omega⟩
  ·obtain⟨e1,e2,e3⟩:=mN g e hE;have:=g.Y8;refine⟨by rw[e2,List.length_map];omega,by rw[e3];omega,fun q hq=>?_⟩;rw[e2]at hq;obtain⟨p,hp,rfl⟩:=List.mem_map.1 hq;have:=sY (g.p p hp);omega
 refine F15 rfl ?_
 unfold aq
 simp -dsimp only[↓WB,↓iN,↓fV,↓iL,↓fh,↓iu,↓dD,↓iI,↓eo,↓iJ,↓eO,↓fC,↓fz,WP,ae,Nat.reduceEqDiff,Nat.reduceAdd]
 have B1':=dm.new h (aV zc d_ d_) 28
 have X1:ai h.n h (af h (.cells (aV zc d_ d_) 28 true)):=ai.new _ (Nat.le_refl _)
 have n1:(af h (.cells (aV zc d_ d_) 28 true)).n=h.n+1:=rfl
 refine zH fun h2 X2 n2 m2=>?_
 change ai (af h (.cells (aV zc d_ d_) 28 true)).n (af h (.cells (aV zc d_ d_) 28 true)) h2 at X2
 change (af h (.cells (aV zc d_ d_) 28 true)).n<h2.n at n2
 change h2.b.get (af h (.cells (aV zc d_ d_) 28 true)).n=_ at m2
 show fm env _ _ h2 _
 have V2:=B1'.ext X2 B1'.lt
 have X02:=X1.trans (X2.mono (by omega))
 rw[n1]at m2 n2
 have gk2:=gk.ext (B:=h.n) gn X02
 simp -dsimp only[↓WB,↓iN,↓fV,↓iL,↓fh,↓iu,↓dD,↓iI,↓eo,↓iJ,↓eO,↓fC,↓fz,WP,ae,Nat.reduceEqDiff,Nat.reduceAdd]
 refine re (s:=t) (c:=10) gk2 (by omega) fun h3 X3 R3=>?_
 have n3:=X3.n
 have r3:=R3.lt
 have V3:=V2.ext X3 V2.lt
 have X03:=X02.trans (X3.mono (by omega))
 have m3:h3.b.get (h.n+1)=some (.smap (eJ h.n)):=by rw[X3.get _ (by omega)];exact m2
 have hll:=mo 10 t
 have hmem:∀ l∈aZ 10 t,l.length≤t.length:=fun l hl=>fv hl
 simp -dsimp only[↓WB,↓iN,↓fV,↓iL,↓iu,↓dD,↓iI,↓eo,↓iJ,↓eO,↓fC,↓fz,WP,ae,Nat.reduceEqDiff,Nat.reduceAdd]
 refine aE (fun m fr' h'=>∃ k s av qv,k≤(aZ 10 t).length∧m=(aZ 10 t).length-k∧pB DM ((aZ 10 t).take k) s∧xw h3.n h.n h3 h' s av qv∧fr'.get 21=some (.int .i64 k)∧fr'.get 5=some qv) (aZ 10 t).length ?_ (by omega) ?_
 ·refine⟨0,DM,d_,d_,by omega,by omega,.nil _,⟨Nat.le_refl _,fun _ _ _=>rfl,V3,by simpa[DM]using bn.nil,fun _=>rfl,by simpa[DM]using bn.nil,fun _=>rfl⟩,by simp[T.ah],by simp[T.ah]⟩
 rintro m fr2 h4 ⟨k,s,av,qv,hk,rfl,hR,x,f21,f5⟩ hag
 have e21:=aj f21
 have e5:=aj f5
 have b0:=au (hag 0 rfl)
 have b2:=au (hag 2 rfl)
 have b4:=au (hag 4 rfl)
 have b19:=au (hag 19 rfl)
 have b20:=au (hag 20 rfl)
 have xn:=x.n
 obtain⟨z1,z2⟩:=qh hR
 have X4:ai h.n h h4:=⟨by omega,fun i hi=>(x.f i (by omega) (by omega)).trans (X03.get i hi)⟩
 have gk4:=gk.ext (B:=h.n) gn X4
 have p0:fr2.get 0=some (aq t):=by rw[hag 0 rfl];simp[T.ah,aq]
 have p2:fr2.get 2=some (.pointer (some ⟨h.n,0,none⟩)):=by rw[hag 2 rfl];simp[T.ah]
 have p4:fr2.get 4=some (.map (some (h.n+1))):=by rw[hag 4 rfl];simp[T.ah,n1]
 have tail:∀ (fr':Fr) (h':Heap) (s':St) (av' qv':Value),zo (aZ 10 t) s'→xw h3.n h.n h3 h' s' av' qv'→fr'.get 5=some qv'→fr'.get 0=fr2.get 0→fr'.get 2=fr2.get 2→A_.wp env 129 none fr' h' (eY env [.cell 2 28,.tmp 3] K):=by intro fr' h' s' av' qv' hE x' q5 q0 q2;obtain⟨y1,y2,y3⟩:=hfin s' hE;have xn':=x'.n;refine Pn (B1:=h3.n) (h3:=h3) (Nat.le_refl _) (by omega) rfl ⟨by omega,fun i hi=>(x'.f i (by omega) (by omega)).trans (X03.get i hi)⟩ x' gk hE (rR hE).2 (by rw[q0];exact p0) (by rw[q2];exact p2) q5 y1 y2 y3 hK1 hK2
 by_cases aB:k<(aZ 10 t).length
 ·have hlen:=hmem _ (List.getElem_mem aB);have cl:cellAt h4 ⟨h2.n,k,none⟩=some (aq (aZ 10 t)[k]):=by have hc:=R3.at_ k aB;have hbb:h4.b.get h2.n=h3.b.get h2.n:=x.f h2.n (by omega) (by omega);simp only[cellAt,ax,hbb]at hc ⊢;rw[show Nat.blt h2.n h4.n=Nat.blt h2.n h3.n by rw[blt_eq,blt_eq];simp;omega];exact hc
  have hst:∀ s',Step (aZ 10 t)[k] s s'→pB DM ((aZ 10 t).take (k+1)) s':=fun s' h=>by rw[← List.take_append_getElem aB];exact hR.one h
  have hsp:Stop (aZ 10 t)[k] s→zo (aZ 10 t) s:=fun h=>.inr ⟨k,aB,hR,h⟩;generalize (aZ 10 t)[k]=l at hlen cl hst hsp;unfold aq at cl;have w9:IntKind.wrap .i64 ((s.Q.length:Int)-1)=(s.Q.length:Int)-1:=wrap_i64 (by omega) (by omega);obtain⟨qa,qc,eq⟩:=gm x.Q;subst eq;(with_reducible repeat' (first|refine y1 ?_|refine y4 ?_|simp -dsimp only[↓WB,↓iN,↓fV,↓iL,↓iu,↓dD,↓iI,↓eo,↓iJ,↓fC,↓dU,↓fz,WP,ae,Nat.reduceEqDiff,Nat.reduceAdd,↓e21,↓e5,↓b0,↓b2,↓b4,↓b19,↓b20,Nat.mul_one,Nat.zero_add,cl]));refine re (s:=l) (c:=32) gk4 (by omega) fun h5 X5 R5=>?_;have n5:=X5.n;have x5:=x.ext (Nat.le_refl _) (by omega) X5;simp -dsimp only[↓WB,↓iN,↓fV,↓iL,↓iu,↓dD,↓iI,↓eo,↓iJ,↓fC,↓dU,↓fz,WP,ae,Nat.reduceEqDiff,Nat.reduceAdd,↓e21,↓e5,↓b0,↓b2,↓b4,↓b19,↓b20,w9];refine KG (B1:=h3.n) (b:=h.n) (mb:=h.n+1) (l:=l) (s:=s) (Nat.le_refl _) (by omega) x5 (gk4.ext (B:=h4.n) gk4.n X5) R5 (by omega) (by omega) (fun q hq=>by have:=z2 q hq;omega) ?_ (by omega) ?_ ?_ ?_ ?_ ?_ ?_ (fun fr' h6 s' av' qv' hs x6 q5 qall=>?_) (fun hs fr' q5 qall=>?_);·rw[x5.f _ (by omega) (by omega)];exact m3
  ·simp[T.ah,p2]
  ·simp[T.ah,p4]
  ·simp[T.ah,f5]
  ·simp[T.ah,aq]
  ·simp[T.ah]
  ·simp[T.ah]
  ·have q21:fr'.get 21=some (.int .i64 k):=by rw[qall 21 (by omega)];simp[T.ah,f21]
   have k21:=aj q21;simp -dsimp only[↓WB,↓iN,↓fV,↓iL,↓iu,↓dD,↓iI,↓eo,↓iJ,↓fC,↓dU,↓fz,WP,ae,Nat.reduceEqDiff,Nat.reduceAdd,↓k21];refine⟨(aZ 10 t).length-(k+1),by omega,k+1,s',av',qv',by omega,rfl,hst s' hs,x6,by simp[T.ah,bf (show k≤4611686018427387904 by omega)],by simp[T.ah,q5]⟩
  ·simp -dsimp only[↓WB,↓iN,↓fV,↓iL,↓iu,↓dD,↓iI,↓eo,↓iJ,↓fC,↓dU,↓fz,WP,ae,Nat.reduceEqDiff,Nat.reduceAdd];refine tail _ _ s _ _ (hsp hs) x5 (by simpa using q5) ?_ ?_;·rw[qall 0 (by omega)];simp[T.ah]
   ·rw[qall 2 (by omega)];simp[T.ah]
 ·have hke:k=(aZ 10 t).length:=by omega
  have hR':pB DM (aZ 10 t) s:=by rw[hke,List.take_length]at hR;exact hR
  (with_reducible repeat' (first|refine y2 ?_|simp -dsimp only[↓WB,↓iN,↓fV,↓iL,↓iu,↓dD,↓iI,↓eo,↓iJ,↓fC,↓dU,↓fz,WP,ae,Nat.reduceEqDiff,Nat.reduceAdd,↓e21,↓e5,↓b0,↓b2,↓b4,↓b19,↓b20]));refine tail _ _ s _ _ (.inl hR') x ?_ ?_ ?_;·simp[T.ah,f5]
  ·simp[T.ah]
  ·simp[T.ah]
end Go.Proofs.YtohjaacnlmkhbaaGreatDoor
