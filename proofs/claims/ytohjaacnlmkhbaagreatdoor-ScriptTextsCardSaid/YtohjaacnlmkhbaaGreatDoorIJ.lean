/- script.Of, walked. Conditions: none beyond each theorem's own. -/
import Derived.Test.YtohjaacnlmkhbaaGreatDoorTA
import Derived.Test.YtohjaacnlmkhbaaGreatDoorIA
import Derived.Test.YtohjaacnlmkhbaaGreatDoorPU
set_option linter.unusedSimpArgs false
set_option linter.unusedVariables false
namespace Go.Proofs.YtohjaacnlmkhbaaGreatDoor
open Go.Ev
set_option maxRecDepth 100000
set_option maxHeartbeats 1000000
theorem inB_congr {c d:Nat→Int}{i:Nat}(h:c i=d i):inB c i=inB d i:=by unfold inB;rw[h]
theorem mayS_congr {c d:Nat→Int}{P:List (List UInt8)}{A:List ActD}(h:∀ k,k<14→c k=d k):mayS c P A=mayS d P A:=by
 have e:(List.range 14).all (inB c)=(List.range 14).all (inB d):=by
   cases hd:(List.range 14).all (inB d) with
   | true=>exact range14.2 fun i hi=>(inB_congr (h i hi)).trans (range14.1 hd i hi)
   | false =>
     cases hc:(List.range 14).all (inB c) with
     | false=>rfl
     | true =>
       have:(List.range 14).all (inB d)=true:=range14.2 fun i hi=>(inB_congr (h i hi)).symm.trans (range14.1 hc i hi)
       rw[hd]at this;cases this
 unfold mayS mayC
 rw[e]
theorem TextL_congr {c d:Nat→Int}{P:List (List UInt8)}{A:List ActD}(h:∀ k,k<14→c k=d k):TextL c P A=TextL d P A:=by
 unfold TextL
 congr 2
 have:∀ k∈List.range 14,endL (cfgLn c k)=endL (cfgLn d k):=fun k hk=>by
  unfold cfgLn;rw[h k (List.mem_range.1 hk)]
 rw[List.flatMap_def,List.flatMap_def,List.map_congr_left this]
theorem good_may {c:Nat→Int}{P:List (List UInt8)}{A:List ActD}(g:Good c P A) (hA:A.length≤100000):mayS c P A=0:=by
 have h1:mayC c P=0:=by
  unfold mayC
  have hl:=g.p1
  have hl2:=g.p16
  rw[if_pos (range14.2 g.c),if_neg (by omega),if_neg]
  intro h
  obtain⟨p,hp,hd⟩:=List.any_eq_true.1 h
  have:=of_decide_eq_true hd
  have:=g.p p hp
  omega
 unfold mayS
 rw[h1,if_neg (by simp),if_pos g.a,if_neg (by omega)]
theorem good_of {c:Nat→Int}{P:List (List UInt8)}{A:List ActD}(h:mayS c P A=0) (ok:∀ a∈A,okA a):Good c P A:=by
 obtain⟨a1,a2,a3,a4,a5⟩:=mayS_bounds h
 exact⟨a1,a3,a2,a4,a5,ok⟩
theorem progs_good {P:List (List UInt8)}(h:∀ p∈P,p.length≤1024):(P.map textP).map codeOfP=P:=by
 rw[List.map_map]
 conv=>rhs;rw[← List.map_id P]
 exact List.map_congr_left fun p hp=>codeOfP_textP (h p hp)
def Uniq (t:List UInt8) (c:Nat→Int) (P:List (List UInt8)) (A:List ActD):Prop:=∀ c0 P0 A0,Good c0 P0 A0→t=TextL c0 P0 A0→(∀ k,k<14→c k=c0 k)∧P=P0∧A=A0
theorem of_progs {B1 b:Nat}{h h3 h':Heap}{s:St}{av qv:Value}{t:List UInt8}{fr:Fr}{K:Value→Heap→Prop}(hB:B1≤h3.n) (hb:b<B1) (hbn:b=h.n) (X0:ExtB h.n h h') (x:OfS B1 b h3 h' s av qv) (gk:GOk h) (hE:Ended (spl 10 t) s) (ok:okS s)
  (f0:fr.get 0=some (strV t)) (f2:fr.get 2=some (.pointer (some ⟨b,0,none⟩))) (f5:fr.get 5=some qv) (hQ:s.Q.length≤5000) (hA:s.A.length≤5000) (hq:∀ q∈s.Q,q.length≤20000)
  (hK1:∀ c P A pv av h',Good c P A→t=TextL c P A→Uniq t c P A→A.length≤5000→ExtB h.n h h'→RdP h'.n h' pv P→RdA h'.n h' av A→(∀ n,sameV n pv pv=true)→(∀ n,sameV n av av=true)→K (.tuple #[.agg ⟨scrL c pv av⟩,.int .i64 0]) h')
  (hK2:(∀ c P A,Good c P A→A.length≤100000→t≠TextL c P A)→∀ h',ExtB h.n h h'→K (.tuple #[.agg ⟨scrL zc nilS nilS⟩,.int .i64 16]) h'):s15_27.wp env 129 none fr h' (resK env [.cell 2 28,.tmp 3] K):=by
 have gn:=gk.n
 have n0:=X0.n
 have xn:=x.n
 have g0:=getK_of f0
 have g2:=getK_of f2
 obtain⟨qa,qc,eq⟩:=ownS_val x.Q
 subst eq
 have g5:=getK_of f5
 obtain⟨aa,ac,ea⟩:=ownS_val x.A
 subst ea
 unfold strV at g0
 simp -dsimp only[↓WB,↓W15_0,↓W15_2,↓s15_27_w,↓W15_4,↓s15_40_w,↓W15_6,↓s15_49_w,↓W15_8,↓s15_55_w,↓W15_10,↓s15_67_w,↓W15_12,WP,newBlk_n,Nat.reduceEqDiff,Nat.reduceAdd,↓g0,↓g2,↓g5]
 refine cw_loopI (fun m fr' h2=>∃ k pv,k≤s.Q.length∧m=s.Q.length-k∧h'.n≤h2.n∧Box h2 b (scrL s.c pv (.slice aa s.A.length ac)) 28∧OwnP h'.n h2 pv ((s.Q.take k).map codeOfP)∧(∀ i,i<h'.n→i≠b→h2.b.get i=h'.b.get i)∧fr'.get 97=some (.int .i64 k)) s.Q.length ?_ (by omega) ?_
 ·exact⟨0,nilS,by omega,by omega,Nat.le_refl _,x.bx,by simpa using OwnP.nil _ _,fun i _ _=>rfl,by simp[T.get_set]⟩
 rintro m fr2 h2 ⟨k,pv,hk,rfl,n2,V2,O2,o2,f97⟩ hag
 have e97:=getK_of f97
 have b0:=getK_eq (hag 0 rfl)
 have b2:=getK_eq (hag 2 rfl)
 have b95:=getK_eq (hag 95 rfl)
 have b96:=getK_eq (hag 96 rfl)
 have X2:ExtB h.n h h2:=⟨by omega,fun i hi=>(o2 i (by omega) (by omega)).trans (X0.get i hi)⟩
 obtain⟨pa,pc,epv⟩:=O2.val
 have hkl:((s.Q.take k).map codeOfP).length=k:=by simp;omega
 rw[hkl]at epv
 subst epv
 have d2:=V2.scr
 have bl2:=V2.lt
 by_cases hlt:k<s.Q.length
 ·obtain⟨i,rfl,ei⟩:∃ i,qa=some ⟨i,0,none⟩∧B1≤i∧i<h'.n∧h'.b.get i=some (.cells (s.Q.map strV) 9 false):=by
   have o:=x.Q
   generalize hn:s.Q.length=n at o hlt
   generalize hc:s.Q.map strV=cs at o ⊢
   generalize hv:Value.slice qa n qc=v at o
   cases o with
   | nil=>omega
   | emp i hi=>omega
   | row i n cs h1 h2 h3=>cases hv;exact⟨i,rfl,h1,h2,h3⟩
  obtain⟨ei1,ei2,ei3⟩:=ei
  have cq:cellAt h2 ⟨i,k,none⟩=some (strV s.Q[k]):=by
   refine cellAt_blk (by omega) ((o2 i ei2 (by omega)).trans ei3) ?_
   rw[List.getElem?_map,List.getElem?_eq_getElem hlt];rfl
  have hql:=hq _ (List.getElem_mem hlt)
  have hsuc:(s.Q.take (k+1)).map codeOfP=(s.Q.take k).map codeOfP++[codeOfP s.Q[k]]:=by
   rw[← List.take_append_getElem hlt,List.map_append];rfl
  generalize s.Q[k]=q at cq hql hsuc
  unfold strV at cq
  (with_reducible repeat' (first|refine y1 ?_ (by omega)|refine y4 ?_ (by omega) (by omega)|simp -dsimp only[↓WB,↓W15_0,↓W15_2,↓s15_27_w,↓W15_4,↓s15_40_w,↓W15_6,↓s15_49_w,↓W15_8,↓s15_55_w,↓W15_10,↓s15_67_w,↓W15_12,WP,newBlk_n,Nat.reduceEqDiff,Nat.reduceAdd,↓g0,↓g2,↓g5,↓e97,↓b0,↓b2,↓b95,↓b96,Nat.zero_add,Nat.mul_one,cq]))
  refine codeOf_ret (s:=q) (gk.ext (B:=h.n) gn X2) hql fun v e h4 X4 O4=>?_
  have n4:=X4.n
  have V4:=V2.ext X4 V2.lt
  have d4:=V4.scr
  obtain⟨ua,uc,rfl⟩:=ownS_val O4
  have OP4:=O2.ext X4 (Nat.le_refl _)
  (with_reducible repeat' (first|refine y8 ?_ (by with_unfolding_all rfl)|simp -dsimp only[↓WB,↓W15_0,↓W15_2,↓s15_27_w,↓W15_4,↓s15_40_w,↓W15_6,↓s15_49_w,↓W15_8,↓s15_55_w,↓W15_10,↓s15_67_w,↓W15_12,WP,newBlk_n,Nat.reduceEqDiff,Nat.reduceAdd,↓g0,↓g2,↓g5,↓e97,↓b0,↓b2,↓b95,↓b96,d4.2.2.1]))
  refine OwnP.app (l:=codeOfP q) OP4 (ownS_mono O4 n2) (by omega) (by omega) rfl rfl fun v' h5 O5 X5 n5=>?_
  obtain⟨va,vc,rfl⟩:=O5.val
  have hb5:h5.b.get b=h4.b.get b:=X5.get b (by have:=x.bx.lt;omega)
  have V5:Box h5 b (scrL s.c (.slice pa k pc) (.slice aa s.A.length ac)) 28:=⟨by omega,by rw[hb5];exact V4.get⟩
  simp -dsimp only[↓WB,↓W15_0,↓W15_2,↓s15_27_w,↓W15_4,↓s15_40_w,↓W15_6,↓s15_49_w,↓W15_8,↓s15_55_w,↓W15_10,↓s15_67_w,↓W15_12,WP,newBlk_n,Nat.reduceEqDiff,Nat.reduceAdd,↓g0,↓g2,↓g5,↓e97,↓b0,↓b2,↓b95,↓b96]
  refine st_at (off:=14) (cs':=scrL s.c (.slice va ((s.Q.take k).map codeOfP++[codeOfP q]).length vc) (.slice aa s.A.length ac)) V5.get rfl rfl rfl rfl (by decide) ?_
  simp -dsimp only[↓WB,↓W15_0,↓W15_2,↓s15_27_w,↓W15_4,↓s15_40_w,↓W15_6,↓s15_49_w,↓W15_8,↓s15_55_w,↓W15_10,↓s15_67_w,↓W15_12,WP,newBlk_n,Nat.reduceEqDiff,Nat.reduceAdd,↓g0,↓g2,↓g5,↓e97,↓b0,↓b2,↓b95,↓b96]
  refine⟨s.Q.length-(k+1),by omega,k+1,_,by omega,rfl,by show h'.n≤h5.n;omega,V5.set,?_,fun i hi hne=>?_,by simp[T.get_set,wrap_succ (show k≤4611686018427387904 by omega)]⟩
  ·rw[hsuc];exact O5.setLow (by have:=x.bx.lt;omega)
  ·show (h5.b.set b _).get i=_
   rw[T.get_set_ne _ _ (Ne.symm hne),X5.get i hi,X4.get i (by omega)];exact o2 i hi hne
 ·have hke:k=s.Q.length:=by omega
  subst hke
  rw[List.take_length]at O2
  (with_reducible repeat' (first|refine y2 ?_ (by omega)|simp -dsimp only[↓WB,↓W15,WP,newBlk_n,Nat.reduceEqDiff,Nat.reduceAdd,↓g0,↓g2,↓g5,↓e97,↓b0,↓b2,↓b95,↓b96,d2.1]))
  have gk2:=gk.ext (B:=h.n) gn X2
  have OA:OwnS 0 h2 35 (.slice aa s.A.length ac) s.A.length (s.A.map ActD.cells).flatten:=by
   have o:=x.A
   generalize hn:s.A.length=n at o ⊢
   generalize hc:(s.A.map ActD.cells).flatten=cs at o ⊢
   generalize hv:Value.slice aa n ac=v at o ⊢
   cases o with
   | nil=>exact .nil
   | emp i hi=>exact .emp i (by omega)
   | row i n cs h1 h2' h3'=>exact .row i _ _ (Nat.zero_le _) (by omega) ((o2 i h2' (by omega)).trans h3')
  have rA:=RdA.own OA
  have rP:=RdPU.own O2
  have spv:∀ n,sameV n (.slice pa s.Q.length pc) (.slice pa s.Q.length pc)=true:=fun n=>O2.same
  have sav:∀ n,sameV n (.slice aa s.A.length ac) (.slice aa s.A.length ac)=true:=fun n=>same_own OA
  refine text_ret rP rA gk2 (Nat.le_refl _) ok.okC ok.2 (by simpa using hQ) hA (fun hm h4 X4=>?_) (fun hm h4 X4=>?_)
  ·have V4:=V2.ext X4 V2.lt
   have d4:=V4.scr
   have X04:ExtB h.n h h4:=X2.trans (X4.mono (by omega))
   by_cases ht:TextL s.c (s.Q.map codeOfP) s.A=t
   ·rw[ht]
    unfold strV
    simp -dsimp only[↓WB,↓W15,WP,newBlk_n,Nat.reduceEqDiff,Nat.reduceAdd,↓g0,↓g2,↓g5,↓e97,↓b0,↓b2,↓b95,↓b96,d4.1]
    refine st_at (off:=0) (cs':=scrL s.c (.slice pa s.Q.length pc) (.slice aa s.A.length ac)) V4.get rfl rfl (over_all rfl) scr_one (by decide) ?_
    have V5:=V4.set (cs':=scrL s.c (.slice pa s.Q.length pc) (.slice aa s.A.length ac))
    have X5:ExtB h2.n h2 { h4 with b:=h4.b.set b (.cells (scrL s.c (.slice pa s.Q.length pc) (.slice aa s.A.length ac)) 28 true) }:=⟨X4.n,fun i hi=>by
     show (h4.b.set b _).get i=_
     by_cases hib:i=b
     ·subst hib;rw[T.get_set_same,← V2.get]
     ·rw[T.get_set_ne _ _ (Ne.symm hib)];exact X4.get i hi⟩
    generalize ({ h4 with b:=h4.b.set b (.cells (scrL s.c (.slice pa s.Q.length pc) (.slice aa s.A.length ac)) 28 true) }:Heap)=h5 at V5 X5 ⊢
    have d5:=V5.scr
    simp -dsimp only[↓WB,↓W15,WP,newBlk_n,Nat.reduceEqDiff,Nat.reduceAdd,↓g0,↓g2,↓g5,↓e97,↓b0,↓b2,↓b95,↓b96,d5.1]
    exact hK1 _ _ _ _ _ _ (good_of hm ok.2) ht.symm (fun c0 P0 A0 g0 e0=>by
     obtain⟨e1,e2,e3⟩:=ended_good g0 e0 hE
     exact⟨e1,by rw[e2,progs_good g0.p],e3⟩) hA (X2.trans (X5.mono (by omega))) ((rP.rd.ext X5).mono X5.n) ((rA.ext X5).mono X5.n) spv sav
   ·have hne:¬((⟨(TextL s.c (s.Q.map codeOfP) s.A).toArray⟩:ByteArray)=⟨t.toArray⟩):=fun e=>ht (str_inj.1 e)
    unfold strV
    (with_reducible repeat' (first|(refine y9 ?_ (by with_unfolding_all (simp only[fillL_cons,fillL_nil,nth_eq,blt_eq,cond_beq,over,Value.cells,List.getElem?_cons_zero,List.getElem?_cons_succ,List.length_cons,List.length_nil,Nat.reduceAdd,Nat.reduceSub,Nat.reduceLT,Nat.reduceEqDiff,decide_true,cond_true,Option.map_some,if_true,if_false,Nat.add_one_sub_one,Nat.succ_ne_zero,reduceCtorEq,OfNat.ofNat];rfl)))|simp -dsimp only[↓WB,↓W15,WP,newBlk_n,Nat.reduceEqDiff,Nat.reduceAdd,↓g0,↓g2,↓g5,↓e97,↓b0,↓b2,↓b95,↓b96,hne]))
    refine st_at (off:=0) (cs':=scrL zc nilS nilS) V4.get rfl rfl (over_all rfl) scr_one (by decide) ?_
    have V5:=V4.set (cs':=scrL zc nilS nilS)
    have X5:ExtB h.n h4 { h4 with b:=h4.b.set b (.cells (scrL zc nilS nilS) 28 true) }:=ExtB.set _ (by omega)
    generalize ({ h4 with b:=h4.b.set b (.cells (scrL zc nilS nilS) 28 true) }:Heap)=h5 at V5 X5 ⊢
    have d5:=V5.scr
    simp -dsimp only[↓WB,↓W15,WP,newBlk_n,Nat.reduceEqDiff,Nat.reduceAdd,↓g0,↓g2,↓g5,↓e97,↓b0,↓b2,↓b95,↓b96,d5.1]
    refine hK2 (fun c P A g hA' e=>ht ?_) _ (X04.trans X5)
    obtain⟨e1,e2,e3⟩:=ended_good g e hE
    rw[e2,e3,progs_good g.p,TextL_congr e1,e]
  ·have V4:=V2.ext X4 V2.lt
   have X04:ExtB h.n h h4:=X2.trans (X4.mono (by omega))
   unfold strV
   (with_reducible repeat' (first|(refine y9 ?_ (by with_unfolding_all (simp only[fillL_cons,fillL_nil,nth_eq,blt_eq,cond_beq,over,Value.cells,List.getElem?_cons_zero,List.getElem?_cons_succ,List.length_cons,List.length_nil,Nat.reduceAdd,Nat.reduceSub,Nat.reduceLT,Nat.reduceEqDiff,decide_true,cond_true,Option.map_some,if_true,if_false,Nat.add_one_sub_one,Nat.succ_ne_zero,reduceCtorEq,OfNat.ofNat];rfl)))|simp -dsimp only[↓WB,↓W15,WP,newBlk_n,Nat.reduceEqDiff,Nat.reduceAdd,↓g0,↓g2,↓g5,↓e97,↓b0,↓b2,↓b95,↓b96,hm]))
   refine st_at (off:=0) (cs':=scrL zc nilS nilS) V4.get rfl rfl (over_all rfl) scr_one (by decide) ?_
   have V5:=V4.set (cs':=scrL zc nilS nilS)
   have X5:ExtB h.n h4 { h4 with b:=h4.b.set b (.cells (scrL zc nilS nilS) 28 true) }:=ExtB.set _ (by omega)
   generalize ({ h4 with b:=h4.b.set b (.cells (scrL zc nilS nilS) 28 true) }:Heap)=h5 at V5 X5 ⊢
   have d5:=V5.scr
   simp -dsimp only[↓WB,↓W15,WP,newBlk_n,Nat.reduceEqDiff,Nat.reduceAdd,↓g0,↓g2,↓g5,↓e97,↓b0,↓b2,↓b95,↓b96,d5.1]
   refine hK2 (fun c P A g hA' e=>hm ?_) _ (X04.trans X5)
   obtain⟨e1,e2,e3⟩:=ended_good g e hE
   rw[e2,e3,progs_good g.p,mayS_congr e1]
   exact good_may g hA'
theorem sum_take_le:∀ (ls:List (List UInt8)) (k:Nat),((ls.take k).map fun l=>l.length+1).sum≤(ls.map List.length).sum+ls.length
 | [],k=>by simp
 | l::ls,0=>by simp
 | l::ls,k+1=>by
   have:=sum_take_le ls k
   simp only[List.take_succ_cons,List.map_cons,List.sum_cons,List.length_cons];omega
theorem run_bounds {t:List UInt8}{s:St}{k:Nat}(h:Run st0 ((spl 10 t).take k) s):s.A.length+s.Q.length≤t.length+1∧∀ q∈s.Q,q.length≤t.length+1:=by
 obtain⟨h1,h2⟩:=run_sizes h
 have h3:=spl_sum 10 t
 have h4:=sum_take_le (spl 10 t) k
 have h5:=spl_len 10 t
 refine⟨?_,fun q hq=>?_⟩
 ·rw[List.length_take]at h1
  simp only[st0,List.length_nil]at h1
  omega
 ·have:=h2 0 (by simp[st0]) q hq
  omega
theorem ended_bounds {t:List UInt8}{s:St}(h:Ended (spl 10 t) s):(s.A.length+s.Q.length≤t.length+1∧∀ q∈s.Q,q.length≤t.length+1)∧okS s:=by
 rcases h with h|⟨k,hk,h,_⟩
 ·have h':Run st0 ((spl 10 t).take (spl 10 t).length) s:=by rw[List.take_length];exact h
  exact⟨run_bounds h',h.okS okS0⟩
 ·exact⟨run_bounds h,h.okS okS0⟩
theorem TextL_len {c:Nat→Int}{P:List (List UInt8)}{A:List ActD}(g:Good c P A):(TextL c P A).length≤300754+71*A.length:=by
 have okc:okC c:=⟨fun k hk=>by have:=inB_bd (c:=c) (k:=k) (by omega) (g.c k (by omega));omega,fun k h1 h2=>by have:=inB_bd (c:=c) (k:=k) (by omega) (g.c k (by omega));omega⟩
 have h1:=cfgK_len okc (Nat.le_refl 14)
 have h2:=progsK_len g.p (Nat.le_refl _)
 have h3:=actsK_len g.ok (Nat.le_refl _)
 have:=g.p16
 rw[TextL_K,List.length_append,List.length_append]
 omega
theorem of_ret {t:List UInt8}{h:Heap}{K:Value→Heap→Prop}(gk:GOk h) (ht:t.length≤4000∨∃ c P A,Good c P A∧A.length≤300∧t=TextL c P A)
  (hK1:∀ c P A pv av h',Good c P A→t=TextL c P A→Uniq t c P A→A.length≤5000→ExtB h.n h h'→RdP h'.n h' pv P→RdA h'.n h' av A→(∀ n,sameV n pv pv=true)→(∀ n,sameV n av av=true)→K (.tuple #[.agg ⟨scrL c pv av⟩,.int .i64 0]) h')
  (hK2:(∀ c P A,Good c P A→A.length≤100000→t≠TextL c P A)→∀ h',ExtB h.n h h'→K (.tuple #[.agg ⟨scrL zc nilS nilS⟩,.int .i64 16]) h'):Ret env (.func 15) [strV t] h K:=by
 have gn:=gk.n
 have htl:t.length≤400000:=by
  rcases ht with h|⟨c,P,A,g,hA,rfl⟩
  ·omega
  ·have:=TextL_len g;omega
 have hfin:∀ s,Ended (spl 10 t) s→s.Q.length≤5000∧s.A.length≤5000∧∀ q∈s.Q,q.length≤20000:=by
  intro s hE
  obtain⟨⟨b1,b2⟩,_⟩:=ended_bounds hE
  rcases ht with h|⟨c,P,A,g,hA,e⟩
  ·exact⟨by omega,by omega,fun q hq=>by have:=b2 q hq;omega⟩
  ·obtain⟨e1,e2,e3⟩:=ended_good g e hE
   have:=g.p16
   refine⟨by rw[e2,List.length_map];omega,by rw[e3];omega,fun q hq=>?_⟩
   rw[e2]at hq
   obtain⟨p,hp,rfl⟩:=List.mem_map.1 hq
   have:=textP_len (g.p p hp)
   omega
 refine F15 rfl ?_
 unfold strV
 simp -dsimp only[↓WB,↓W15_0,↓s15_9_w,↓W15_2,↓s15_27_w,↓W15_4,↓s15_40_w,↓W15_6,↓s15_49_w,↓W15_8,↓s15_55_w,↓W15_10,↓W15_12,WP,newBlk_n,Nat.reduceEqDiff,Nat.reduceAdd]
 have B1':=Box.new h (scrL zc nilS nilS) 28
 have X1:ExtB h.n h (newBlk h (.cells (scrL zc nilS nilS) 28 true)):=ExtB.new _ (Nat.le_refl _)
 have n1:(newBlk h (.cells (scrL zc nilS nilS) 28 true)).n=h.n+1:=rfl
 refine parts_ret fun h2 X2 n2 m2=>?_
 change ExtB (newBlk h (.cells (scrL zc nilS nilS) 28 true)).n (newBlk h (.cells (scrL zc nilS nilS) 28 true)) h2 at X2
 change (newBlk h (.cells (scrL zc nilS nilS) 28 true)).n<h2.n at n2
 change h2.b.get (newBlk h (.cells (scrL zc nilS nilS) 28 true)).n=_ at m2
 show opsW env _ _ h2 _
 have V2:=B1'.ext X2 B1'.lt
 have X02:=X1.trans (X2.mono (by omega))
 rw[n1]at m2 n2
 have gk2:=gk.ext (B:=h.n) gn X02
 simp -dsimp only[↓WB,↓W15_0,↓s15_9_w,↓W15_2,↓s15_27_w,↓W15_4,↓s15_40_w,↓W15_6,↓s15_49_w,↓W15_8,↓s15_55_w,↓W15_10,↓W15_12,WP,newBlk_n,Nat.reduceEqDiff,Nat.reduceAdd]
 refine split_rd (s:=t) (c:=10) gk2 (by omega) fun h3 X3 R3=>?_
 have n3:=X3.n
 have r3:=R3.lt
 have V3:=V2.ext X3 V2.lt
 have X03:=X02.trans (X3.mono (by omega))
 have m3:h3.b.get (h.n+1)=some (.smap (partsE h.n)):=by rw[X3.get _ (by omega)];exact m2
 have hll:=spl_len 10 t
 have hmem:∀ l∈spl 10 t,l.length≤t.length:=fun l hl=>spl_mem_len hl
 simp -dsimp only[↓WB,↓W15_0,↓s15_9_w,↓W15_2,↓W15_4,↓s15_40_w,↓W15_6,↓s15_49_w,↓W15_8,↓s15_55_w,↓W15_10,↓W15_12,WP,newBlk_n,Nat.reduceEqDiff,Nat.reduceAdd]
 refine cw_loopI (fun m fr' h'=>∃ k s av qv,k≤(spl 10 t).length∧m=(spl 10 t).length-k∧Run st0 ((spl 10 t).take k) s∧OfS h3.n h.n h3 h' s av qv∧fr'.get 21=some (.int .i64 k)∧fr'.get 5=some qv) (spl 10 t).length ?_ (by omega) ?_
 ·refine⟨0,st0,nilS,nilS,by omega,by omega,.nil _,⟨Nat.le_refl _,fun _ _ _=>rfl,V3,by simpa[st0]using OwnS.nil,fun _=>rfl,by simpa[st0]using OwnS.nil,fun _=>rfl⟩,by simp[T.get_set],by simp[T.get_set]⟩
 rintro m fr2 h4 ⟨k,s,av,qv,hk,rfl,hR,x,f21,f5⟩ hag
 have e21:=getK_of f21
 have e5:=getK_of f5
 have b0:=getK_eq (hag 0 rfl)
 have b2:=getK_eq (hag 2 rfl)
 have b4:=getK_eq (hag 4 rfl)
 have b19:=getK_eq (hag 19 rfl)
 have b20:=getK_eq (hag 20 rfl)
 have xn:=x.n
 obtain⟨z1,z2⟩:=run_bounds hR
 have X4:ExtB h.n h h4:=⟨by omega,fun i hi=>(x.f i (by omega) (by omega)).trans (X03.get i hi)⟩
 have gk4:=gk.ext (B:=h.n) gn X4
 have p0:fr2.get 0=some (strV t):=by rw[hag 0 rfl];simp[T.get_set,strV]
 have p2:fr2.get 2=some (.pointer (some ⟨h.n,0,none⟩)):=by rw[hag 2 rfl];simp[T.get_set]
 have p4:fr2.get 4=some (.map (some (h.n+1))):=by rw[hag 4 rfl];simp[T.get_set,n1]
 have tail:∀ (fr':Fr) (h':Heap) (s':St) (av' qv':Value),Ended (spl 10 t) s'→OfS h3.n h.n h3 h' s' av' qv'→fr'.get 5=some qv'→fr'.get 0=fr2.get 0→fr'.get 2=fr2.get 2→s15_27.wp env 129 none fr' h' (resK env [.cell 2 28,.tmp 3] K):=by
  intro fr' h' s' av' qv' hE x' q5 q0 q2
  obtain⟨y1,y2,y3⟩:=hfin s' hE
  have xn':=x'.n
  refine of_progs (B1:=h3.n) (h3:=h3) (Nat.le_refl _) (by omega) rfl ⟨by omega,fun i hi=>(x'.f i (by omega) (by omega)).trans (X03.get i hi)⟩ x' gk hE (ended_bounds hE).2 (by rw[q0];exact p0) (by rw[q2];exact p2) q5 y1 y2 y3 hK1 hK2
 by_cases hlt:k<(spl 10 t).length
 ·have hlen:=hmem _ (List.getElem_mem hlt)
  have cl:cellAt h4 ⟨h2.n,k,none⟩=some (strV (spl 10 t)[k]):=by
   have hc:=R3.at_ k hlt
   have hbb:h4.b.get h2.n=h3.b.get h2.n:=x.f h2.n (by omega) (by omega)
   simp only[cellAt,cellsAt,hbb]at hc ⊢
   rw[show Nat.blt h2.n h4.n=Nat.blt h2.n h3.n by rw[blt_eq,blt_eq];simp;omega]
   exact hc
  have hst:∀ s',Step (spl 10 t)[k] s s'→Run st0 ((spl 10 t).take (k+1)) s':=fun s' h=>by
   rw[← List.take_append_getElem hlt];exact hR.one h
  have hsp:Stop (spl 10 t)[k] s→Ended (spl 10 t) s:=fun h=>.inr ⟨k,hlt,hR,h⟩
  generalize (spl 10 t)[k]=l at hlen cl hst hsp
  unfold strV at cl
  have w9:IntKind.wrap .i64 ((s.Q.length:Int)-1)=(s.Q.length:Int)-1:=wrap_i64 (by omega) (by omega)
  obtain⟨qa,qc,eq⟩:=ownS_val x.Q
  subst eq
  (with_reducible repeat' (first|refine y1 ?_ (by omega)|refine y4 ?_ (by omega) (by omega)|simp -dsimp only[↓WB,↓W15_0,↓s15_9_w,↓W15_2,↓W15_4,↓s15_40_w,↓W15_6,↓s15_49_w,↓W15_8,↓W15_10,↓s15_67_w,↓W15_12,WP,newBlk_n,Nat.reduceEqDiff,Nat.reduceAdd,↓e21,↓e5,↓b0,↓b2,↓b4,↓b19,↓b20,Nat.mul_one,Nat.zero_add,cl]))
  refine split_rd (s:=l) (c:=32) gk4 (by omega) fun h5 X5 R5=>?_
  have n5:=X5.n
  have x5:=x.ext (Nat.le_refl _) (by omega) X5
  simp -dsimp only[↓WB,↓W15_0,↓s15_9_w,↓W15_2,↓W15_4,↓s15_40_w,↓W15_6,↓s15_49_w,↓W15_8,↓W15_10,↓s15_67_w,↓W15_12,WP,newBlk_n,Nat.reduceEqDiff,Nat.reduceAdd,↓e21,↓e5,↓b0,↓b2,↓b4,↓b19,↓b20,w9]
  refine of_round (B1:=h3.n) (b:=h.n) (mb:=h.n+1) (l:=l) (s:=s) (Nat.le_refl _) (by omega) x5 (gk4.ext (B:=h4.n) gk4.n X5) R5 (by omega) (by omega) (fun q hq=>by have:=z2 q hq;omega) ?_ (by omega) ?_ ?_ ?_ ?_ ?_ ?_ (fun fr' h6 s' av' qv' hs x6 q5 qall=>?_) (fun hs fr' q5 qall=>?_)
  ·rw[x5.f _ (by omega) (by omega)];exact m3
  ·simp[T.get_set,p2]
  ·simp[T.get_set,p4]
  ·simp[T.get_set,f5]
  ·simp[T.get_set,strV]
  ·simp[T.get_set]
  ·simp[T.get_set]
  ·have q21:fr'.get 21=some (.int .i64 k):=by rw[qall 21 (by omega)];simp[T.get_set,f21]
   have k21:=getK_of q21
   simp -dsimp only[↓WB,↓W15_0,↓s15_9_w,↓W15_2,↓W15_4,↓s15_40_w,↓W15_6,↓s15_49_w,↓W15_8,↓W15_10,↓s15_67_w,↓W15_12,WP,newBlk_n,Nat.reduceEqDiff,Nat.reduceAdd,↓k21]
   refine⟨(spl 10 t).length-(k+1),by omega,k+1,s',av',qv',by omega,rfl,hst s' hs,x6,by simp[T.get_set,wrap_succ (show k≤4611686018427387904 by omega)],by simp[T.get_set,q5]⟩
  ·simp -dsimp only[↓WB,↓W15_0,↓s15_9_w,↓W15_2,↓W15_4,↓s15_40_w,↓W15_6,↓s15_49_w,↓W15_8,↓W15_10,↓s15_67_w,↓W15_12,WP,newBlk_n,Nat.reduceEqDiff,Nat.reduceAdd]
   refine tail _ _ s _ _ (hsp hs) x5 (by simpa using q5) ?_ ?_
   ·rw[qall 0 (by omega)];simp[T.get_set]
   ·rw[qall 2 (by omega)];simp[T.get_set]
 ·have hke:k=(spl 10 t).length:=by omega
  have hR':Run st0 (spl 10 t) s:=by rw[hke,List.take_length]at hR;exact hR
  (with_reducible repeat' (first|refine y2 ?_ (by omega)|simp -dsimp only[↓WB,↓W15_0,↓s15_9_w,↓W15_2,↓W15_4,↓s15_40_w,↓W15_6,↓s15_49_w,↓W15_8,↓W15_10,↓s15_67_w,↓W15_12,WP,newBlk_n,Nat.reduceEqDiff,Nat.reduceAdd,↓e21,↓e5,↓b0,↓b2,↓b4,↓b19,↓b20]))
  refine tail _ _ s _ _ (.inl hR') x ?_ ?_ ?_
  ·simp[T.get_set,f5]
  ·simp[T.get_set]
  ·simp[T.get_set]
end Go.Proofs.YtohjaacnlmkhbaaGreatDoor
