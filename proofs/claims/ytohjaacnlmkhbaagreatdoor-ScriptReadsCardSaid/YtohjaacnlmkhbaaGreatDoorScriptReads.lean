/- ScriptReads: whatever the text is, the law answers true, and what came in reads as it did. Conditions: the row's own (library tables laid, as the card ties them). -/
import Derived.Test.YtohjaacnlmkhbaaGreatDoorJA
import Derived.Test.YtohjaacnlmkhbaaGreatDoorJL
import Derived.ChangeMaps5
import Derived.Test.YtohjaacnlmkhbaaGreatDoorIL
set_option linter.unusedSimpArgs false
set_option linter.unusedVariables false
namespace Go.Proofs.YtohjaacnlmkhbaaGreatDoor
open Go.Ev
set_option maxRecDepth 100000
set_option maxHeartbeats 2000000
def lz (H:Heap) (nj:Nat):Prop:=∀ k (hk:k<dC.length),cellAt H ⟨nj,k,none⟩=some (aq dC[k])
theorem lz.ext {B nj:Nat}{H H':Heap}(n:lz H nj) (X:ai B H H') (h:nj<B):lz H' nj:=fun k hk=>aI X h (n k hk)
theorem J' {k:Nat}(hk:k<dC.length):(dC[k]).map j8=aM.getD k []:=by
 have:∀ i:Fin 14,(dC[i.1]'(by have:=i.2;exact this)).map j8=aM.getD i.1 []:=by decide
 exact this ⟨k,hk⟩
theorem Ih {k:Nat}(hk:k<dC.length):(dC[k]).length≤1000:=by
 have:∀ i:Fin 14,(dC[i.1]'(by have:=i.2;exact this)).length≤1000:=by decide
 exact this ⟨k,hk⟩
theorem L5 {l w:List UInt8}{c:Nat→Int}{k:Nat}(h:aZ 32 l=[aM.getD k [],w]) (hw:w=Lib.itoa (c k)):l=dh c k:=by have:=lZ 32 l;rw[h]at this;rw[← this,hw];simp[uN,dh]
theorem len2 {f:List (List UInt8)}(h:f.length=2):∃ a b,f=[a,b]:=by
 match f,h with
 | [a,b],_=>exact⟨a,b,rfl⟩
theorem LA {t:List UInt8}{ls:List (List UInt8)}{h0 H:Heap}{nb sb nj:Nat}{v:Value}{fr:Fr}{K:Value→Heap→Prop}(o:Cn h0 H nb sb (fun _=>0) (.slice none 0 0) (.slice none 0 0)) (R:ph nb H v ls) (N:lz H nj) (hnj:nj<sb)
   (g2:fr.get 2=some (.pointer (some ⟨h0.n,0,none⟩))) (g6:fr.get 6=some (.pointer (some ⟨nb,0,none⟩))) (g8:fr.get 8=some (.pointer (some ⟨sb,0,none⟩))) (g4:fr.get 4=some v) (g7:fr.get 7=some (.slice (some ⟨nj,0,none⟩) 14 14))
   (hsz:qZ ls≤5000) (h10:∀ l∈ls,(10:UInt8)∉l) (hl14:14≤ls.length) (hE:aZ 10 t=ls++[[]])
   (hK1:∀ c P A pv av h',Good c P A→A.length≤100000→t=cU c P A→qk h'.n h' pv P→qg h'.n h' av A→(∀ n,aW n pv pv=true)→(∀ n,aW n av av=true)→ai h0.n h0 h'→K (.tuple #[.agg ⟨aV c pv av⟩,.int .i64 0]) h')
   (hK2:∀ h',(∀ c P A,Good c P A→A.length≤100000→t≠cU c P A)→ai h0.n h0 h'→K (.tuple #[y0,.int .i64 16]) h'):ER.wp env 161 none fr H (eY env [.cell 2 28,.tmp 3] K):=by
 obtain⟨va,vc,rfl⟩:=R.val
 have e2:=aj g2
 have e4:=aj g4
 have e6:=aj g6
 have e7:=aj g7
 have e8:=aj g8
 have hlen:=qM ls
 have line:∀ {k},k<14→∀ c P A,Good c P A→t=cU c P A→ls[k]?=some (dh c k):=by intro k hk c P A g e;rw[e,l6]at hE;rw[← (List.append_inj' hE rfl).1];unfold cO;rw[List.append_assoc];exact HX c _ hk
 simp -dsimp only[↓WB,↓cQ,↓bg,↓cV,↓bc,↓cS,↓bo,↓cT,↓aK,↓cR,↓a7,↓bF,↓aS,↓bJ,↓bH,↓aT,↓bG,↓aX,↓bI,↓aR,↓bE,WP,ae,Nat.reduceEqDiff,Nat.reduceAdd]
 refine aE (fun m fr' h'=>∃ i c,i≤14∧m=14-i∧Cn h0 h' nb sb c (.slice none 0 0) (.slice none 0 0)∧ph nb h' (.slice va ls.length vc) ls∧lz h' nj∧fr'.get 9=some (.int .i64 (i:Nat))∧(∀ k,k<i→ls[k]?=some (dh c k)∧0≤c k∧c k≤9223372036854775807)∧∀ k,i≤k→c k=0) 14 ?_ (by omega) ?_
 · refine⟨0,fun _=>0,by omega,rfl,o,R,N,?_,fun k hk=>absurd hk (Nat.not_lt_zero k),fun k _=>rfl⟩;simp[T.ah]
 rintro m fr2 h2 ⟨i,c,hi,rfl,o2,R2,N2,f9,hc,hz⟩ hag
 have e9:=aj f9
 have b2:=au (hag 2 rfl)
 have b4:=au (hag 4 rfl)
 have b6:=au (hag 6 rfl)
 have b7:=au (hag 7 rfl)
 have b8:=au (hag 8 rfl)
 have p2:fr2.get 2=some (.pointer (some ⟨h0.n,0,none⟩)):=(hag 2 rfl).trans (by simp[T.ah,g2])
 have p4:fr2.get 4=some (.slice va ls.length vc):=(hag 4 rfl).trans (by simp[T.ah,g4])
 have p6:fr2.get 6=some (.pointer (some ⟨nb,0,none⟩)):=(hag 6 rfl).trans (by simp[T.ah,g6])
 have p8:fr2.get 8=some (.pointer (some ⟨sb,0,none⟩)):=(hag 8 rfl).trans (by simp[T.ah,g8])
 have k2:=aj p2
 have k4:=aj p4
 have k6:=aj p6
 have k8:=aj p8
 have k7:=aj (show fr2.get 7=some (.slice (some ⟨nj,0,none⟩) 14 14) from (hag 7 rfl).trans (by simp[T.ah,g7]))
 have hns:=o2.ns
 have hrn:=o2.rn
 by_cases aB:i<14
 · have hil:i<ls.length:=by omega
   obtain⟨_,ri,ro,rfl,dc⟩:=R2.at_ hil;have hll:ls[i].length≤500000:=by have:=Ae (List.getElem_mem hil);omega
   have gi:∀ c P A,Good c P A→t=cU c P A→ls[i]=dh c i:=by intro c P A g e;have:=line aB c P A g e;rw[List.getElem?_eq_getElem hil]at this;exact Option.some.inj this
   have gi':∀ c',ls[i]=dh c' i→ls[i]?=some (dh c' i):=fun c' e=>by rw[List.getElem?_eq_getElem hil,e]
   generalize ls[i]=l at dc hll gi gi';unfold aq at dc;have w1:IntKind.wrap .i64 ((i:Int)+1)=((i+1:Nat):Int):=by rw[wrap_i64 (by omega) (by omega)];omega
   have hi14:i<dC.length:=aB;have dn:=N2 i hi14;have lw:=J' hi14;have nl:=Ih hi14;generalize dC[i]=nm at dn lw nl;(with_reducible repeat' (first|refine y1 ?_|refine y4 ?_|simp -dsimp only[↓WB,↓cQ,↓bg,↓cV,↓bc,↓cS,↓bo,↓cT,↓aK,↓cR,↓a7,↓bF,↓aS,↓bJ,↓bH,↓aT,↓bG,↓aX,↓bI,↓aR,↓bE,WP,ae,Nat.reduceEqDiff,Nat.reduceAdd,↓e9,↓k4,↓k7,Nat.mul_one,dc]));refine tn (s:=l) hll fun w h3 O3 X3=>?_;have n3:=X3.n;have o3:=o2.ext X3;have R3:=ph.own O3;obtain⟨wa,wc,rfl⟩:=R3.val;have dn3:=aI X3 (by have:=o2.s.lt;omega) dn;unfold aq at dn3;have bad:∀ {e:Prop},(∀ c P A,Good c P A→t=cU c P A→False)→∀ h',ai h0.n h0 h'→K (.tuple #[y0,.int .i64 16]) h':=fun hb h' X=>hK2 h' (fun c P A g _ e=>hb c P A g e) X;have two:∀ c P A,Good c P A→t=cU c P A→aZ 32 l=[aM.getD i [],Lib.itoa (c i)]:=fun c P A g e=>by rw[gi c P A g e];exact kl aB
   have cfgl:∀ (w:List UInt8) (c':Nat→Int),aZ 32 l=[aM.getD i [],w]→w=Lib.itoa (c' i)→l=dh c' i:=fun w c' h e=>L5 h e;generalize aM.getD i []=wd at lw two cfgl;by_cases hf2:(aZ 32 l).length=2
   · obtain⟨x0,x1,hf⟩:∃ x0 x1,aZ 32 l=[x0,x1]:=len2 hf2;have hx1:x1.length≤500000:=by have:=fv (c:=32) (l:=l) (w:=x1) (by rw[hf];simp);omega
     rw[hf]at R3;obtain⟨_,wi,wo,rfl,d0⟩:=R3.at_ (k:=0) (by simp);obtain⟨_,wi1,wo1,e1,d1⟩:=R3.at_ (k:=1) (by simp);cases e1;simp only[List.getElem_cons_zero,List.getElem_cons_succ,Nat.add_zero]at d0 d1;have hwl:wi<h3.n:=R3.lt0 (by simp);unfold aq at d0 d1;have z2:((2:Nat):Int)=2:=rfl;have tn1:Int.toNat 1=1:=rfl;rw[hf2];(with_reducible repeat' (first|refine y4 ?_|simp -dsimp only[↓WB,↓cQ,↓bg,↓cV,↓bc,↓cS,↓bo,↓cT,↓aK,↓cR,↓a7,↓bF,↓aS,↓bJ,↓bH,↓aT,↓bG,↓aX,↓bI,↓aR,↓bE,WP,ae,Nat.reduceEqDiff,Nat.reduceAdd,↓e9,↓k2,↓k4,↓k6,↓k7,↓k8,Nat.mul_one,Nat.zero_mul,Nat.add_zero,Nat.zero_add,z2,d0,dn3,eq_self]));have l47:∀ {h:Heap}{K:Value→Heap→Prop},(∀ h',ai h.n h h'→K (aq (nm.map j8)) h')→bT env (.func 47) [.string ⟨nm.toArray⟩] h K:=fun q=>yz nl q;refine l47 fun h4 X4=>?_;have n4:=X4.n;have o4:=o3.ext X4;rw[lw];replace d0:=aI X4 hwl d0;replace d1:=aI X4 hwl d1;unfold aq;simp -dsimp only[↓WB,↓cQ,↓bg,↓cV,↓bc,↓cS,↓bo,↓cT,↓aK,↓cR,↓a7,↓bF,↓aS,↓bJ,↓bH,↓aT,↓bG,↓aX,↓bI,↓aR,↓bE,WP,ae,Nat.reduceEqDiff,Nat.reduceAdd,↓e9,↓k2,↓k4,↓k6,↓k7,↓k8,Nat.mul_one,Nat.zero_mul,Nat.add_zero,d0,mi,n4];with_reducible refine nA (fun hx=>?_) (fun hx=>?_)
     · have hx0:x0=wd:=str_inj.1 hx;(with_reducible repeat' (first|refine y4 ?_|refine y5 ?_|simp -dsimp only[↓WB,↓cQ,↓bg,↓cV,↓bc,↓cS,↓bo,↓cT,↓aK,↓cR,↓a7,↓bF,↓aS,↓bJ,↓bH,↓aT,↓bG,↓aX,↓bI,↓aR,↓bE,WP,ae,Nat.reduceEqDiff,Nat.reduceAdd,↓e9,↓k2,↓k4,↓k6,↓k7,↓k8,Nat.mul_one,Nat.zero_mul,Nat.add_zero,d0,d1,tn1]));refine k_ (s:=x1) hx1 fun n p h5 X5 g1 g1' tt uu=>?_;have n5:=X5.n;have o5:=o4.ext X5;have tw:∀ c P A,Good c P A→t=cU c P A→x1=Lib.itoa (c i)∧0<c i∧c i≤4294967296:=fun c P A g e=>by have:=two c P A g e;rw[hf]at this;have b:=sf aB (g.c i aB);exact⟨(List.cons.inj (List.cons.inj this).2).1,b.1,b.2⟩
       cases p with
       | false =>
         have d6:=o5.n.kW.1
         simp -dsimp only[↓WB,↓cQ,↓bg,↓cV,↓bc,↓cS,↓bo,↓cT,↓aK,↓cR,↓a7,↓bF,↓aS,↓bJ,↓bH,↓aT,↓bG,↓aX,↓bI,↓aR,↓bE,WP,ae,Nat.reduceEqDiff,Nat.reduceAdd,↓e9,↓k2,↓k4,↓k6,↓k7,↓k8,Nat.mul_one,Nat.zero_mul,Nat.add_zero,d6]
         refine bN (off:=0) (cs':=zN) o5.r.get rfl rfl rfl rfl (by decide) ?_
         have B:=o5.r.set (cs':=zN)
         have X:ai h0.n h0 { h5 with b:=h5.b.set h0.n (.cells zN 28 true) }:=o5.x.trans (ai.set _ (Nat.le_refl _))
         generalize ({ h5 with b:=h5.b.set h0.n (.cells zN 28 true) }:Heap)=H2 at B X ⊢
         have d2:=B.kW.1
         simp -dsimp only[↓WB,↓cQ,↓bg,↓cV,↓bc,↓cS,↓bo,↓cT,↓aK,↓cR,↓a7,↓bF,↓aS,↓bJ,↓bH,↓aT,↓bG,↓aX,↓bI,↓aR,↓bE,WP,ae,Nat.reduceEqDiff,Nat.reduceAdd,↓e9,↓k2,↓k4,↓k6,↓k7,↓k8,Nat.mul_one,Nat.zero_mul,Nat.add_zero,d2]
         exact bad (e:=True) (fun c P A g e=>by obtain ⟨q1,q2,q3⟩:=tw c P A g e;have:=(uu (c i) (by omega) (by omega) q1).2;cases this) _ X
       | true =>
         by_cases hn:n<0
         · skip;have d6:=o5.n.kW.1;(with_reducible repeat' (first|refine y1 ?_|simp -dsimp only[↓WB,↓cQ,↓bg,↓cV,↓bc,↓cS,↓bo,↓cT,↓aK,↓cR,↓a7,↓bF,↓aS,↓bJ,↓bH,↓aT,↓bG,↓aX,↓bI,↓aR,↓bE,WP,ae,Nat.reduceEqDiff,Nat.reduceAdd,↓e9,↓k2,↓k4,↓k6,↓k7,↓k8,Nat.mul_one,Nat.zero_mul,Nat.add_zero,d6]));refine bN (off:=0) (cs':=zN) o5.r.get rfl rfl rfl rfl (by decide) ?_;have B:=o5.r.set (cs':=zN);have X:ai h0.n h0 { h5 with b:=h5.b.set h0.n (.cells zN 28 true) }:=o5.x.trans (ai.set _ (Nat.le_refl _));generalize ({ h5 with b:=h5.b.set h0.n (.cells zN 28 true) }:Heap)=H2 at B X ⊢;have d2:=B.kW.1;simp -dsimp only[↓WB,↓cQ,↓bg,↓cV,↓bc,↓cS,↓bo,↓cT,↓aK,↓cR,↓a7,↓bF,↓aS,↓bJ,↓bH,↓aT,↓bG,↓aX,↓bI,↓aR,↓bE,WP,ae,Nat.reduceEqDiff,Nat.reduceAdd,↓e9,↓k2,↓k4,↓k6,↓k7,↓k8,Nat.mul_one,Nat.zero_mul,Nat.add_zero,d2];exact bad (e:=True) (fun c P A g e=>by obtain ⟨q1,q2,q3⟩:=tw c P A g e;have:=(uu (c i) (by omega) (by omega) q1).1;omega) _ X
         · obtain⟨m,rfl⟩:=Int.eq_ofNat_of_zero_le (show 0≤n by omega);have wn:IntKind.wrap .u64 (m:Int)=(m:Int):=wrap_u64 (by omega) (by omega);have d15:=o5.s.kW.2.1;(with_reducible repeat' (first|refine y2 ?_|simp -dsimp only[↓WB,↓cQ,↓bg,↓cV,↓bc,↓cS,↓bo,↓cT,↓aK,↓cR,↓a7,↓bF,↓aS,↓bJ,↓bH,↓aT,↓bG,↓aX,↓bI,↓aR,↓bE,WP,ae,Nat.reduceEqDiff,Nat.reduceAdd,↓e9,↓k2,↓k4,↓k6,↓k7,↓k8,Nat.mul_one,Nat.zero_mul,Nat.add_zero,wn,d15]));refine Jd (c:=c) (pa:=none) (pn:=0) (pc:=0) (k:=i) (n:=m) aB (by omega) fun h6 X6=>?_;have n6:=X6.n;have o6:=o5.ext X6;simp -dsimp only[↓WB,↓cQ,↓bg,↓cV,↓bc,↓cS,↓bo,↓cT,↓aK,↓cR,↓a7,↓bF,↓aS,↓bJ,↓bH,↓aT,↓bG,↓aX,↓bI,↓aR,↓bE,WP,ae,Nat.reduceEqDiff,Nat.reduceAdd,↓e9,↓k2,↓k4,↓k6,↓k7,↓k8,Nat.mul_one,Nat.zero_mul,Nat.add_zero];refine bN (off:=0) (cs':=aV (fun k=>if k=i then (m:Int) else c k) (.slice none 0 0) (.slice none 0 0)) o6.s.get rfl rfl rfl rfl (by decide) ?_;have o7:=o6.set (c':=fun k=>if k=i then (m:Int) else c k) (pv':=.slice none 0 0) (av':=.slice none 0 0);have X26:ai h2.n h2 h6:=(((X3.trans (X4.mono n3)).trans (X5.mono (by omega))).trans (X6.mono (by omega)));have hnb:=o2.n.lt;have hsb:=o2.s.lt;have R7:ph nb { h6 with b:=h6.b.set sb (.cells (aV (fun k=>if k=i then (m:Int) else c k) (.slice none 0 0) (.slice none 0 0)) 28 true) } (.slice (some ⟨ri,ro,none⟩) ls.length vc) ls:=(R2.ext (X26.mono (by omega))).ext (ai.set _ (by omega));have N7:lz { h6 with b:=h6.b.set sb (.cells (aV (fun k=>if k=i then (m:Int) else c k) (.slice none 0 0) (.slice none 0 0)) 28 true) } nj:=(N2.ext X26 (by omega)).ext (B:=sb) (ai.set _ (Nat.le_refl _)) hnj;generalize ({ h6 with b:=h6.b.set sb (.cells (aV (fun k=>if k=i then (m:Int) else c k) (.slice none 0 0) (.slice none 0 0)) 28 true) }:Heap)=h7 at o7 R7 N7 ⊢;simp -dsimp only[↓WB,↓cQ,↓bg,↓cV,↓bc,↓cS,↓bo,↓cT,↓aK,↓cR,↓a7,↓bF,↓aS,↓bJ,↓bH,↓aT,↓bG,↓aX,↓bI,↓aR,↓bE,WP,ae,Nat.reduceEqDiff,Nat.reduceAdd,↓e9,↓k2,↓k4,↓k6,↓k7,↓k8,Nat.mul_one,Nat.zero_mul,Nat.add_zero,w1];refine⟨14-(i+1),by omega,i+1,fun k=>if k=i then (m:Int) else c k,by omega,rfl,o7,R7,N7,by simp[T.ah],fun k hk=>?_,fun k hk=>?_⟩
           · by_cases hki:k=i
             · subst hki;refine⟨gi' _ (cfgl x1 _ (by rw[hf,hx0]) ?_),?_,?_⟩;· simp only[if_true];exact tt rfl
               · simp only[if_true];omega
               · simp only[if_true];omega
             · have:=hc k (by omega);have e:dh (fun k=>if k=i then (m:Int) else c k) k=dh c k:=by unfold dh;simp only[if_neg hki]
               simp only[if_neg hki,e];exact this
           · simp only[if_neg (show ¬k=i by omega)];exact hz k (by omega)
     · have hx0:¬x0=wd:=fun e=>hx (by rw[e]);have d6:=o4.n.kW.1;(with_reducible repeat' (first|refine y5 ?_|simp -dsimp only[↓WB,↓cQ,↓bg,↓cV,↓bc,↓cS,↓bo,↓cT,↓aK,↓cR,↓a7,↓bF,↓aS,↓bJ,↓bH,↓aT,↓bG,↓aX,↓bI,↓aR,↓bE,WP,ae,Nat.reduceEqDiff,Nat.reduceAdd,↓e9,↓k2,↓k4,↓k6,↓k7,↓k8,Nat.mul_one,Nat.zero_mul,Nat.add_zero,d0,d6]));refine bN (off:=0) (cs':=zN) o4.r.get rfl rfl rfl rfl (by decide) ?_;have B:=o4.r.set (cs':=zN);have X:ai h0.n h0 { h4 with b:=h4.b.set h0.n (.cells zN 28 true) }:=o4.x.trans (ai.set _ (Nat.le_refl _));generalize ({ h4 with b:=h4.b.set h0.n (.cells zN 28 true) }:Heap)=H2 at B X ⊢;have d2:=B.kW.1;simp -dsimp only[↓WB,↓cQ,↓bg,↓cV,↓bc,↓cS,↓bo,↓cT,↓aK,↓cR,↓a7,↓bF,↓aS,↓bJ,↓bH,↓aT,↓bG,↓aX,↓bI,↓aR,↓bE,WP,ae,Nat.reduceEqDiff,Nat.reduceAdd,↓e9,↓k2,↓k4,↓k6,↓k7,↓k8,d2];exact bad (e:=True) (fun c P A g e=>hx0 (by have:=two c P A g e;rw[hf]at this;exact(List.cons.inj this).1)) _ X
   · have q:¬(((aZ 32 l).length:Nat):Int)=2:=by omega
     have d6:=o3.n.kW.1;simp -dsimp only[↓WB,↓cQ,↓bg,↓cV,↓bc,↓cS,↓bo,↓cT,↓aK,↓cR,↓a7,↓bF,↓aS,↓bJ,↓bH,↓aT,↓bG,↓aX,↓bI,↓aR,↓bE,WP,ae,Nat.reduceEqDiff,Nat.reduceAdd,↓e9,↓k2,↓k4,↓k6,↓k7,↓k8,q,d6];refine bN (off:=0) (cs':=zN) o3.r.get rfl rfl rfl rfl (by decide) ?_;have B:=o3.r.set (cs':=zN);have X:ai h0.n h0 { h3 with b:=h3.b.set h0.n (.cells zN 28 true) }:=o3.x.trans (ai.set _ (Nat.le_refl _));generalize ({ h3 with b:=h3.b.set h0.n (.cells zN 28 true) }:Heap)=H2 at B X ⊢;have d2:=B.kW.1;simp -dsimp only[↓WB,↓cQ,↓bg,↓cV,↓bc,↓cS,↓bo,↓cT,↓aK,↓cR,↓a7,↓bF,↓aS,↓bJ,↓bH,↓aT,↓bG,↓aX,↓bI,↓aR,↓bE,WP,ae,Nat.reduceEqDiff,Nat.reduceAdd,↓e9,↓k2,↓k4,↓k6,↓k7,↓k8,d2];exact bad (e:=True) (fun c P A g e=>hf2 (by rw[two c P A g e];rfl)) _ X
 · obtain rfl:i=14:=by omega
   have hne:ls≠[]:=by intro e;rw[e]at hl14;simp at hl14
   (with_reducible repeat' (first|refine y2 ?_|simp -dsimp only[↓WB,↓cQ,↓bg,↓cV,↓bc,↓cS,↓bo,↓cT,↓aK,↓cR,↓a7,↓bF,↓bJ,↓bO,↓bH,↓aT,↓bG,↓aX,↓bI,↓aR,↓bE,WP,ae,Nat.reduceEqDiff,Nat.reduceAdd,↓e9,↓k2,↓k4,↓k6,↓k7,↓k8]));refine ph.cut R2 (lo:=14) hl14 hne fun v7 R7=>?_;simp -dsimp only[↓WB,↓cQ,↓bg,↓cV,↓bc,↓cS,↓bo,↓cT,↓aK,↓cR,↓a7,↓bF,↓bJ,↓bO,↓bH,↓aT,↓bG,↓aX,↓bI,↓aR,↓bE,WP,ae,Nat.reduceEqDiff,Nat.reduceAdd,↓e9,↓k2,↓k4,↓k6,↓k7,↓k8];have hsp:ls=(List.range 14).map (dh c)++ls.drop 14:=by
     conv=>lhs;rw[← List.take_append_drop 14 ls]
     congr 1;refine List.ext_getElem? fun k=>?_;by_cases hk:k<14;· rw[List.getElem?_take_of_lt hk,(hc k hk).1,List.getElem?_map,List.getElem?_range hk];rfl
     · rw[List.getElem?_eq_none (by simp;omega),List.getElem?_eq_none (by simp;omega)]
   have hsz2:qZ (ls.drop 14)≤5000:=by have:=congrArg qZ (List.take_append_drop 14 ls);rw[z7]at this;omega
   refine Ez (t:=t) (c:=c) (ls:=ls.drop 14) o2 R7 (by simp[T.ah,p2]) (by simp[T.ah,p6]) (by simp[T.ah,p8]) (by simp[T.ah]) hsz2 (fun l hl=>h10 l (List.mem_of_mem_drop hl)) (fun k hk=>by have:=(hc k hk).2;omega) (by rw[← hsp];exact hE) (fun P A pv av h'=>hK1 c P A pv av h') hK2
theorem Um:[Value.int .i64 0,.int .i64 0,.int .i64 0,.int .i64 0,.int .i64 0,.int .i64 0,.int .i64 0,.int .i64 0,.int .i64 0,.int .i64 0,.int .u64 0,.int .u64 0,.int .u64 0,.int .u64 0,.slice none 0 0,.slice none 0 0]=zN:=rfl
theorem Cq {t:List UInt8}{h:Heap}{K:Value→Heap→Prop}(ht:t.length≤4000)
  (hK1:∀ c P A pv av h',Good c P A→A.length≤100000→t=cU c P A→qk h'.n h' pv P→qg h'.n h' av A→(∀ n,aW n pv pv=true)→(∀ n,aW n av av=true)→ai h.n h h'→K (.tuple #[.agg ⟨aV c pv av⟩,.int .i64 0]) h')
  (hK2:∀ h',(∀ c P A,Good c P A→A.length≤100000→t≠cU c P A)→ai h.n h h'→K (.tuple #[y0,.int .i64 16]) h'):bT env (.func 17) [aq t] h K:=by
 refine F17 rfl ?_
 unfold aq
 have B0:=dm.new h zN 28
 have X0:ai h.n h (af h (.cells zN 28 true)):=ai.new _ (Nat.le_refl _)
 have m0:(af h (.cells zN 28 true)).n=h.n+1:=rfl
 simp -dsimp only[↓WB,↓cQ,↓bg,↓cV,↓bc,↓cS,↓bo,↓cT,↓aK,↓cR,↓a7,↓bF,↓aS,↓bJ,↓bO,↓bH,↓bG,↓aX,↓bI,↓aR,↓bE,WP,ae,Nat.reduceEqDiff,Nat.reduceAdd]
 rw[Um]
 generalize af h (.cells zN 28 true)=h1 at B0 X0 m0 ⊢
 refine ti (s:=t) (by omega) fun v h2 ls r hsp O2 X2=>?_
 have n2:=X2.n
 have R2:=ph.own O2
 obtain⟨va,vc,rfl⟩:=R2.val
 (with_reducible repeat' (first|refine y7 ?_|refine y9 ?_|simp -dsimp only[↓WB,↓cQ,↓bg,↓cV,↓bc,↓cS,↓bo,↓cT,↓aK,↓cR,↓a7,↓bF,↓aS,↓bJ,↓bO,↓bH,↓bG,↓aX,↓bI,↓aR,↓bE,WP,ae,Nat.reduceEqDiff,Nat.reduceAdd]))
 have B2:=dm.new h2 zN 28
 have X3:ai h2.n h2 (af h2 (.cells zN 28 true)):=ai.new _ (Nat.le_refl _)
 have m3:(af h2 (.cells zN 28 true)).n=h2.n+1:=rfl
 rw[show af h2 (.cells [Value.int .i64 (Int.ofNat 0),.int .i64 (Int.ofNat 0),.int .i64 (Int.ofNat 0),.int .i64 (Int.ofNat 0),.int .i64 (Int.ofNat 0),.int .i64 (Int.ofNat 0),.int .i64 (Int.ofNat 0),.int .i64 (Int.ofNat 0),.int .i64 (Int.ofNat 0),.int .i64 (Int.ofNat 0),.int .u64 (Int.ofNat 0),.int .u64 (Int.ofNat 0),.int .u64 (Int.ofNat 0),.int .u64 (Int.ofNat 0),.slice none 0 0,.slice none 0 0] 28 true)=af h2 (.cells zN 28 true) from rfl]
 have B0':=(B0.ext X2 B0.lt).ext X3 (by have:=B0.lt;omega)
 have R3:=R2.ext X3
 generalize af h2 (.cells zN 28 true)=h3 at B2 X3 m3 B0' R3 ⊢
 refine so fun nj h4 X4 hj1 hj2 N4=>?_
 have n4:=X4.n
 have B04:=B0'.ext X4 (by have:=B0.lt;omega)
 have B24:=B2.ext X4 B2.lt
 have R4:=R3.ext (X4.mono (by omega))
 have Xh:ai h.n h h4:=((X0.trans (X2.mono (by omega))).trans (X3.mono (by omega))).trans (X4.mono (by omega))
 have z14:((14:Nat):Int)=14:=rfl
 have fail:(∀ c P A,Good c P A→A.length≤100000→t≠cU c P A)→∀ fr:Fr,fr.get 2=some (.pointer (some ⟨h.n,0,none⟩))→fr.get 6=some (.pointer (some ⟨h2.n,0,none⟩))→FO.wp env 161 none fr h4 (ue (GC.wp env 161 none FV) (eY env [.cell 2 28,.tmp 3] K)):=by intro hno fr g2 g6;have k2:=aj g2;have k6:=aj g6;have d6:=B24.kW.1;simp -dsimp only[↓WB,↓cQ,↓bg,↓cV,↓bc,↓cS,↓bo,↓cT,↓aK,↓cR,↓a7,↓bF,↓aS,↓bJ,↓bO,↓bH,↓aT,↓bG,↓bI,↓aR,↓bE,WP,ae,Nat.reduceEqDiff,Nat.reduceAdd,↓k2,↓k6,d6];refine bN (off:=0) (cs':=zN) B04.get rfl rfl rfl rfl (by decide) ?_;have B:=B04.set (cs':=zN);have X:ai h.n h { h4 with b:=h4.b.set h.n (.cells zN 28 true) }:=Xh.trans (ai.set _ (Nat.le_refl _));generalize ({ h4 with b:=h4.b.set h.n (.cells zN 28 true) }:Heap)=H2 at B X ⊢;have d2:=B.kW.1;simp -dsimp only[↓WB,↓cQ,↓bg,↓cV,↓bc,↓cS,↓bo,↓cT,↓aK,↓cR,↓a7,↓bF,↓aS,↓bJ,↓bO,↓bH,↓aT,↓bG,↓bI,↓aR,↓bE,WP,ae,Nat.reduceEqDiff,Nat.reduceAdd,↓k2,↓k6,d2];exact hK2 _ hno X
 have lin:∀ c P A,Good c P A→t=cU c P A→r=[]∧ls=cO c P A:=by intro c P A g e;rw[e,l6]at hsp;have:=List.append_inj' hsp rfl;exact⟨(List.cons.inj this.2).1.symm,this.1.symm⟩
 unfold aq
 by_cases hr:r=[]
 ·have q:((⟨r.toArray⟩:ByteArray)=⟨⟨[]⟩⟩)=True:=eq_true (by rw[hr]);by_cases hl:ls.length<14
  ·have hl':(ls.length:Int)<14:=by omega
   (with_reducible repeat' (first|refine y1 ?_|simp -dsimp only[↓WB,↓cQ,↓bg,↓cV,↓bc,↓cS,↓bo,↓cT,↓aK,↓cR,↓a7,↓bF,↓aS,↓bJ,↓bO,↓bH,↓aT,↓bG,↓bI,↓bE,WP,ae,Nat.reduceEqDiff,Nat.reduceAdd,q,hl']));refine fail (fun c P A g _ e=>?_) _ (by simp[T.ah]) (by simp[T.ah]);have:=congrArg List.length (lin c P A g e).2;unfold cO at this;simp at this;omega
  ·have hl':¬(ls.length:Int)<14:=by omega
   have B4:=dm.new h4 zN 28;have X5:ai h4.n h4 (af h4 (.cells zN 28 true)):=ai.new _ (Nat.le_refl _);have B05:=B04.ext X5 B04.lt;have B25:=B24.ext X5 B24.lt;have R5:=R4.ext (X5.mono (by omega));have N5:lz (af h4 (.cells zN 28 true)) nj:=lz.ext (B:=h4.n) N4 X5 hj1;(with_reducible repeat' (first|refine y2 ?_|simp -dsimp only[↓WB,↓cQ,↓bg,↓cV,↓bc,↓cS,↓bo,↓cT,↓aK,↓cR,↓a7,↓bF,↓aS,↓bJ,↓bO,↓bH,↓bG,↓aX,↓bI,↓aR,↓bE,WP,ae,Nat.reduceEqDiff,Nat.reduceAdd,q,hl']));rw[Um];generalize af h4 (.cells zN 28 true)=h5 at B4 X5 B05 B25 R5 N5 ⊢;have hsz:qZ ls≤5000:=by
    have:=qJ 10 t;rw[hsp]at this;simp only[List.map_append,List.sum_append,List.length_append]at this;have e:qZ ls=(ls.map List.length).sum+ls.length:=by
     unfold qZ;clear this hsp R2 R3 R4 R5 O2 lin hl hl';induction ls with
     | nil=>rfl
     | cons l ls ih=>simp only[List.map_cons,List.sum_cons,List.length_cons,ih];omega
    omega
   refine LA (t:=t) (ls:=ls) (h0:=h) (nb:=h2.n) (sb:=h4.n) (nj:=nj) ⟨Xh.trans (X5.mono Xh.n),B05,B25,B4,by omega,by omega⟩ R5 N5 hj1 (by simp[T.ah]) (by simp[T.ah]) (by simp[T.ah]) (by simp[T.ah]) (by simp[T.ah]) hsz (fun l hl=>?_) (by omega) (by rw[hsp,hr]) hK1 hK2;exact yW 10 (l:=t) (by rw[hsp];exact List.mem_append_left _ hl)
 ·have q:((⟨r.toArray⟩:ByteArray)=⟨⟨[]⟩⟩)=False:=eq_false fun e=>hr (by simpa using congrArg (fun x:ByteArray=>x.data.toList) e);simp -dsimp only[↓WB,↓cQ,↓bg,↓cV,↓bc,↓cS,↓bo,↓cT,↓aK,↓cR,↓a7,↓bF,↓aS,↓bJ,↓bO,↓bH,↓aT,↓bG,↓bI,↓bE,WP,ae,Nat.reduceEqDiff,Nat.reduceAdd,q];exact fail (fun c P A g _ e=>hr (lin c P A g e).1) _ (by simp[T.ah]) (by simp[T.ah])
theorem GW (B:Nat) (h:Heap):qk B h (.slice none 0 0) []:=⟨none,0,rfl,fun k l e=>by simp at e⟩
theorem Hd (B:Nat) (h:Heap):qg B h (.slice none 0 0) []:=⟨none,0,rfl,fun i hi=>absurd hi (Nat.not_lt_zero i)⟩
theorem Re (a:ba):4≤(de a).length:=by
 by_cases h:a.k=2;·rw[jh h];decide
 ·rw[jv h];simp only[List.length_append,List.length_cons,List.length_nil];have:jZ.length=3:=rfl;omega
theorem F1:∀ A:List ba,5*A.length≤(A.flatMap fun a=>cL (uM a.k a.p a.v a.c)).length
 | []=>Nat.le_refl _
 | a::A=>by rw[List.flatMap_cons,List.length_append,List.length_cons];have h1:=F1 A;have h2:(cL (uM a.k a.p a.v a.c)).length=(de a).length+1:=jy _;have:=Re a;omega
theorem PD (c:Nat→Int) (P:List (List UInt8)) (A:List ba):5*A.length≤(cU c P A).length:=by unfold cU;rw[List.length_append];have:=F1 A;omega
theorem Oe {t:List UInt8}{h:Heap}(gk:rW h):bT env (.func 5) [aq t] h fun v h'=>v=.bool true:=by
 have gn:=gk.n;refine F5 rfl ?_;unfold aq;by_cases hl:4000<t.length
 ·have hl':(4000:Int)<(t.length:Int):=by omega
  simp -dsimp only[↓WB,↓W5,WP,ae,Nat.reduceEqDiff,Nat.reduceAdd,ak,hl'];refine sK gk.t ?_;simp -dsimp only[↓WB,↓W5,WP,ae,Nat.reduceEqDiff,Nat.reduceAdd]
 have hl':¬(4000:Int)<(t.length:Int):=by omega
 simp -dsimp only[↓WB,↓W5,WP,ae,Nat.reduceEqDiff,Nat.reduceAdd,ak,hl'];refine WI (t:=t) gk (.inl (by omega)) (fun c P A pv av h1 g e hu hA5 X1 rP rA sp sa=>?_) (fun hno h1 X1=>?_)
 ·have n1:=X1.n;obtain⟨ya,yc,rfl,_⟩:=id rP;obtain⟨za,zc',rfl,_⟩:=id rA;(with_reducible repeat' (first|refine y7 ?_|simp -dsimp only[↓WB,↓W5,WP,ae,Nat.reduceEqDiff,Nat.reduceAdd,jm]));have hA1:A.length≤1000:=by have:=PD c P A;rw[← e]at this;omega
  have V1:=dm.new h1 (aV c (.slice ya P.length yc) (.slice za A.length zc')) 28;have X2:ai h1.n h1 (af h1 (.cells (aV c (.slice ya P.length yc) (.slice za A.length zc')) 28 true)):=ai.new _ (Nat.le_refl _);have n2:(af h1 (.cells (aV c (.slice ya P.length yc) (.slice za A.length zc')) 28 true)).n=h1.n+1:=rfl;generalize af h1 (.cells (aV c (.slice ya P.length yc) (.slice za A.length zc')) 28 true)=h2 at V1 X2 n2 ⊢;refine Cq (t:=t) (by omega) (fun c' P' A' pv' av' h3 g' hA' e' rP' rA' sp' sa' X3=>?_) (fun h3 hno X3=>absurd e (hno c P A g (by omega)));obtain⟨u1,rfl,rfl⟩:=hu c' P' A' g' e';have n3:=X3.n;obtain⟨yb,yd,rfl,_⟩:=id rP';obtain⟨zb,zd,rfl,_⟩:=id rA';have V3:=V1.ext X3 V1.lt;(with_reducible repeat' (first|refine y7 ?_|simp -dsimp only[↓WB,↓W5,WP,ae,Nat.reduceEqDiff,Nat.reduceAdd,jm]));have W3:=dm.new h3 (aV c' (.slice yb P.length yd) (.slice zb A.length zd)) 28;have X4:ai h3.n h3 (af h3 (.cells (aV c' (.slice yb P.length yd) (.slice zb A.length zd)) 28 true)):=ai.new _ (Nat.le_refl _);have n4:(af h3 (.cells (aV c' (.slice yb P.length yd) (.slice zb A.length zd)) 28 true)).n=h3.n+1:=rfl;generalize af h3 (.cells (aV c' (.slice yb P.length yd) (.slice zb A.length zd)) 28 true)=h4 at W3 X4 n4 ⊢;have V4:=V3.ext X4 V3.lt;have dv:=V4.kW;have dw:=W3.kW;have X14:ai h1.n h1 h4:=(X2.trans (X3.mono (by omega))).trans (X4.mono (by omega));simp -dsimp only[↓WB,↓W5,WP,ae,Nat.reduceEqDiff,Nat.reduceAdd,dv.1,dw.1,eq_self];refine tC (B:=h3.n) (c:=c) (d:=c') ((rP.ext X14).mono (by omega)) (rP'.ext X4) ((rA.ext X14).mono (by omega)) (rA'.ext X4) (by omega) sp sp' sa sa' (by have:=g.Y8;omega) hA1 fun b h5 X5 hb=>?_;obtain rfl:b=true:=hb.2 ⟨u1,rfl,rfl⟩;have n5:=X5.n;have V5:=V4.ext X5 V4.lt;have dv5:=V5.kW;have X15:ai h1.n h1 h5:=X14.trans (X5.mono (by omega));simp -dsimp only[↓WB,↓W5,WP,ae,Nat.reduceEqDiff,Nat.reduceAdd,dv5.1,eq_self];refine Ap (B:=h1.n) (c:=c) (P:=P) (A:=A) g (rP.ext X15) (rA.ext X15) (by omega) (by omega) fun h6 X6=>?_;have n6:=X6.n;have gk6:=(gk.ext (B:=h.n) gn (X1.trans (X15.mono n1))).ext (B:=h5.n) (by omega) X6;rw[← e];unfold aq;simp -dsimp only[↓WB,↓W5,WP,ae,Nat.reduceEqDiff,Nat.reduceAdd,eq_self];refine sK gk6.t ?_;simp -dsimp only[↓WB,↓W5,WP,ae,Nat.reduceEqDiff,Nat.reduceAdd]
 ·have n1:=X1.n;have V1:=dm.new h1 zN 28;have X2:ai h1.n h1 (af h1 (.cells zN 28 true)):=ai.new _ (Nat.le_refl _);have n2:(af h1 (.cells zN 28 true)).n=h1.n+1:=rfl;rw[show aV zc d_ d_=zN from rfl];(with_reducible repeat' (first|refine y7 ?_|simp -dsimp only[↓WB,↓W5,WP,ae,Nat.reduceEqDiff,Nat.reduceAdd,NJ]));generalize af h1 (.cells zN 28 true)=h2 at V1 X2 n2 ⊢;refine Cq (t:=t) (by omega) (fun c' P' A' pv' av' h3 g' hA' e' rP' rA' sp' sa' X3=>absurd e' (hno c' P' A' g' hA')) (fun h3 hno X3=>?_);have n3:=X3.n;have V3:=V1.ext X3 V1.lt;unfold y0;(with_reducible repeat' (first|refine y7 ?_|simp -dsimp only[↓WB,↓W5,WP,ae,Nat.reduceEqDiff,Nat.reduceAdd,NJ]));have W3:=dm.new h3 zN 28;have X4:ai h3.n h3 (af h3 (.cells zN 28 true)):=ai.new _ (Nat.le_refl _);have n4:(af h3 (.cells zN 28 true)).n=h3.n+1:=rfl;generalize af h3 (.cells zN 28 true)=h4 at W3 X4 n4 ⊢;have V4:=V3.ext X4 V3.lt;have dv:=V4.kW;have dw:=W3.kW;have z16:((16:Int)=0)=False:=by decide
  simp -dsimp only[↓WB,↓W5,WP,ae,Nat.reduceEqDiff,Nat.reduceAdd,dv.1,dw.1,eq_self,z16];refine tC (B:=h4.n) (c:=fun _=>0) (d:=fun _=>0) (P:=[]) (Q:=[]) (A:=[]) (D:=[]) (GW _ _) (GW _ _) (Hd _ _) (Hd _ _) (Nat.le_refl _) (fun n=>by cases n<;>simp[aW]) (fun n=>by cases n<;>simp[aW]) (fun n=>by cases n<;>simp[aW]) (fun n=>by cases n<;>simp[aW]) (by simp) (by simp) fun b h5 X5 hb=>?_;obtain rfl:b=true:=hb.2 ⟨fun _ _=>rfl,rfl,rfl⟩;have gk5:=(gk.ext (B:=h.n) gn (X1.trans ((((X2.trans (X3.mono (by omega))).trans (X4.mono (by omega))).trans (X5.mono (by omega))).mono n1)));simp -dsimp only[↓WB,↓W5,WP,ae,Nat.reduceEqDiff,Nat.reduceAdd,eq_self,z16];refine sK gk5.t ?_;simp -dsimp only[↓WB,↓W5,WP,ae,Nat.reduceEqDiff,Nat.reduceAdd]
end Go.Proofs.YtohjaacnlmkhbaaGreatDoor
set_option linter.unusedSimpArgs false
set_option linter.unusedVariables false
namespace Go.Proofs.YtohjaacnlmkhbaaGreatDoor
open Go.ChangeShapes Go.WideShapes Go.ChangeAt Go.RowKit
open Go.Ev (xM Gt Gf fT jJ)
set_option maxRecDepth 100000
theorem X_:Tryz.prog.underlying 9=some .string:=by kernel_rfl
theorem W9:(Rows.scriptReadsRow.laid:List (String×DataW Unit))=pz:=rfl
theorem YK {W:World}(hL:laidMetH Tryz.prog pz W) (hS:W.ShapedOpen Tryz.prog) {p:ByteArray} :
  Calls Tryz.prog 5 #[.string p] W fun e w'=>e=.returned (.bool true)∧Below W.heap.size W w':=by
 have gk:=Wb hL hS
 have h5:5<W.heap.size:=(GF hL).1
 refine Go.Ev.E8 (E:=env) (us:=[.string p]) WT Wm (Go.Ev.dI cP) (fun g hg=>⟨0,by have:g<6:=hg;simp only[jJ];rw[if_pos (by omega)]⟩) (.cons (.string _) .nil) rfl ?_
 exact Oe (t:=p.data.toList) gk
theorem Sa (os:Os) (started:os.Started) (H:Type) (enc:TypeId×Value→H) :
  ReturnsInHanded {} Tryz.checked os 5 .any (fun w args=>(Rows.scriptReadsSpec.pre enc Tryz.prog Tryz.f5 [] false w args∧laidMetH Tryz.prog pz w)∧sizedMet enc Tryz.prog Tryz.f5 (OpenSpec.ofChange Rows.scriptReadsSpec) false w args)
   (Rows.scriptReadsSpec.post enc Tryz.prog Tryz.f5 false true false false):=by
 refine xE (C:=Tryz.checked) (X:=fun w _=>laidMetH Tryz.prog pz w) (fun _ _ _ hh h=>h.of_heap hh) own started (by kernel_rfl) Tryz.func5
  (ChangeSpec.witness_shaped (enc:=enc) (C:=Tryz.checked) (os:=os) (X:=fun w _=>laidMetH Tryz.prog pz w) false (World.laidAll Tryz.prog os pz) #[.string ⟨#[]⟩] 8 (World.laidAll_os _ _ _)
   (World.shaped_of_ZipB (by kernel_rfl) (by kernel_rfl)) (by kernel_rfl) (by kernel_rfl) (by kernel_rfl) (met9 os _)) ?_
 intro W base args ds gs before hS hL hwt hval0 hW
 have hval:∀ (j:Nat) t v,Tryz.f5.params[j]?=some t→args[j]?=some v→Value.okWide Tryz.prog W .any base t v:=hval0
 have hW':=hW
 obtain⟨p,q,hA0,hV,hpq,hfz,oH⟩:=hW
 have hA:DataW.TrodAll enc Tryz.prog W 0 (fun _=>true) true Tryz.f5.params.toList args.toList ds p:=hA0
 have hA2:=hA
 rw[Tryz.params5]at hA2 hval
 obtain⟨v0,vs0,d0,ds0,p0,q0,ha0,rfl,rfl,h0,r0⟩:=trodAll_cons hA2
 obtain⟨rfl,rfl,rfl⟩:=trodAll_nil r0
 obtain rfl:args=#[v0]:=by cases args;simp_all
 have hV2:=hV
 obtain⟨rfl,rfl⟩:=trodVars_none hV2
 obtain⟨n1,rfl,rfl,rfl,_⟩:=Go.ChangeMaps.open_string X_ (hval 0 9 v0 rfl rfl) h0
 refine(YK hL hS).mono fun e W' ⟨he,hg⟩=>?_
 subst he
 exact⟨_,rfl,Go.Ev.KW laidOut hW' hA hV hpq (by kernel_rfl) (by kernel_rfl) (fun _ _ _=>trodAll_cons_mk (shut_bool Tryz.underlying4 _) trodAll_mk0) rfl rfl hg⟩
theorem Xt:Rows.ScriptReadsSaid :=
 OpenClaim.holds_of_wide 5 Tryz.f5 rfl rfl rfl rfl rfl rfl rfl ⟨rfl,rfl,rfl,rfl,rfl⟩ rfl rfl rfl rfl rfl (by kernel_rfl) Tryz.func5 (by kernel_rfl)
  (of_decide_eq_true (by kernel_rfl)) (by unfold Func.isWrapper;first|(rw[if_pos (by decide +kernel)];kernel_rfl)|(rw[if_neg (by decide +kernel)];exact⟨rfl,rfl⟩))
  (fun os started H enc _=>Sa os started H enc)
theorem r_:Rows.ScriptReadsCardSaid :=
 Claim7.holds_tied_plain_at .later [] [.data,.data,.data,.data,.sentinel,.sentinel,.listed,.data,.pinned] true (true,"ed36c2c767f9272bd5d0bd004cfb46a2a9332e2f3755c709d48757040e08c744") true
  Xt (fun _ h=>by cases h) (by kernel_rfl) (fun _ h=>by cases h) scriptReads_row_tie rfl ⟨rfl,rfl⟩ (by kernel_rfl) rfl
  (fun f fn hf hfn=>by obtain rfl:f=5:=Option.some.inj ((show Tryz.prog.funcNamed "helmsman/helmsmanlaw26.ScriptReads"=some 5 by kernel_rfl).symm.trans hf) |>.symm;obtain rfl:fn=Tryz.f5:=(Option.some.inj (Tryz.func5.symm.trans hfn)).symm;exact⟨by kernel_rfl,fun j t ht=>by
    rw[Tryz.params5]at ht;have hm:t∈[9]:=by simpa using Array.mem_of_getElem? ht
    have hall:([9].all fun u=>!Tryz.prog.wantsStandIn u)=true:=by kernel_rfl
    exact(show Tryz.prog.wantsStandIn t=false by simpa using List.all_eq_true.1 hall t (by simpa using hm))⟩)
  (by kernel_rfl)
end Go.Proofs.YtohjaacnlmkhbaaGreatDoor
namespace Go.Proofs.YtohjaacnlmkhbaaGreatDoor.scriptReads
theorem proved:Rows.ScriptReadsCardSaid:=Go.Proofs.YtohjaacnlmkhbaaGreatDoor.r_
#print axioms proved
end Go.Proofs.YtohjaacnlmkhbaaGreatDoor.scriptReads
