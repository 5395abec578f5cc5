/- script.Text, walked. Conditions: none beyond each theorem's own. -/
import Derived.Test.YtohjaacnlmkhbaaGreatDoorYQ
import Derived.Test.YtohjaacnlmkhbaaGreatDoorYF
import Derived.Test.YtohjaacnlmkhbaaGreatDoorKT
import Derived.Test.YtohjaacnlmkhbaaGreatDoorKW
set_option linter.unusedSimpArgs false
set_option linter.unusedVariables false
namespace Go.Proofs.YtohjaacnlmkhbaaGreatDoor
open Go.Ev
set_option maxRecDepth 100000
set_option maxHeartbeats 400000
theorem Xp:pj env 65=some 1:=by kernel_rfl
theorem Hx {p:List UInt8}{h:Heap}{K:Value→Heap→Prop}(gk:rW h) (hs:(c_ p).length<1000000)
  (hK:∀ j cp h',ai h.n h h'→h.n≤j→j<h'.n→(∀ k (hk:k<(bp p).length),cellAt h' ⟨j,k,none⟩=some (aq (bp p)[k]))→(∃ cs,h'.b.get j=some (.cells cs 9 true))→K (.slice (some ⟨j,0,none⟩) (bp p).length cp) h'):bT env (.func 31) [aq (c_ p)] h K:=by
 refine F31 rfl ?_
 unfold aq
 simp -dsimp only[↓WB,↓W31,WP,ae,Nat.reduceEqDiff,Nat.reduceAdd]
 refine yZ (s:=c_ p) (c:=10) gk.i hs ?_
 have X:ai h.n h (af h (.cells ((aZ 10 (c_ p)).map aq) 9 true)):=ai.new _ (Nat.le_refl _)
 have hb:(af h (.cells ((aZ 10 (c_ p)).map aq) 9 true)).b.get h.n=some (.cells ((aZ 10 (c_ p)).map aq) 9 true):=aC _ _
 have hn:(af h (.cells ((aZ 10 (c_ p)).map aq) 9 true)).n=h.n+1:=rfl
 generalize af h (.cells ((aZ 10 (c_ p)).map aq) 9 true)=h1 at X hb hn ⊢
 have hl:(aZ 10 (c_ p)).length=(bp p).length+1:=by rw[iX];simp
 have hll:=mo 10 (c_ p)
 have w1:IntKind.wrap .i64 (((aZ 10 (c_ p)).length:Int)-1)=(((bp p).length:Nat):Int):=by rw[wrap_i64 (by omega) (by omega)];omega
 simp -dsimp only[↓WB,↓W31,WP,ae,Nat.reduceEqDiff,Nat.reduceAdd,w1]
 refine Iw Xp (by show _<cY;unfold cY;omega) (by omega) (by omega) ?_
 rw[Int.toNat_natCast]
 simp -dsimp only[↓WB,↓W31,WP,ae,Nat.reduceEqDiff,Nat.reduceAdd]
 refine hK _ _ _ X (Nat.le_refl _) (by omega) (fun k hk=>?_) ⟨_,hb⟩
 refine bQ (by omega) hb ?_
 rw[iX,List.getElem?_map,List.getElem?_append_left hk,List.getElem?_eq_getElem hk];rfl
theorem Hz {B b1 bb:Nat}{c:Nat→Int}{pv:Value}{aa:Option Addr}{ac:Nat}{A:List ba}{l:List UInt8}{fr:Fr}{h1:Heap}{K:Value→Heap→Prop}(hB:B≤h1.n) (hB5:5<B)
  (g1:fr.get 1=some (.pointer (some ⟨b1,0,none⟩))) (g5:fr.get 5=some (.pointer (some ⟨bb,0,none⟩))) (g6:fr.get 6=some (.func (.func 25) ⟨[]⟩ ⟨[.pointer (some ⟨bb,0,none⟩)]⟩))
  (bx:dm h1 b1 (aV c pv (.slice aa A.length ac)) 28) (D:xO B h1 bb l) (ra:qg B h1 (.slice aa A.length ac) A) (gk:rW h1) (ok:∀ a∈A,xA a) (hA:A.length≤5000) (hl:l.length+71*A.length≤1000000)
  (hK:∀ h',ai B h1 h'→K (.tuple #[aq (l++kH A A.length),.int .i64 0]) h'):FB.wp env 77 none fr h1 (eY env [.tmp 2,.tmp 3] K):=by
 have k1:=aj g1
 have k5:=aj g5
 have k6:=aj g6
 obtain⟨_,_,_,d15⟩:=bx.kW
 simp -dsimp only[↓WB,↓Xb,WP,ae,Nat.reduceEqDiff,Nat.reduceAdd,↓k1,↓k5,↓k6,d15]
 refine aE (fun m fr' h'=>∃ k:Nat,k≤A.length∧m=A.length-k∧Kp B bb h1 h'∧fr'.get 67=some (.int .i64 k)∧xO B h' bb (l++kH A k)) A.length ?_ (by omega) ?_
 ·exact⟨0,by omega,by omega,Kp.of (ai.refl _ _) hB,by simp[T.ah],by simpa[kH]using D⟩
 rintro m fr2 h2 ⟨k,hk,rfl,X2,f67,D2⟩ hag
 have Xl:=aj f67
 have b1':=au (hag 1 rfl)
 have b5':=au (hag 5 rfl)
 have b6':=au (hag 6 rfl)
 have b65:=au (hag 65 rfl)
 have b66:=au (hag 66 rfl)
 have n2:=X2.x.n
 have gk2:=gk.ext hB5 X2.x
 have al:=oN ok hk
 by_cases aB:k<A.length
 ·obtain⟨i,o,rfl,hi,hc⟩:=(ra.ext X2.x).at_ aB;have oka:=ok _ (List.getElem_mem aB);have asl:=qs oka;have hsucc:=pD aB;generalize A[k]=a at hc oka asl hsucc;(with_reducible repeat' (first|refine y1 ?_|refine y4 ?_|refine y7 ?_|simp -dsimp only[↓WB,↓Xb,WP,ae,Nat.reduceEqDiff,Nat.reduceAdd,↓Xl,↓b1',↓b5',↓b6',↓b65,↓b66,↓k1,↓k5,↓k6,hc]));have X3:ai h2.n h2 (af h2 (.cells [.int .i64 a.k,.int .i64 a.p,.int .i64 a.v,.int .i64 a.c] 35 true)):=ai.new _ (Nat.le_refl _);have c3:ax (af h2 (.cells [.int .i64 a.k,.int .i64 a.p,.int .i64 a.v,.int .i64 a.c] 35 true)) ⟨h2.n,0,none⟩ 4=some [.int .i64 a.k,.int .i64 a.p,.int .i64 a.v,.int .i64 a.c]:=bA rfl;have n3:(af h2 (.cells [.int .i64 a.k,.int .i64 a.p,.int .i64 a.v,.int .i64 a.c] 35 true)).n=h2.n+1:=rfl;refine SY (a:=a) oka ((gk2.ext (B:=h2.n) gk2.n X3)) fun h4 X4=>?_;have n4:=X4.n;have X24:ai h2.n h2 h4:=X3.trans (X4.mono (by omega));simp -dsimp only[↓WB,↓Xb,WP,ae,Nat.reduceEqDiff,Nat.reduceAdd,↓Xl,↓b1',↓b5',↓b6',↓b65,↓b66,↓k1,↓k5,↓k6];refine ux (s:=de a) (D2.ext X24) (by rw[List.length_append];omega) fun v h5 X5 D5=>?_;simp -dsimp only[↓WB,↓Xb,WP,ae,Nat.reduceEqDiff,Nat.reduceAdd,↓Xl,↓b1',↓b5',↓b6',↓b65,↓b66,↓k1,↓k5,↓k6];refine⟨A.length-(k+1),by omega,k+1,by omega,by omega,(X2.trans (Kp.of X24 (by omega))).trans X5,by simp[T.ah,bf (show k≤4611686018427387904 by omega)],?_⟩;rw[hsucc,← List.append_assoc];exact D5
 ·have hke:k=A.length:=by omega
  subst hke;(with_reducible repeat' (first|refine y2 ?_|simp -dsimp only[↓WB,↓Xb,WP,ae,Nat.reduceEqDiff,Nat.reduceAdd,↓Xl,↓b1',↓b5',↓b6',↓b65,↓b66,↓k1,↓k5,↓k6]));refine uO D2 (by rw[List.length_append];omega) fun h3 X3=>?_;unfold aq at hK ⊢;simp -dsimp only[↓WB,↓Xb,WP,ae,Nat.reduceEqDiff,Nat.reduceAdd,↓Xl,↓b1',↓b5',↓b6',↓b65,↓b66,↓k1,↓k5,↓k6];exact hK _ (X2.x.trans X3)
theorem Kp.box {B b i:Nat}{h h':Heap}{cs:List Value}{e:TypeId}(x:Kp B b h h') (bx:dm h i cs e) (hi:i≠b):dm h' i cs e :=
 ⟨Nat.lt_of_lt_of_le bx.lt x.x.n,by rw[x.f i bx.lt hi (fun cs' e'=>by rw[bx.get]at e';simp at e')];exact bx.get⟩
theorem sY {p:List UInt8}(hp:p.length≤1024):(c_ p).length≤18504:=by rw[Ab];have:=sN p ((p.length+3) / 4);omega
theorem Fe {B b1 bb:Nat}{c:Nat→Int}{pa aa:Option Addr}{pc ac:Nat}{P:List (List UInt8)}{A:List ba}{l:List UInt8}{fr:Fr}{h1:Heap}{K:Value→Heap→Prop}(hB:B≤h1.n) (hB5:5<B) (hbb:b1≠bb) (hb1:b1<h1.n)
  (g1:fr.get 1=some (.pointer (some ⟨b1,0,none⟩))) (g5:fr.get 5=some (.pointer (some ⟨bb,0,none⟩))) (g6:fr.get 6=some (.func (.func 25) ⟨[]⟩ ⟨[.pointer (some ⟨bb,0,none⟩)]⟩))
  (bx:dm h1 b1 (aV c (.slice pa P.length pc) (.slice aa A.length ac)) 28) (D:xO B h1 bb l) (r:tX B h1 (.slice pa P.length pc) P) (ra:qg B h1 (.slice aa A.length ac) A) (gk:rW h1) (ok:∀ a∈A,xA a) (hA:A.length≤5000) (hP:P.length≤16) (hp:∀ p∈P,p.length≤1024) (hl:l.length≤434)
  (hK:∀ h',ai B h1 h'→K (.tuple #[aq (l++gd P P.length++kH A A.length),.int .i64 0]) h'):A3.wp env 77 none fr h1 (eY env [.tmp 2,.tmp 3] K):=by
 have k1:=aj g1
 have k5:=aj g5
 have k6:=aj g6
 obtain⟨_,_,d14,_⟩:=bx.kW
 simp -dsimp only[↓WB,↓fM,↓fK,↓bW,↓cB,↓fI,↓dT,↓fJ,↓b_,↓fH,↓cN,↓dO,WP,ae,Nat.reduceEqDiff,Nat.reduceAdd,↓k1,↓k5,↓k6,d14]
 refine aE (fun m fr' h'=>∃ k:Nat,k≤P.length∧m=P.length-k∧Kp B bb h1 h'∧fr'.get 44=some (.int .i64 k)∧xO B h' bb (l++gd P k)) P.length ?_ (by omega) ?_
 ·exact⟨0,by omega,by omega,Kp.of (ai.refl _ _) hB,by simp[T.ah],by simpa[gd]using D⟩
 rintro m fr2 h2 ⟨k,hk,rfl,X2,f44,D2⟩ hag
 have Ug:=aj f44
 have b1':=au (hag 1 rfl)
 have b5':=au (hag 5 rfl)
 have b6':=au (hag 6 rfl)
 have b42:=au (hag 42 rfl)
 have b43:=au (hag 43 rfl)
 have n2:=X2.x.n
 have gk2:=gk.ext hB5 X2.x
 have pl:=mv hp hk
 by_cases aB:k<P.length
 ·obtain⟨i,o,ua,uc,rfl,hi,hc,hu⟩:=(r.ext X2.x).at_ aB;have hpk:=hp _ (List.getElem_mem aB);have hsucc:=oD aB;have tl:=sY hpk;generalize P[k]=p at hc hu hpk hsucc tl;(with_reducible repeat' (first|refine y1 ?_|refine y4 ?_|simp -dsimp only[↓WB,↓fM,↓fK,↓bW,↓fI,↓dT,↓fJ,↓b_,↓fH,↓cN,↓dO,WP,ae,Nat.reduceEqDiff,Nat.reduceAdd,↓Ug,↓b1',↓b5',↓b6',↓b42,↓b43,↓k1,↓k5,↓k6,Nat.mul_one,hc]));refine ux (s:=dM) D2 (by rw[List.length_append];simp[dM];omega) fun v h3 X3 D3=>?_;have n3:=X3.x.n;simp -dsimp only[↓WB,↓fM,↓fK,↓bW,↓fI,↓dT,↓fJ,↓b_,↓fH,↓cN,↓dO,WP,ae,Nat.reduceEqDiff,Nat.reduceAdd,↓Ug,↓b1',↓b5',↓b6',↓b42,↓b43,↓k1,↓k5,↓k6,Nat.mul_one];refine ql (B:=B) (p:=p) (hu.ext X3.x) (gk2.ext hB5 X3.x) (by omega) (by omega) fun h4 X4=>?_;have n4:=X4.n;simp -dsimp only[↓WB,↓fM,↓fK,↓bW,↓fI,↓dT,↓fJ,↓b_,↓fH,↓cN,↓dO,WP,ae,Nat.reduceEqDiff,Nat.reduceAdd,↓Ug,↓b1',↓b5',↓b6',↓b42,↓b43,↓k1,↓k5,↓k6,Nat.mul_one];have gk4:=(gk2.ext hB5 X3.x).ext (B:=h3.n) (by have:=gk.n;omega) X4;refine Hx gk4 (by omega) fun j cp h5 X5 hj hj5 cj ⟨cs5,bj⟩=>?_;have n5:=X5.n;have X35:ai h3.n h3 h5:=X4.trans (X5.mono n4);have D5:=D3.ext X35;simp -dsimp only[↓WB,↓fM,↓fK,↓cB,↓fI,↓dT,↓fJ,↓b_,↓fH,↓cN,↓dO,WP,ae,Nat.reduceEqDiff,Nat.reduceAdd,↓Ug,↓b1',↓b5',↓b6',↓b42,↓b43,↓k1,↓k5,↓k6,Nat.mul_one];have hll:=pQ p;have X15:Kp B bb h1 h5:=(X2.trans X3).trans (Kp.of X35 (by omega));have jne:j≠bb:=by have:=D3.lt;omega
  refine aE (fun m fr' h'=>∃ q:Nat,q≤(bp p).length∧m=(bp p).length-q∧Kp B bb h5 h'∧fr'.get 54=some (.int .i64 q)∧xO B h' bb (l++gd P k++cL dM++vg p q)) (bp p).length ?_ (by omega) ?_;·exact⟨0,by omega,by omega,Kp.of (ai.refl _ _) (by omega),by simp[T.ah],by simpa[vg]using D5⟩
  rintro m fr3 h6 ⟨q,hq,rfl,X6,f54,D6⟩ hag3;have e54:=aj f54;have c1':=au (hag3 1 rfl);have c5':=au (hag3 5 rfl);have c6':=au (hag3 6 rfl);have c42:=au (hag3 42 rfl);have c43:=au (hag3 43 rfl);have c44:=au (hag3 44 rfl);have c52:=au (hag3 52 rfl);have c53:=au (hag3 53 rfl);have n6:=X6.x.n;have il:=qK p hq;by_cases hql:q<(bp p).length
  ·have cq:=cj q hql;have hb6:h6.b.get j=h5.b.get j:=X6.f j hj5 jne (fun cs' e'=>by rw[bj]at e';simp at e');have cq6:cellAt h6 ⟨j,q,none⟩=some (aq (bp p)[q]):=by rw[← cq];simp only[cellAt,ax,hb6,blt_eq,hj5,show j<h6.n by omega,decide_true]
   have lm:=pW (List.getElem_mem hql);have his:=sH hql;generalize (bp p)[q]=w at cq6 lm his;have happ:(⟨⟨[32]⟩⟩:ByteArray)++⟨w.toArray⟩=⟨(32::w).toArray⟩:=aY [32] w;have s1:(⟨⟨[32]⟩⟩:ByteArray).size=1:=rfl;unfold aq at cq6;(with_reducible repeat' (first|refine y1 ?_|refine y4 ?_|refine y5 ?_|simp -dsimp only[↓WB,↓fM,↓fK,↓bW,↓cB,↓fI,↓dT,↓fJ,↓b_,↓fH,↓cN,↓dO,WP,ae,Nat.reduceEqDiff,Nat.reduceAdd,↓e54,↓c1',↓c5',↓c6',↓c42,↓c43,↓c44,↓c52,↓c53,↓Ug,↓b1',↓b5',↓b6',↓b42,↓b43,↓k1,↓k5,↓k6,Nat.mul_one,Nat.zero_add,cq6,happ,ak,s1]));refine ux (s:=32::w) D6 (by simp only[List.length_append,List.length_cons,jy];simp[dM];omega) fun v h7 X7 D7=>?_;simp -dsimp only[↓WB,↓fM,↓fK,↓bW,↓cB,↓fI,↓dT,↓fJ,↓b_,↓fH,↓cN,↓dO,WP,ae,Nat.reduceEqDiff,Nat.reduceAdd,↓e54,↓c1',↓c5',↓c6',↓c42,↓c43,↓c44,↓c52,↓c53,↓Ug,↓b1',↓b5',↓b6',↓b42,↓b43,↓k1,↓k5,↓k6];refine⟨(bp p).length-(q+1),by omega,q+1,by omega,by omega,X6.trans X7,by simp[T.ah,bf (show q≤4611686018427387904 by omega)],?_⟩;rw[his,← List.append_assoc];exact D7
  ·have hqe:q=(bp p).length:=by omega
   subst hqe;(with_reducible repeat' (first|refine y2 ?_|simp -dsimp only[↓WB,↓fM,↓fK,↓bW,↓cB,↓fI,↓dT,↓fJ,↓b_,↓fH,↓cN,↓dO,WP,ae,Nat.reduceEqDiff,Nat.reduceAdd,↓e54,↓c1',↓c5',↓c6',↓c42,↓c43,↓c44,↓c52,↓c53,↓Ug,↓b1',↓b5',↓b6',↓b42,↓b43,↓k1,↓k5,↓k6]));refine⟨P.length-(k+1),by omega,k+1,by omega,by omega,X15.trans X6,by simp[T.ah,bf (show k≤4611686018427387904 by omega)],?_⟩;rw[hsucc,sj];have e:cL dM=[112,114,111,103,114,97,109,10]:=rfl;rw[e]at D6;simpa only[List.append_assoc]using D6
 ·have hke:k=P.length:=by omega
  subst hke;(with_reducible repeat' (first|refine y2 ?_|simp -dsimp only[↓WB,↓fM,↓fK,↓bW,↓cB,↓fI,↓dT,↓fJ,↓b_,↓fH,↓cN,↓dO,WP,ae,Nat.reduceEqDiff,Nat.reduceAdd,↓Ug,↓b1',↓b5',↓b6',↓b42,↓b43,↓k1,↓k5,↓k6]));refine Hz (B:=B) (c:=c) (b1:=b1) (bb:=bb) (pv:=.slice pa P.length pc) (by omega) hB5 ?_ ?_ ?_ (X2.box bx hbb) D2 (ra.ext X2.x) gk2 ok hA (by rw[List.length_append];omega) fun h' X=>hK h' (X2.x.trans X);·simp[T.ah,hag 1 rfl,g1]
  ·simp[T.ah,hag 5 rfl,g5]
  ·simp[T.ah,hag 6 rfl,g6]
theorem ke {k:Nat}(hk:k<aM.length):aM.getD k []=aM[k]:=by rw[List.getD_eq_getElem?_getD,List.getElem?_eq_getElem hk];rfl
theorem tM {k j:Nat}(hk:k<aM.length) (hj:j<aM.length) (h:aM[k]=aM[j]):k=j:=by refine word_inj hk hj ?_;rw[ke hk,ke hj,h]
theorem Fi {B b1 bb mb:Nat}{c:Nat→Int}{pv av:Value}{fr:Fr}{h1:Heap}{K:Value→Heap→Prop}(hB:B≤h1.n) (hB5:5<B) (hbb:b1≠bb) (hmb:mb≠bb)
  (g1:fr.get 1=some (.pointer (some ⟨b1,0,none⟩))) (g5:fr.get 5=some (.pointer (some ⟨bb,0,none⟩))) (g6:fr.get 6=some (.func (.func 25) ⟨[]⟩ ⟨[.pointer (some ⟨bb,0,none⟩)]⟩)) (g7:fr.get 7=some (.map (some mb)))
  (bx:dm h1 b1 (aV c pv av) 28) (D:xO B h1 bb []) (hm:h1.b.get mb=some (.smap (eJ b1))) (Aq:mb<h1.n) (gk:rW h1) (okc:Mi c)
  (hK:∀ fr' h',ai B h1 h'→dm h' b1 (aV c pv av) 28→xO B h' bb (sG c 14)→fr'.get 1=some (.pointer (some ⟨b1,0,none⟩))→fr'.get 5=some (.pointer (some ⟨bb,0,none⟩))→fr'.get 6=some (.func (.func 25) ⟨[]⟩ ⟨[.pointer (some ⟨bb,0,none⟩)]⟩)→A3.wp env 77 none fr' h' (eY env [.tmp 2,.tmp 3] K)) :
  Ed.wp env 77 none fr h1 (eY env [.tmp 2,.tmp 3] K):=by
 have k1:=aj g1
 have k5:=aj g5
 have k6:=aj g6
 have k7:=aj g7
 simp -dsimp only[↓WB,↓fM,↓dR,↓fK,↓bW,↓cB,↓fI,↓fJ,↓b_,↓fH,↓cN,↓dO,WP,ae,Nat.reduceEqDiff,Nat.reduceAdd,↓k1,↓k5,↓k6,↓k7]
 refine Jm gk.t ?_
 have X2:ai h1.n h1 (af h1 (.cells iH 9 true)):=ai.new _ (Nat.le_refl _)
 have hb2:(af h1 (.cells iH 9 true)).b.get h1.n=some (.cells iH 9 true):=aC _ _
 have n2:(af h1 (.cells iH 9 true)).n=h1.n+1:=rfl
 have D2:=D.ext X2
 have wne:h1.n≠bb:=by have:=D.lt;omega
 generalize af h1 (.cells iH 9 true)=h2 at X2 hb2 n2 D2 ⊢
 have bx2:=bx.ext X2 bx.lt
 have hm2:h2.b.get mb=some (.smap (eJ b1)):=by rw[X2.get mb Aq];exact hm
 simp -dsimp only[↓WB,↓fM,↓dR,↓fK,↓bW,↓cB,↓fI,↓fJ,↓b_,↓fH,↓cN,↓dO,WP,ae,Nat.reduceEqDiff,Nat.reduceAdd,↓k1,↓k5,↓k6,↓k7]
 refine aE (fun m fr' h'=>∃ k:Nat,k≤14∧m=14-k∧Kp B bb h2 h'∧fr'.get 26=some (.int .i64 k)∧xO B h' bb (sG c k)) 14 ?_ (by omega) ?_
 ·exact⟨0,by omega,by omega,Kp.of (ai.refl _ _) (by omega),by simp[T.ah],by simpa[sG]using D2⟩
 rintro m fr2 h3 ⟨k,hk,rfl,X3,f26,D3⟩ hag
 have Wg:=aj f26
 have b1':=au (hag 1 rfl)
 have b5':=au (hag 5 rfl)
 have b6':=au (hag 6 rfl)
 have b7':=au (hag 7 rfl)
 have b24:=au (hag 24 rfl)
 have b25:=au (hag 25 rfl)
 have n3:=X3.x.n
 have bx3:=X3.box bx2 hbb
 have gk3:=(gk.ext (B:=h1.n) (by omega) X2).ext hB5 X3.x
 by_cases aB:k<14
 ·have hkw:k<aM.length:=aB;have hw3:h3.b.get h1.n=some (.cells iH 9 true):=by rw[X3.f _ (by omega) wne (fun cs' e'=>by rw[hb2]at e';simp at e')];exact hb2
  have cw:cellAt h3 ⟨h1.n,k,none⟩=some (aq aM[k]):=by refine bQ (by omega) hw3 ?_;rw[IU,List.getElem?_map,List.getElem?_eq_getElem hkw];rfl
  have hm3:h3.b.get mb=some (.smap (eJ b1)):=by rw[X3.f _ (by omega) hmb (fun cs' e'=>by rw[hm2]at e';simp at e')];exact hm2
  have hnum:cellAt h3 ⟨b1,k,none⟩=some (.int (if k<10 then .i64 else .u64) (c k)):=by refine bx3.at_ ?_;show (br c pv++[av])[k]?=_;rw[List.getElem?_append_left (by show k<15;omega)];exact wQ aB
  have hln:=sC okc aB;have hcl:=n_ okc hk;have hcs:=s6 c k;have hex:dh c k=Lib.join [aM[k],Lib.itoa (c k)] [32]:=by unfold dh;rw[ke hkw];simp[Lib.join]
  have hwu:=fun (q:∀ k' (hk':k'<aM.length),aM[k]=aM[k']→k=k')=>q;generalize hwv:aM[k]=w at cw hex;unfold aq at cw;(with_reducible repeat' (first|refine y1 ?_|refine y4 ?_|simp -dsimp only[↓WB,↓fM,↓dR,↓fK,↓bW,↓cB,↓fI,↓fJ,↓b_,↓fH,↓cN,↓dO,WP,ae,Nat.reduceEqDiff,Nat.reduceAdd,↓Wg,↓b1',↓b5',↓b6',↓b7',↓b24,↓b25,↓k1,↓k5,↓k6,↓k7,Nat.mul_one,Nat.zero_add,cw]));refine FC (w:=w) (i:=b1) (by omega) hm3 (fun k' hk' e=>?_) (fun e=>absurd (hwv▸List.getElem_mem hkw) e);have hkk:k=k':=tM hkw hk' (hwv.trans e);subst hkk;simp -dsimp only[↓WB,↓fM,↓dR,↓fK,↓bW,↓cB,↓fI,↓fJ,↓b_,↓fH,↓cN,↓dO,WP,ae,Nat.reduceEqDiff,Nat.reduceAdd,↓Wg,↓b1',↓b5',↓b6',↓b7',↓b24,↓b25,↓k1,↓k5,↓k6,↓k7];refine mI (cs:=[]) (e:=0) gk3 okc aB hnum fun h4 X4=>?_;have n4:=X4.n;unfold aq;simp -dsimp only[↓WB,↓fM,↓dR,↓fK,↓bW,↓cB,↓fI,↓fJ,↓b_,↓fH,↓cN,↓dO,WP,ae,Nat.reduceEqDiff,Nat.reduceAdd,↓Wg,↓b1',↓b5',↓b6',↓b7',↓b24,↓b25,↓k1,↓k5,↓k6,↓k7];refine lf (l:=[aq w,aq (Lib.itoa (c k))]) rfl ?_;have n5:(af h4 (.cells [aq w,aq (Lib.itoa (c k))] 9 true)).n=h4.n+1:=rfl;have X5:ai h4.n h4 (af h4 (.cells [aq w,aq (Lib.itoa (c k))] 9 true)):=ai.new _ (Nat.le_refl _);have c5:ax (af h4 (.cells [aq w,aq (Lib.itoa (c k))] 9 true)) ⟨h4.n,0,none⟩ 2=some ([w,Lib.itoa (c k)].map aq):=bA rfl;generalize af h4 (.cells [aq w,aq (Lib.itoa (c k))] 9 true)=h5 at n5 X5 c5 ⊢;simp -dsimp only[↓WB,↓fM,↓dR,↓fK,↓bW,↓cB,↓fI,↓fJ,↓b_,↓fH,↓cN,↓dO,WP,ae,Nat.reduceEqDiff,Nat.reduceAdd,↓Wg,↓b1',↓b5',↓b6',↓b7',↓b24,↓b25,↓k1,↓k5,↓k6,↓k7];refine pA (xs:=[w,Lib.itoa (c k)]) (by omega) c5 (by simp) (by simp) (by rw[← hex];omega) ?_;rw[← hex];simp -dsimp only[↓WB,↓fM,↓dR,↓fK,↓bW,↓cB,↓fI,↓fJ,↓b_,↓fH,↓cN,↓dO,WP,ae,Nat.reduceEqDiff,Nat.reduceAdd,↓Wg,↓b1',↓b5',↓b6',↓b7',↓b24,↓b25,↓k1,↓k5,↓k6,↓k7];have X35:ai h3.n h3 h5:=X4.trans (X5.mono n4);refine ux (s:=dh c k) (D3.ext X35) (by omega) fun v h6 X6 D6=>?_;simp -dsimp only[↓WB,↓fM,↓dR,↓fK,↓bW,↓cB,↓fI,↓fJ,↓b_,↓fH,↓cN,↓dO,WP,ae,Nat.reduceEqDiff,Nat.reduceAdd,↓Wg,↓b1',↓b5',↓b6',↓b7',↓b24,↓b25,↓k1,↓k5,↓k6,↓k7];exact⟨14-(k+1),by omega,k+1,by omega,rfl,(X3.trans (Kp.of X35 (by omega))).trans X6,by simp[T.ah,bf (show k≤4611686018427387904 by omega)],by rw[hcs];exact D6⟩
 ·have hke:k=14:=by omega
  subst hke;(with_reducible repeat' (first|refine y2 ?_|simp -dsimp only[↓WB,↓fM,↓dR,↓fK,↓bW,↓cB,↓fI,↓fJ,↓b_,↓fH,↓cN,↓dO,WP,ae,Nat.reduceEqDiff,Nat.reduceAdd,↓Wg,↓b1',↓b5',↓b6',↓b7',↓b24,↓b25,↓k1,↓k5,↓k6,↓k7]));refine hK _ _ ((X2.mono hB).trans X3.x) bx3 D3 ?_ ?_ ?_;·simp[T.ah,hag 1 rfl,g1]
  ·simp[T.ah,hag 5 rfl,g5]
  ·simp[T.ah,hag 6 rfl,g6]
theorem LQ {B:Nat}{c:Nat→Int}{pv av:Value}{P:List (List UInt8)}{A:List ba}{h:Heap}{K:Value→Heap→Prop}(r:tX B h pv P) (ra:qg B h av A) (gk:rW h) (hB:B≤h.n) (okc:Mi c) (ok:∀ a∈A,xA a) (hP:P.length≤5000) (hA:A.length≤5000)
  (hK1:iz c P A=0→∀ h',ai h.n h h'→K (.tuple #[aq (cU c P A),.int .i64 0]) h')
  (hK2:iz c P A≠0→∀ h',ai h.n h h'→K (.tuple #[aq [],.int .i64 (iz c P A)]) h'):bT env (.func 12) [.agg ⟨aV c pv av⟩] h K:=by
 obtain⟨pa,pc,rfl,_⟩:=id r
 obtain⟨aa,ac,rfl,_⟩:=id ra
 have gn:=gk.n
 refine F12 rfl ?_
 simp -dsimp only[↓WB,↓fM,↓dR,↓fK,↓bW,↓cB,↓fI,↓dT,↓fJ,↓b_,↓fH,↓dO,WP,ae,Nat.reduceEqDiff,Nat.reduceAdd,jm]
 have V:=dm.new h (aV c (.slice pa P.length pc) (.slice aa A.length ac)) 28
 have X:ai h.n h (af h (.cells (aV c (.slice pa P.length pc) (.slice aa A.length ac)) 28 true)):=ai.new _ (Nat.le_refl _)
 have hn1:(af h (.cells (aV c (.slice pa P.length pc) (.slice aa A.length ac)) 28 true)).n=h.n+1:=rfl
 generalize af h (.cells (aV c (.slice pa P.length pc) (.slice aa A.length ac)) 28 true)=h1 at V X hn1 ⊢
 obtain⟨d16,_,_,_⟩:=V.kW
 have r1:=r.ext (X.mono hB)
 have ra1:=ra.ext (X.mono hB)
 have gk1:=gk.ext (B:=h.n) gn X
 simp -dsimp only[↓WB,↓fM,↓dR,↓fK,↓bW,↓cB,↓fI,↓dT,↓fJ,↓b_,↓fH,↓dO,WP,ae,Nat.reduceEqDiff,Nat.reduceAdd,d16]
 refine Q9 (B:=B) (pv:=.slice pa P.length pc) (av:=.slice aa A.length ac) r1.rd ra1 (by omega) hP (by omega) fun h2 X2=>?_
 have n2:=X2.n
 have V2:=V.ext X2 V.lt
 have gk2:=gk1.ext (B:=h1.n) gk1.n X2
 have XX:ai h.n h h2:=X.trans (X2.mono (by omega))
 by_cases hm:iz c P A=0
 case neg =>simp -dsimp only[↓WB,↓fM,↓dR,↓fK,↓bW,↓cB,↓fI,↓dT,↓fJ,↓b_,↓fH,↓dO,WP,ae,Nat.reduceEqDiff,Nat.reduceAdd,hm];exact hK2 hm _ XX
 have hK1:=hK1 hm
 obtain⟨b1,b2,b3,b4,b5⟩:=th hm
 rw[hm]
 simp -dsimp only[↓WB,↓fM,↓dR,↓fK,↓bW,↓cB,↓fI,↓dT,↓fJ,↓b_,↓fH,↓dO,WP,ae,Nat.reduceEqDiff,Nat.reduceAdd]
 show E2.wp env 77 none _ h2 _
 simp -dsimp only[↓WB,↓fM,↓dR,↓fK,↓bW,↓cB,↓fI,↓dT,↓fJ,↓fH,↓cN,↓dO,WP,ae,Nat.reduceEqDiff,Nat.reduceAdd]
 have D3:=xO.new (B:=h.n) (h:=h2) (by omega)
 have X3:ai h2.n h2 (af h2 (.cells [.pointer none,.slice none 0 0] 56 true)):=ai.new _ (Nat.le_refl _)
 have n3:(af h2 (.cells [.pointer none,.slice none 0 0] 56 true)).n=h2.n+1:=rfl
 generalize af h2 (.cells [.pointer none,.slice none 0 0] 56 true)=h3 at D3 X3 n3 ⊢
 refine zH fun h4 X4 n4 m4=>?_
 have V4:=(V2.ext X3 V2.lt).ext X4 (by have:=V2.lt;omega)
 have vlt:=V.lt
 have gk4:=(gk2.ext (B:=h2.n) gk2.n X3).ext (B:=h3.n) (by omega) X4
 have X04:ai h.n h h4:=(XX.trans (X3.mono (by omega))).trans (X4.mono (by omega))
 rw[AW]at hK1
 simp -dsimp only[↓WB,↓fM,↓dR,↓fK,↓bW,↓cB,↓fI,↓dT,↓fJ,↓fH,↓cN,↓dO,WP,ae,Nat.reduceEqDiff,Nat.reduceAdd]
 refine Fi (B:=h.n) (b1:=h.n) (bb:=h2.n) (mb:=h3.n) (c:=c) (by omega) (by omega) (by omega) (by omega) ?_ ?_ ?_ ?_ V4 (D3.ext X4) m4 n4 gk4 okc fun fr5 h5 X5 V5 D5 g1 g5 g6=>?_
 ·simp[T.ah]
 ·simp[T.ah]
 ·simp[T.ah]
 ·simp[T.ah]
 have n5:=X5.n
 have X05:ai h.n h h5:=X04.trans X5
 have hcl:=n_ okc (Nat.le_refl 14)
 refine Fe (B:=h.n) (by omega) (by omega) (by omega) (by omega) g1 g5 g6 V5 D5 ?_ ?_ (gk.ext (B:=h.n) gn X05) ok hA b2 b4 (by omega) fun h6 X6=>hK1 _ (X05.trans X6)
 ·obtain⟨a',c',e,q⟩:=r.ext (X05.mono hB);exact⟨a',c',e,fun k l hk=>let ⟨i,o,u,e1,e2,e3,e4⟩:=q k l hk;⟨i,o,u,e1,by omega,e3,⟨e4.1.mono hB,e4.2⟩⟩⟩
 ·exact(ra.ext (X05.mono hB)).mono hB
def di:List (Value×Value×Nat):=[(.int .u8 0,.agg ⟨[.string ⟨⟨[110,111,112,32]⟩⟩]⟩,0),(.int .u8 1,.agg ⟨[.string ⟨⟨[99,111,110,115,116,32,97,110]⟩⟩]⟩,1),(.int .u8 2,.agg ⟨[.string ⟨⟨[97,100,100,32,97,98,99]⟩⟩]⟩,2),(.int .u8 3,.agg ⟨[.string ⟨⟨[115,117,98,32,97,98,99]⟩⟩]⟩,3),(.int .u8 4,.agg ⟨[.string ⟨⟨[109,117,108,32,97,98,99]⟩⟩]⟩,4),(.int .u8 5,.agg ⟨[.string ⟨⟨[106,117,109,112,32,100]⟩⟩]⟩,5),(.int .u8 6,.agg ⟨[.string ⟨⟨[122,101,114,111,32,97,100]⟩⟩]⟩,6),(.int .u8 7,.agg ⟨[.string ⟨⟨[99,111,100,101,32,97]⟩⟩]⟩,7)]
theorem ny:a_ env 158=some (.map 123 178):=by kernel_rfl
theorem oh:a_ env 123=some (.int .u8):=by kernel_rfl
theorem FQ {h:Heap}{K:Value→Heap→Prop}(hK:K (.map (some h.n)) (af h (.map di 8))):bT env (.func 110) [] h K:=by refine F110 rfl ?_;(with_reducible repeat' (first|refine y9 ?_|simp -dsimp only[↓WB,↓z8,WP,ae,Nat.reduceEqDiff,Nat.reduceAdd,↓eV]));refine gx ny oh (by kernel_rfl) ?_;(with_reducible repeat' (first|refine y9 ?_|simp -dsimp only[↓WB,↓z8,WP,ae,Nat.reduceEqDiff,Nat.reduceAdd,↓eV]));refine gx ny oh (by kernel_rfl) ?_;(with_reducible repeat' (first|refine y9 ?_|simp -dsimp only[↓WB,↓z8,WP,ae,Nat.reduceEqDiff,Nat.reduceAdd,↓eV]));refine gx ny oh (by kernel_rfl) ?_;(with_reducible repeat' (first|refine y9 ?_|simp -dsimp only[↓WB,↓z8,WP,ae,Nat.reduceEqDiff,Nat.reduceAdd,↓eV]));refine gx ny oh (by kernel_rfl) ?_;(with_reducible repeat' (first|refine y9 ?_|simp -dsimp only[↓WB,↓z8,WP,ae,Nat.reduceEqDiff,Nat.reduceAdd,↓eV]));refine gx ny oh (by kernel_rfl) ?_;(with_reducible repeat' (first|refine y9 ?_|simp -dsimp only[↓WB,↓z8,WP,ae,Nat.reduceEqDiff,Nat.reduceAdd,↓eV]));refine gx ny oh (by kernel_rfl) ?_;(with_reducible repeat' (first|refine y9 ?_|simp -dsimp only[↓WB,↓z8,WP,ae,Nat.reduceEqDiff,Nat.reduceAdd,↓eV]));refine gx ny oh (by kernel_rfl) ?_;(with_reducible repeat' (first|refine y9 ?_|simp -dsimp only[↓WB,↓z8,WP,ae,Nat.reduceEqDiff,Nat.reduceAdd,↓eV]));refine gx ny oh (by kernel_rfl) ?_;simp -dsimp only[↓WB,↓z8,WP,ae,Nat.reduceEqDiff,Nat.reduceAdd,↓eV];exact hK
end Go.Proofs.YtohjaacnlmkhbaaGreatDoor
