/- script.Text, walked. Conditions: none beyond each theorem's own. -/
import Derived.Test.YtohjaacnlmkhbaaGreatDoorYQ
import Derived.Test.YtohjaacnlmkhbaaGreatDoorYF
import Derived.Test.YtohjaacnlmkhbaaGreatDoorKT
import Derived.Test.YtohjaacnlmkhbaaGreatDoorKW
set_option linter.unusedSimpArgs false
set_option linter.unusedVariables false
namespace Go.Proofs.YtohjaacnlmkhbaaGreatDoor
open Go.Ev
set_option maxRecDepth 100000
set_option maxHeartbeats 400000
theorem slz65:slzOf env 65=some 1:=by kernel_rfl
theorem lines_ret {p:List UInt8}{h:Heap}{K:Value→Heap→Prop}(gk:GOk h) (hs:(textP p).length<1000000)
  (hK:∀ j cp h',ExtB h.n h h'→h.n≤j→j<h'.n→(∀ k (hk:k<(linesP p).length),cellAt h' ⟨j,k,none⟩=some (strV (linesP p)[k]))→(∃ cs,h'.b.get j=some (.cells cs 9 true))→K (.slice (some ⟨j,0,none⟩) (linesP p).length cp) h'):Ret env (.func 31) [strV (textP p)] h K:=by
 refine F31 rfl ?_
 unfold strV
 simp -dsimp only[↓WB,↓W31,WP,newBlk_n,Nat.reduceEqDiff,Nat.reduceAdd]
 refine split_ret (s:=textP p) (c:=10) gk.i hs ?_
 have X:ExtB h.n h (newBlk h (.cells ((spl 10 (textP p)).map strV) 9 true)):=ExtB.new _ (Nat.le_refl _)
 have hb:(newBlk h (.cells ((spl 10 (textP p)).map strV) 9 true)).b.get h.n=some (.cells ((spl 10 (textP p)).map strV) 9 true):=newBlk_same _ _
 have hn:(newBlk h (.cells ((spl 10 (textP p)).map strV) 9 true)).n=h.n+1:=rfl
 generalize newBlk h (.cells ((spl 10 (textP p)).map strV) 9 true)=h1 at X hb hn ⊢
 have hl:(spl 10 (textP p)).length=(linesP p).length+1:=by rw[spl_textP];simp
 have hll:=spl_len 10 (textP p)
 have w1:IntKind.wrap .i64 (((spl 10 (textP p)).length:Int)-1)=(((linesP p).length:Nat):Int):=by rw[wrap_i64 (by omega) (by omega)];omega
 simp -dsimp only[↓WB,↓W31,WP,newBlk_n,Nat.reduceEqDiff,Nat.reduceAdd,w1]
 refine slice_toC slz65 (by show _<UNK;unfold UNK;omega) (by omega) (by omega) ?_
 rw[Int.toNat_natCast]
 simp -dsimp only[↓WB,↓W31,WP,newBlk_n,Nat.reduceEqDiff,Nat.reduceAdd]
 refine hK _ _ _ X (Nat.le_refl _) (by omega) (fun k hk=>?_) ⟨_,hb⟩
 refine cellAt_blk (by omega) hb ?_
 rw[spl_textP,List.getElem?_map,List.getElem?_append_left hk,List.getElem?_eq_getElem hk];rfl
theorem text_acts {B b1 bb:Nat}{c:Nat→Int}{pv:Value}{aa:Option Addr}{ac:Nat}{A:List ActD}{l:List UInt8}{fr:Fr}{h1:Heap}{K:Value→Heap→Prop}(hB:B≤h1.n) (hB5:5<B)
  (g1:fr.get 1=some (.pointer (some ⟨b1,0,none⟩))) (g5:fr.get 5=some (.pointer (some ⟨bb,0,none⟩))) (g6:fr.get 6=some (.func (.func 25) ⟨[]⟩ ⟨[.pointer (some ⟨bb,0,none⟩)]⟩))
  (bx:Box h1 b1 (scrL c pv (.slice aa A.length ac)) 28) (D:Bld B h1 bb l) (ra:RdA B h1 (.slice aa A.length ac) A) (gk:GOk h1) (ok:∀ a∈A,okA a) (hA:A.length≤5000) (hl:l.length+71*A.length≤1000000)
  (hK:∀ h',ExtB B h1 h'→K (.tuple #[strV (l++actsK A A.length),.int .i64 0]) h'):s12_17.wp env 77 none fr h1 (resK env [.tmp 2,.tmp 3] K):=by
 have k1:=getK_of g1
 have k5:=getK_of g5
 have k6:=getK_of g6
 obtain⟨_,_,_,d15⟩:=bx.scr
 simp -dsimp only[↓WB,↓W12,WP,newBlk_n,Nat.reduceEqDiff,Nat.reduceAdd,↓k1,↓k5,↓k6,d15]
 refine cw_loopI (fun m fr' h'=>∃ k:Nat,k≤A.length∧m=A.length-k∧Kp B bb h1 h'∧fr'.get 67=some (.int .i64 k)∧Bld B h' bb (l++actsK A k)) A.length ?_ (by omega) ?_
 ·exact⟨0,by omega,by omega,Kp.of (ExtB.refl _ _) hB,by simp[T.get_set],by simpa[actsK]using D⟩
 rintro m fr2 h2 ⟨k,hk,rfl,X2,f67,D2⟩ hag
 have e67:=getK_of f67
 have b1':=getK_eq (hag 1 rfl)
 have b5':=getK_eq (hag 5 rfl)
 have b6':=getK_eq (hag 6 rfl)
 have b65:=getK_eq (hag 65 rfl)
 have b66:=getK_eq (hag 66 rfl)
 have n2:=X2.x.n
 have gk2:=gk.ext hB5 X2.x
 have al:=actsK_len ok hk
 by_cases hlt:k<A.length
 ·obtain⟨i,o,rfl,hi,hc⟩:=(ra.ext X2.x).at_ hlt
  have oka:=ok _ (List.getElem_mem hlt)
  have asl:=actS_len oka
  have hsucc:=actsK_succ hlt
  generalize A[k]=a at hc oka asl hsucc
  (with_reducible repeat' (first|refine y1 ?_ (by omega)|refine y4 ?_ (by omega) (by omega)|refine y7 ?_ (by with_unfolding_all rfl)|simp -dsimp only[↓WB,↓W12,WP,newBlk_n,Nat.reduceEqDiff,Nat.reduceAdd,↓e67,↓b1',↓b5',↓b6',↓b65,↓b66,↓k1,↓k5,↓k6,hc]))
  have X3:ExtB h2.n h2 (newBlk h2 (.cells [.int .i64 a.k,.int .i64 a.p,.int .i64 a.v,.int .i64 a.c] 35 true)):=ExtB.new _ (Nat.le_refl _)
  have c3:cellsAt (newBlk h2 (.cells [.int .i64 a.k,.int .i64 a.p,.int .i64 a.v,.int .i64 a.c] 35 true)) ⟨h2.n,0,none⟩ 4=some [.int .i64 a.k,.int .i64 a.p,.int .i64 a.v,.int .i64 a.c]:=cellsAt_newE rfl
  have n3:(newBlk h2 (.cells [.int .i64 a.k,.int .i64 a.p,.int .i64 a.v,.int .i64 a.c] 35 true)).n=h2.n+1:=rfl
  refine act_ret (a:=a) oka ((gk2.ext (B:=h2.n) gk2.n X3)) fun h4 X4=>?_
  have n4:=X4.n
  have X24:ExtB h2.n h2 h4:=X3.trans (X4.mono (by omega))
  simp -dsimp only[↓WB,↓W12,WP,newBlk_n,Nat.reduceEqDiff,Nat.reduceAdd,↓e67,↓b1',↓b5',↓b6',↓b65,↓b66,↓k1,↓k5,↓k6]
  refine put_ret (s:=actS a) (D2.ext X24) (by rw[List.length_append];omega) fun v h5 X5 D5=>?_
  simp -dsimp only[↓WB,↓W12,WP,newBlk_n,Nat.reduceEqDiff,Nat.reduceAdd,↓e67,↓b1',↓b5',↓b6',↓b65,↓b66,↓k1,↓k5,↓k6]
  refine⟨A.length-(k+1),by omega,k+1,by omega,by omega,(X2.trans (Kp.of X24 (by omega))).trans X5,by simp[T.get_set,wrap_succ (show k≤4611686018427387904 by omega)],?_⟩
  rw[hsucc,← List.append_assoc];exact D5
 ·have hke:k=A.length:=by omega
  subst hke
  (with_reducible repeat' (first|refine y2 ?_ (by omega)|simp -dsimp only[↓WB,↓W12,WP,newBlk_n,Nat.reduceEqDiff,Nat.reduceAdd,↓e67,↓b1',↓b5',↓b6',↓b65,↓b66,↓k1,↓k5,↓k6]))
  refine string_ret D2 (by rw[List.length_append];omega) fun h3 X3=>?_
  unfold strV at hK ⊢
  simp -dsimp only[↓WB,↓W12,WP,newBlk_n,Nat.reduceEqDiff,Nat.reduceAdd,↓e67,↓b1',↓b5',↓b6',↓b65,↓b66,↓k1,↓k5,↓k6]
  exact hK _ (X2.x.trans X3)
theorem Kp.box {B b i:Nat}{h h':Heap}{cs:List Value}{e:TypeId}(x:Kp B b h h') (bx:Box h i cs e) (hi:i≠b):Box h' i cs e :=
 ⟨Nat.lt_of_lt_of_le bx.lt x.x.n,by rw[x.f i bx.lt hi (fun cs' e'=>by rw[bx.get]at e';simp at e')];exact bx.get⟩
theorem textP_len {p:List UInt8}(hp:p.length≤1024):(textP p).length≤18504:=by
 rw[textP_K]
 have:=textK_len p ((p.length+3) / 4)
 omega
theorem text_progs {B b1 bb:Nat}{c:Nat→Int}{pa aa:Option Addr}{pc ac:Nat}{P:List (List UInt8)}{A:List ActD}{l:List UInt8}{fr:Fr}{h1:Heap}{K:Value→Heap→Prop}(hB:B≤h1.n) (hB5:5<B) (hbb:b1≠bb) (hb1:b1<h1.n)
  (g1:fr.get 1=some (.pointer (some ⟨b1,0,none⟩))) (g5:fr.get 5=some (.pointer (some ⟨bb,0,none⟩))) (g6:fr.get 6=some (.func (.func 25) ⟨[]⟩ ⟨[.pointer (some ⟨bb,0,none⟩)]⟩))
  (bx:Box h1 b1 (scrL c (.slice pa P.length pc) (.slice aa A.length ac)) 28) (D:Bld B h1 bb l) (r:RdPU B h1 (.slice pa P.length pc) P) (ra:RdA B h1 (.slice aa A.length ac) A) (gk:GOk h1) (ok:∀ a∈A,okA a) (hA:A.length≤5000) (hP:P.length≤16) (hp:∀ p∈P,p.length≤1024) (hl:l.length≤434)
  (hK:∀ h',ExtB B h1 h'→K (.tuple #[strV (l++progsK P P.length++actsK A A.length),.int .i64 0]) h'):s12_48.wp env 77 none fr h1 (resK env [.tmp 2,.tmp 3] K):=by
 have k1:=getK_of g1
 have k5:=getK_of g5
 have k6:=getK_of g6
 obtain⟨_,_,d14,_⟩:=bx.scr
 simp -dsimp only[↓WB,↓W12_0,↓W12_2,↓s12_31_w,↓s12_32_w,↓W12_5,↓s12_48_w,↓W12_7,↓s12_64_w,↓W12_9,↓s12_70_w,↓W12_11,WP,newBlk_n,Nat.reduceEqDiff,Nat.reduceAdd,↓k1,↓k5,↓k6,d14]
 refine cw_loopI (fun m fr' h'=>∃ k:Nat,k≤P.length∧m=P.length-k∧Kp B bb h1 h'∧fr'.get 44=some (.int .i64 k)∧Bld B h' bb (l++progsK P k)) P.length ?_ (by omega) ?_
 ·exact⟨0,by omega,by omega,Kp.of (ExtB.refl _ _) hB,by simp[T.get_set],by simpa[progsK]using D⟩
 rintro m fr2 h2 ⟨k,hk,rfl,X2,f44,D2⟩ hag
 have e44:=getK_of f44
 have b1':=getK_eq (hag 1 rfl)
 have b5':=getK_eq (hag 5 rfl)
 have b6':=getK_eq (hag 6 rfl)
 have b42:=getK_eq (hag 42 rfl)
 have b43:=getK_eq (hag 43 rfl)
 have n2:=X2.x.n
 have gk2:=gk.ext hB5 X2.x
 have pl:=progsK_len hp hk
 by_cases hlt:k<P.length
 ·obtain⟨i,o,ua,uc,rfl,hi,hc,hu⟩:=(r.ext X2.x).at_ hlt
  have hpk:=hp _ (List.getElem_mem hlt)
  have hsucc:=progsK_succ hlt
  have tl:=textP_len hpk
  generalize P[k]=p at hc hu hpk hsucc tl
  (with_reducible repeat' (first|refine y1 ?_ (by omega)|refine y4 ?_ (by omega) (by omega)|simp -dsimp only[↓WB,↓W12_0,↓W12_2,↓s12_31_w,↓W12_5,↓s12_48_w,↓W12_7,↓s12_64_w,↓W12_9,↓s12_70_w,↓W12_11,WP,newBlk_n,Nat.reduceEqDiff,Nat.reduceAdd,↓e44,↓b1',↓b5',↓b6',↓b42,↓b43,↓k1,↓k5,↓k6,Nat.mul_one,hc]))
  refine put_ret (s:=progW) D2 (by rw[List.length_append];simp[progW];omega) fun v h3 X3 D3=>?_
  have n3:=X3.x.n
  simp -dsimp only[↓WB,↓W12_0,↓W12_2,↓s12_31_w,↓W12_5,↓s12_48_w,↓W12_7,↓s12_64_w,↓W12_9,↓s12_70_w,↓W12_11,WP,newBlk_n,Nat.reduceEqDiff,Nat.reduceAdd,↓e44,↓b1',↓b5',↓b6',↓b42,↓b43,↓k1,↓k5,↓k6,Nat.mul_one]
  refine codeText_ret (B:=B) (p:=p) (hu.ext X3.x) (gk2.ext hB5 X3.x) (by omega) (by omega) fun h4 X4=>?_
  have n4:=X4.n
  simp -dsimp only[↓WB,↓W12_0,↓W12_2,↓s12_31_w,↓W12_5,↓s12_48_w,↓W12_7,↓s12_64_w,↓W12_9,↓s12_70_w,↓W12_11,WP,newBlk_n,Nat.reduceEqDiff,Nat.reduceAdd,↓e44,↓b1',↓b5',↓b6',↓b42,↓b43,↓k1,↓k5,↓k6,Nat.mul_one]
  have gk4:=(gk2.ext hB5 X3.x).ext (B:=h3.n) (by have:=gk.n;omega) X4
  refine lines_ret gk4 (by omega) fun j cp h5 X5 hj hj5 cj ⟨cs5,bj⟩=>?_
  have n5:=X5.n
  have X35:ExtB h3.n h3 h5:=X4.trans (X5.mono n4)
  have D5:=D3.ext X35
  simp -dsimp only[↓WB,↓W12_0,↓W12_2,↓s12_32_w,↓W12_5,↓s12_48_w,↓W12_7,↓s12_64_w,↓W12_9,↓s12_70_w,↓W12_11,WP,newBlk_n,Nat.reduceEqDiff,Nat.reduceAdd,↓e44,↓b1',↓b5',↓b6',↓b42,↓b43,↓k1,↓k5,↓k6,Nat.mul_one]
  have hll:=linesP_len p
  have X15:Kp B bb h1 h5:=(X2.trans X3).trans (Kp.of X35 (by omega))
  have jne:j≠bb:=by have:=D3.lt;omega
  refine cw_loopI (fun m fr' h'=>∃ q:Nat,q≤(linesP p).length∧m=(linesP p).length-q∧Kp B bb h5 h'∧fr'.get 54=some (.int .i64 q)∧Bld B h' bb (l++progsK P k++endL progW++indK p q)) (linesP p).length ?_ (by omega) ?_
  ·exact⟨0,by omega,by omega,Kp.of (ExtB.refl _ _) (by omega),by simp[T.get_set],by simpa[indK]using D5⟩
  rintro m fr3 h6 ⟨q,hq,rfl,X6,f54,D6⟩ hag3
  have e54:=getK_of f54
  have c1':=getK_eq (hag3 1 rfl)
  have c5':=getK_eq (hag3 5 rfl)
  have c6':=getK_eq (hag3 6 rfl)
  have c42:=getK_eq (hag3 42 rfl)
  have c43:=getK_eq (hag3 43 rfl)
  have c44:=getK_eq (hag3 44 rfl)
  have c52:=getK_eq (hag3 52 rfl)
  have c53:=getK_eq (hag3 53 rfl)
  have n6:=X6.x.n
  have il:=indK_len p hq
  by_cases hql:q<(linesP p).length
  ·have cq:=cj q hql
   have hb6:h6.b.get j=h5.b.get j:=X6.f j hj5 jne (fun cs' e'=>by rw[bj]at e';simp at e')
   have cq6:cellAt h6 ⟨j,q,none⟩=some (strV (linesP p)[q]):=by
    rw[← cq]
    simp only[cellAt,cellsAt,hb6,blt_eq,hj5,show j<h6.n by omega,decide_true]
   have lm:=linesP_mem (List.getElem_mem hql)
   have his:=indK_succ hql
   generalize (linesP p)[q]=w at cq6 lm his
   have happ:(⟨⟨[32]⟩⟩:ByteArray)++⟨w.toArray⟩=⟨(32::w).toArray⟩:=app_str [32] w
   have s1:(⟨⟨[32]⟩⟩:ByteArray).size=1:=rfl
   unfold strV at cq6
   (with_reducible repeat' (first|refine y1 ?_ (by omega)|refine y4 ?_ (by omega) (by omega)|(refine And.intro ?_ ?_;(· omega))|simp -dsimp only[↓WB,↓W12_0,↓W12_2,↓s12_31_w,↓s12_32_w,↓W12_5,↓s12_48_w,↓W12_7,↓s12_64_w,↓W12_9,↓s12_70_w,↓W12_11,WP,newBlk_n,Nat.reduceEqDiff,Nat.reduceAdd,↓e54,↓c1',↓c5',↓c6',↓c42,↓c43,↓c44,↓c52,↓c53,↓e44,↓b1',↓b5',↓b6',↓b42,↓b43,↓k1,↓k5,↓k6,Nat.mul_one,Nat.zero_add,cq6,happ,str_size,s1]))
   refine put_ret (s:=32::w) D6 (by simp only[List.length_append,List.length_cons,endL_len];simp[progW];omega) fun v h7 X7 D7=>?_
   simp -dsimp only[↓WB,↓W12_0,↓W12_2,↓s12_31_w,↓s12_32_w,↓W12_5,↓s12_48_w,↓W12_7,↓s12_64_w,↓W12_9,↓s12_70_w,↓W12_11,WP,newBlk_n,Nat.reduceEqDiff,Nat.reduceAdd,↓e54,↓c1',↓c5',↓c6',↓c42,↓c43,↓c44,↓c52,↓c53,↓e44,↓b1',↓b5',↓b6',↓b42,↓b43,↓k1,↓k5,↓k6]
   refine⟨(linesP p).length-(q+1),by omega,q+1,by omega,by omega,X6.trans X7,by simp[T.get_set,wrap_succ (show q≤4611686018427387904 by omega)],?_⟩
   rw[his,← List.append_assoc];exact D7
  ·have hqe:q=(linesP p).length:=by omega
   subst hqe
   (with_reducible repeat' (first|refine y2 ?_ (by omega)|simp -dsimp only[↓WB,↓W12_0,↓W12_2,↓s12_31_w,↓s12_32_w,↓W12_5,↓s12_48_w,↓W12_7,↓s12_64_w,↓W12_9,↓s12_70_w,↓W12_11,WP,newBlk_n,Nat.reduceEqDiff,Nat.reduceAdd,↓e54,↓c1',↓c5',↓c6',↓c42,↓c43,↓c44,↓c52,↓c53,↓e44,↓b1',↓b5',↓b6',↓b42,↓b43,↓k1,↓k5,↓k6]))
   refine⟨P.length-(k+1),by omega,k+1,by omega,by omega,X15.trans X6,by simp[T.get_set,wrap_succ (show k≤4611686018427387904 by omega)],?_⟩
   rw[hsucc,progL_ind]
   have e:endL progW=[112,114,111,103,114,97,109,10]:=rfl
   rw[e]at D6
   simpa only[List.append_assoc]using D6
 ·have hke:k=P.length:=by omega
  subst hke
  (with_reducible repeat' (first|refine y2 ?_ (by omega)|simp -dsimp only[↓WB,↓W12_0,↓W12_2,↓s12_31_w,↓s12_32_w,↓W12_5,↓s12_48_w,↓W12_7,↓s12_64_w,↓W12_9,↓s12_70_w,↓W12_11,WP,newBlk_n,Nat.reduceEqDiff,Nat.reduceAdd,↓e44,↓b1',↓b5',↓b6',↓b42,↓b43,↓k1,↓k5,↓k6]))
  refine text_acts (B:=B) (c:=c) (b1:=b1) (bb:=bb) (pv:=.slice pa P.length pc) (by omega) hB5 ?_ ?_ ?_ (X2.box bx hbb) D2 (ra.ext X2.x) gk2 ok hA (by rw[List.length_append];omega) fun h' X=>hK h' (X2.x.trans X)
  ·simp[T.get_set,hag 1 rfl,g1]
  ·simp[T.get_set,hag 5 rfl,g5]
  ·simp[T.get_set,hag 6 rfl,g6]
theorem getD_word {k:Nat}(hk:k<wordsP.length):wordsP.getD k []=wordsP[k]:=by
 rw[List.getD_eq_getElem?_getD,List.getElem?_eq_getElem hk];rfl
theorem words_nodup {k j:Nat}(hk:k<wordsP.length) (hj:j<wordsP.length) (h:wordsP[k]=wordsP[j]):k=j:=by
 refine word_inj hk hj ?_
 rw[getD_word hk,getD_word hj,h]
theorem text_words {B b1 bb mb:Nat}{c:Nat→Int}{pv av:Value}{fr:Fr}{h1:Heap}{K:Value→Heap→Prop}(hB:B≤h1.n) (hB5:5<B) (hbb:b1≠bb) (hmb:mb≠bb)
  (g1:fr.get 1=some (.pointer (some ⟨b1,0,none⟩))) (g5:fr.get 5=some (.pointer (some ⟨bb,0,none⟩))) (g6:fr.get 6=some (.func (.func 25) ⟨[]⟩ ⟨[.pointer (some ⟨bb,0,none⟩)]⟩)) (g7:fr.get 7=some (.map (some mb)))
  (bx:Box h1 b1 (scrL c pv av) 28) (D:Bld B h1 bb []) (hm:h1.b.get mb=some (.smap (partsE b1))) (hmn:mb<h1.n) (gk:GOk h1) (okc:okC c)
  (hK:∀ fr' h',ExtB B h1 h'→Box h' b1 (scrL c pv av) 28→Bld B h' bb (cfgK c 14)→fr'.get 1=some (.pointer (some ⟨b1,0,none⟩))→fr'.get 5=some (.pointer (some ⟨bb,0,none⟩))→fr'.get 6=some (.func (.func 25) ⟨[]⟩ ⟨[.pointer (some ⟨bb,0,none⟩)]⟩)→s12_48.wp env 77 none fr' h' (resK env [.tmp 2,.tmp 3] K)) :
  s12_64.wp env 77 none fr h1 (resK env [.tmp 2,.tmp 3] K):=by
 have k1:=getK_of g1
 have k5:=getK_of g5
 have k6:=getK_of g6
 have k7:=getK_of g7
 simp -dsimp only[↓WB,↓W12_0,↓s12_17_w,↓W12_2,↓s12_31_w,↓s12_32_w,↓W12_5,↓W12_7,↓s12_64_w,↓W12_9,↓s12_70_w,↓W12_11,WP,newBlk_n,Nat.reduceEqDiff,Nat.reduceAdd,↓k1,↓k5,↓k6,↓k7]
 refine words_ret gk.t ?_
 have X2:ExtB h1.n h1 (newBlk h1 (.cells wordsL 9 true)):=ExtB.new _ (Nat.le_refl _)
 have hb2:(newBlk h1 (.cells wordsL 9 true)).b.get h1.n=some (.cells wordsL 9 true):=newBlk_same _ _
 have n2:(newBlk h1 (.cells wordsL 9 true)).n=h1.n+1:=rfl
 have D2:=D.ext X2
 have wne:h1.n≠bb:=by have:=D.lt;omega
 generalize newBlk h1 (.cells wordsL 9 true)=h2 at X2 hb2 n2 D2 ⊢
 have bx2:=bx.ext X2 bx.lt
 have hm2:h2.b.get mb=some (.smap (partsE b1)):=by rw[X2.get mb hmn];exact hm
 simp -dsimp only[↓WB,↓W12_0,↓s12_17_w,↓W12_2,↓s12_31_w,↓s12_32_w,↓W12_5,↓W12_7,↓s12_64_w,↓W12_9,↓s12_70_w,↓W12_11,WP,newBlk_n,Nat.reduceEqDiff,Nat.reduceAdd,↓k1,↓k5,↓k6,↓k7]
 refine cw_loopI (fun m fr' h'=>∃ k:Nat,k≤14∧m=14-k∧Kp B bb h2 h'∧fr'.get 26=some (.int .i64 k)∧Bld B h' bb (cfgK c k)) 14 ?_ (by omega) ?_
 ·exact⟨0,by omega,by omega,Kp.of (ExtB.refl _ _) (by omega),by simp[T.get_set],by simpa[cfgK]using D2⟩
 rintro m fr2 h3 ⟨k,hk,rfl,X3,f26,D3⟩ hag
 have e26:=getK_of f26
 have b1':=getK_eq (hag 1 rfl)
 have b5':=getK_eq (hag 5 rfl)
 have b6':=getK_eq (hag 6 rfl)
 have b7':=getK_eq (hag 7 rfl)
 have b24:=getK_eq (hag 24 rfl)
 have b25:=getK_eq (hag 25 rfl)
 have n3:=X3.x.n
 have bx3:=X3.box bx2 hbb
 have gk3:=(gk.ext (B:=h1.n) (by omega) X2).ext hB5 X3.x
 by_cases hlt:k<14
 ·have hkw:k<wordsP.length:=hlt
  have hw3:h3.b.get h1.n=some (.cells wordsL 9 true):=by rw[X3.f _ (by omega) wne (fun cs' e'=>by rw[hb2]at e';simp at e')];exact hb2
  have cw:cellAt h3 ⟨h1.n,k,none⟩=some (strV wordsP[k]):=by
   refine cellAt_blk (by omega) hw3 ?_
   rw[wordsP_eq,List.getElem?_map,List.getElem?_eq_getElem hkw];rfl
  have hm3:h3.b.get mb=some (.smap (partsE b1)):=by rw[X3.f _ (by omega) hmb (fun cs' e'=>by rw[hm2]at e';simp at e')];exact hm2
  have hnum:cellAt h3 ⟨b1,k,none⟩=some (.int (if k<10 then .i64 else .u64) (c k)):=by
   refine bx3.at_ ?_
   show (cfgL c pv++[av])[k]?=_
   rw[List.getElem?_append_left (by show k<15;omega)]
   exact cfg_at hlt
  have hln:=cfgLn_len okc hlt
  have hcl:=cfgK_len okc hk
  have hcs:=cfgK_succ c k
  have hex:cfgLn c k=Lib.join [wordsP[k],Lib.itoa (c k)] [32]:=by
   unfold cfgLn
   rw[getD_word hkw];simp[Lib.join]
  have hwu:=fun (q:∀ k' (hk':k'<wordsP.length),wordsP[k]=wordsP[k']→k=k')=>q
  generalize hwv:wordsP[k]=w at cw hex
  unfold strV at cw
  (with_reducible repeat' (first|refine y1 ?_ (by omega)|refine y4 ?_ (by omega) (by omega)|simp -dsimp only[↓WB,↓W12_0,↓s12_17_w,↓W12_2,↓s12_31_w,↓s12_32_w,↓W12_5,↓W12_7,↓s12_64_w,↓W12_9,↓s12_70_w,↓W12_11,WP,newBlk_n,Nat.reduceEqDiff,Nat.reduceAdd,↓e26,↓b1',↓b5',↓b6',↓b7',↓b24,↓b25,↓k1,↓k5,↓k6,↓k7,Nat.mul_one,Nat.zero_add,cw]))
  refine look62 (w:=w) (i:=b1) (by omega) hm3 (fun k' hk' e=>?_) (fun e=>absurd (hwv▸List.getElem_mem hkw) e)
  have hkk:k=k':=words_nodup hkw hk' (hwv.trans e)
  subst hkk
  simp -dsimp only[↓WB,↓W12_0,↓s12_17_w,↓W12_2,↓s12_31_w,↓s12_32_w,↓W12_5,↓W12_7,↓s12_64_w,↓W12_9,↓s12_70_w,↓W12_11,WP,newBlk_n,Nat.reduceEqDiff,Nat.reduceAdd,↓e26,↓b1',↓b5',↓b6',↓b7',↓b24,↓b25,↓k1,↓k5,↓k6,↓k7]
  refine number_ret (cs:=[]) (e:=0) gk3 okc hlt hnum fun h4 X4=>?_
  have n4:=X4.n
  unfold strV
  simp -dsimp only[↓WB,↓W12_0,↓s12_17_w,↓W12_2,↓s12_31_w,↓s12_32_w,↓W12_5,↓W12_7,↓s12_64_w,↓W12_9,↓s12_70_w,↓W12_11,WP,newBlk_n,Nat.reduceEqDiff,Nat.reduceAdd,↓e26,↓b1',↓b5',↓b6',↓b7',↓b24,↓b25,↓k1,↓k5,↓k6,↓k7]
  refine bs_of (l:=[strV w,strV (Lib.itoa (c k))]) rfl ?_
  have n5:(newBlk h4 (.cells [strV w,strV (Lib.itoa (c k))] 9 true)).n=h4.n+1:=rfl
  have X5:ExtB h4.n h4 (newBlk h4 (.cells [strV w,strV (Lib.itoa (c k))] 9 true)):=ExtB.new _ (Nat.le_refl _)
  have c5:cellsAt (newBlk h4 (.cells [strV w,strV (Lib.itoa (c k))] 9 true)) ⟨h4.n,0,none⟩ 2=some ([w,Lib.itoa (c k)].map strV):=cellsAt_newE rfl
  generalize newBlk h4 (.cells [strV w,strV (Lib.itoa (c k))] 9 true)=h5 at n5 X5 c5 ⊢
  simp -dsimp only[↓WB,↓W12_0,↓s12_17_w,↓W12_2,↓s12_31_w,↓s12_32_w,↓W12_5,↓W12_7,↓s12_64_w,↓W12_9,↓s12_70_w,↓W12_11,WP,newBlk_n,Nat.reduceEqDiff,Nat.reduceAdd,↓e26,↓b1',↓b5',↓b6',↓b7',↓b24,↓b25,↓k1,↓k5,↓k6,↓k7]
  refine line_join_ret (xs:=[w,Lib.itoa (c k)]) (by omega) c5 (by simp) (by simp) (by rw[← hex];omega) ?_
  rw[← hex]
  simp -dsimp only[↓WB,↓W12_0,↓s12_17_w,↓W12_2,↓s12_31_w,↓s12_32_w,↓W12_5,↓W12_7,↓s12_64_w,↓W12_9,↓s12_70_w,↓W12_11,WP,newBlk_n,Nat.reduceEqDiff,Nat.reduceAdd,↓e26,↓b1',↓b5',↓b6',↓b7',↓b24,↓b25,↓k1,↓k5,↓k6,↓k7]
  have X35:ExtB h3.n h3 h5:=X4.trans (X5.mono n4)
  refine put_ret (s:=cfgLn c k) (D3.ext X35) (by omega) fun v h6 X6 D6=>?_
  simp -dsimp only[↓WB,↓W12_0,↓s12_17_w,↓W12_2,↓s12_31_w,↓s12_32_w,↓W12_5,↓W12_7,↓s12_64_w,↓W12_9,↓s12_70_w,↓W12_11,WP,newBlk_n,Nat.reduceEqDiff,Nat.reduceAdd,↓e26,↓b1',↓b5',↓b6',↓b7',↓b24,↓b25,↓k1,↓k5,↓k6,↓k7]
  exact⟨14-(k+1),by omega,k+1,by omega,rfl,(X3.trans (Kp.of X35 (by omega))).trans X6,by simp[T.get_set,wrap_succ (show k≤4611686018427387904 by omega)],by rw[hcs];exact D6⟩
 ·have hke:k=14:=by omega
  subst hke
  (with_reducible repeat' (first|refine y2 ?_ (by omega)|simp -dsimp only[↓WB,↓W12_0,↓s12_17_w,↓W12_2,↓s12_31_w,↓s12_32_w,↓W12_5,↓W12_7,↓s12_64_w,↓W12_9,↓s12_70_w,↓W12_11,WP,newBlk_n,Nat.reduceEqDiff,Nat.reduceAdd,↓e26,↓b1',↓b5',↓b6',↓b7',↓b24,↓b25,↓k1,↓k5,↓k6,↓k7]))
  refine hK _ _ ((X2.mono hB).trans X3.x) bx3 D3 ?_ ?_ ?_
  ·simp[T.get_set,hag 1 rfl,g1]
  ·simp[T.get_set,hag 5 rfl,g5]
  ·simp[T.get_set,hag 6 rfl,g6]
theorem text_ret {B:Nat}{c:Nat→Int}{pv av:Value}{P:List (List UInt8)}{A:List ActD}{h:Heap}{K:Value→Heap→Prop}(r:RdPU B h pv P) (ra:RdA B h av A) (gk:GOk h) (hB:B≤h.n) (okc:okC c) (ok:∀ a∈A,okA a) (hP:P.length≤5000) (hA:A.length≤5000)
  (hK1:mayS c P A=0→∀ h',ExtB h.n h h'→K (.tuple #[strV (TextL c P A),.int .i64 0]) h')
  (hK2:mayS c P A≠0→∀ h',ExtB h.n h h'→K (.tuple #[strV [],.int .i64 (mayS c P A)]) h'):Ret env (.func 12) [.agg ⟨scrL c pv av⟩] h K:=by
 obtain⟨pa,pc,rfl,_⟩:=id r
 obtain⟨aa,ac,rfl,_⟩:=id ra
 have gn:=gk.n
 refine F12 rfl ?_
 simp -dsimp only[↓WB,↓W12_0,↓s12_17_w,↓W12_2,↓s12_31_w,↓s12_32_w,↓W12_5,↓s12_48_w,↓W12_7,↓s12_64_w,↓W12_9,↓W12_11,WP,newBlk_n,Nat.reduceEqDiff,Nat.reduceAdd,scr_one]
 have V:=Box.new h (scrL c (.slice pa P.length pc) (.slice aa A.length ac)) 28
 have X:ExtB h.n h (newBlk h (.cells (scrL c (.slice pa P.length pc) (.slice aa A.length ac)) 28 true)):=ExtB.new _ (Nat.le_refl _)
 have hn1:(newBlk h (.cells (scrL c (.slice pa P.length pc) (.slice aa A.length ac)) 28 true)).n=h.n+1:=rfl
 generalize newBlk h (.cells (scrL c (.slice pa P.length pc) (.slice aa A.length ac)) 28 true)=h1 at V X hn1 ⊢
 obtain⟨d16,_,_,_⟩:=V.scr
 have r1:=r.ext (X.mono hB)
 have ra1:=ra.ext (X.mono hB)
 have gk1:=gk.ext (B:=h.n) gn X
 simp -dsimp only[↓WB,↓W12_0,↓s12_17_w,↓W12_2,↓s12_31_w,↓s12_32_w,↓W12_5,↓s12_48_w,↓W12_7,↓s12_64_w,↓W12_9,↓W12_11,WP,newBlk_n,Nat.reduceEqDiff,Nat.reduceAdd,d16]
 refine may_ret (B:=B) (pv:=.slice pa P.length pc) (av:=.slice aa A.length ac) r1.rd ra1 (by omega) hP (by omega) fun h2 X2=>?_
 have n2:=X2.n
 have V2:=V.ext X2 V.lt
 have gk2:=gk1.ext (B:=h1.n) gk1.n X2
 have XX:ExtB h.n h h2:=X.trans (X2.mono (by omega))
 by_cases hm:mayS c P A=0
 case neg =>
  simp -dsimp only[↓WB,↓W12_0,↓s12_17_w,↓W12_2,↓s12_31_w,↓s12_32_w,↓W12_5,↓s12_48_w,↓W12_7,↓s12_64_w,↓W12_9,↓W12_11,WP,newBlk_n,Nat.reduceEqDiff,Nat.reduceAdd,hm]
  exact hK2 hm _ XX
 have hK1:=hK1 hm
 obtain⟨b1,b2,b3,b4,b5⟩:=mayS_bounds hm
 rw[hm]
 simp -dsimp only[↓WB,↓W12_0,↓s12_17_w,↓W12_2,↓s12_31_w,↓s12_32_w,↓W12_5,↓s12_48_w,↓W12_7,↓s12_64_w,↓W12_9,↓W12_11,WP,newBlk_n,Nat.reduceEqDiff,Nat.reduceAdd]
 show s12_70.wp env 77 none _ h2 _
 simp -dsimp only[↓WB,↓W12_0,↓s12_17_w,↓W12_2,↓s12_31_w,↓s12_32_w,↓W12_5,↓s12_48_w,↓W12_7,↓W12_9,↓s12_70_w,↓W12_11,WP,newBlk_n,Nat.reduceEqDiff,Nat.reduceAdd]
 have D3:=Bld.new (B:=h.n) (h:=h2) (by omega)
 have X3:ExtB h2.n h2 (newBlk h2 (.cells [.pointer none,.slice none 0 0] 56 true)):=ExtB.new _ (Nat.le_refl _)
 have n3:(newBlk h2 (.cells [.pointer none,.slice none 0 0] 56 true)).n=h2.n+1:=rfl
 generalize newBlk h2 (.cells [.pointer none,.slice none 0 0] 56 true)=h3 at D3 X3 n3 ⊢
 refine parts_ret fun h4 X4 n4 m4=>?_
 have V4:=(V2.ext X3 V2.lt).ext X4 (by have:=V2.lt;omega)
 have vlt:=V.lt
 have gk4:=(gk2.ext (B:=h2.n) gk2.n X3).ext (B:=h3.n) (by omega) X4
 have X04:ExtB h.n h h4:=(XX.trans (X3.mono (by omega))).trans (X4.mono (by omega))
 rw[TextL_K]at hK1
 simp -dsimp only[↓WB,↓W12_0,↓s12_17_w,↓W12_2,↓s12_31_w,↓s12_32_w,↓W12_5,↓s12_48_w,↓W12_7,↓W12_9,↓s12_70_w,↓W12_11,WP,newBlk_n,Nat.reduceEqDiff,Nat.reduceAdd]
 refine text_words (B:=h.n) (b1:=h.n) (bb:=h2.n) (mb:=h3.n) (c:=c) (by omega) (by omega) (by omega) (by omega) ?_ ?_ ?_ ?_ V4 (D3.ext X4) m4 n4 gk4 okc fun fr5 h5 X5 V5 D5 g1 g5 g6=>?_
 ·simp[T.get_set]
 ·simp[T.get_set]
 ·simp[T.get_set]
 ·simp[T.get_set]
 have n5:=X5.n
 have X05:ExtB h.n h h5:=X04.trans X5
 have hcl:=cfgK_len okc (Nat.le_refl 14)
 refine text_progs (B:=h.n) (by omega) (by omega) (by omega) (by omega) g1 g5 g6 V5 D5 ?_ ?_ (gk.ext (B:=h.n) gn X05) ok hA b2 b4 (by omega) fun h6 X6=>hK1 _ (X05.trans X6)
 ·obtain⟨a',c',e,q⟩:=r.ext (X05.mono hB)
  exact⟨a',c',e,fun k l hk=>let ⟨i,o,u,e1,e2,e3,e4⟩:=q k l hk;⟨i,o,u,e1,by omega,e3,⟨e4.1.mono hB,e4.2⟩⟩⟩
 ·exact(ra.ext (X05.mono hB)).mono hB
def shapesE:List (Value×Value×Nat):=[(.int .u8 0,.agg ⟨[.string ⟨⟨[110,111,112,32]⟩⟩]⟩,0),(.int .u8 1,.agg ⟨[.string ⟨⟨[99,111,110,115,116,32,97,110]⟩⟩]⟩,1),(.int .u8 2,.agg ⟨[.string ⟨⟨[97,100,100,32,97,98,99]⟩⟩]⟩,2),(.int .u8 3,.agg ⟨[.string ⟨⟨[115,117,98,32,97,98,99]⟩⟩]⟩,3),(.int .u8 4,.agg ⟨[.string ⟨⟨[109,117,108,32,97,98,99]⟩⟩]⟩,4),(.int .u8 5,.agg ⟨[.string ⟨⟨[106,117,109,112,32,100]⟩⟩]⟩,5),(.int .u8 6,.agg ⟨[.string ⟨⟨[122,101,114,111,32,97,100]⟩⟩]⟩,6),(.int .u8 7,.agg ⟨[.string ⟨⟨[99,111,100,101,32,97]⟩⟩]⟩,7)]
theorem und158:und env 158=some (.map 123 178):=by kernel_rfl
theorem und123:und env 123=some (.int .u8):=by kernel_rfl
theorem shapes_ret {h:Heap}{K:Value→Heap→Prop}(hK:K (.map (some h.n)) (newBlk h (.map shapesE 8))):Ret env (.func 110) [] h K:=by
 refine F110 rfl ?_
 (with_reducible repeat' (first|(refine y9 ?_ (by with_unfolding_all (simp only[fillL_cons,fillL_nil,nth_eq,blt_eq,cond_beq,over,Value.cells,List.getElem?_cons_zero,List.getElem?_cons_succ,List.length_cons,List.length_nil,Nat.reduceAdd,Nat.reduceSub,Nat.reduceLT,Nat.reduceEqDiff,decide_true,cond_true,Option.map_some,if_true,if_false,Nat.add_one_sub_one,Nat.succ_ne_zero,reduceCtorEq,OfNat.ofNat];rfl)))|simp -dsimp only[↓WB,↓W110,WP,newBlk_n,Nat.reduceEqDiff,Nat.reduceAdd,↓opW_insert]))
 refine upd_newM und158 und123 (by kernel_rfl) ?_
 (with_reducible repeat' (first|(refine y9 ?_ (by with_unfolding_all (simp only[fillL_cons,fillL_nil,nth_eq,blt_eq,cond_beq,over,Value.cells,List.getElem?_cons_zero,List.getElem?_cons_succ,List.length_cons,List.length_nil,Nat.reduceAdd,Nat.reduceSub,Nat.reduceLT,Nat.reduceEqDiff,decide_true,cond_true,Option.map_some,if_true,if_false,Nat.add_one_sub_one,Nat.succ_ne_zero,reduceCtorEq,OfNat.ofNat];rfl)))|simp -dsimp only[↓WB,↓W110,WP,newBlk_n,Nat.reduceEqDiff,Nat.reduceAdd,↓opW_insert]))
 refine upd_newM und158 und123 (by kernel_rfl) ?_
 (with_reducible repeat' (first|(refine y9 ?_ (by with_unfolding_all (simp only[fillL_cons,fillL_nil,nth_eq,blt_eq,cond_beq,over,Value.cells,List.getElem?_cons_zero,List.getElem?_cons_succ,List.length_cons,List.length_nil,Nat.reduceAdd,Nat.reduceSub,Nat.reduceLT,Nat.reduceEqDiff,decide_true,cond_true,Option.map_some,if_true,if_false,Nat.add_one_sub_one,Nat.succ_ne_zero,reduceCtorEq,OfNat.ofNat];rfl)))|simp -dsimp only[↓WB,↓W110,WP,newBlk_n,Nat.reduceEqDiff,Nat.reduceAdd,↓opW_insert]))
 refine upd_newM und158 und123 (by kernel_rfl) ?_
 (with_reducible repeat' (first|(refine y9 ?_ (by with_unfolding_all (simp only[fillL_cons,fillL_nil,nth_eq,blt_eq,cond_beq,over,Value.cells,List.getElem?_cons_zero,List.getElem?_cons_succ,List.length_cons,List.length_nil,Nat.reduceAdd,Nat.reduceSub,Nat.reduceLT,Nat.reduceEqDiff,decide_true,cond_true,Option.map_some,if_true,if_false,Nat.add_one_sub_one,Nat.succ_ne_zero,reduceCtorEq,OfNat.ofNat];rfl)))|simp -dsimp only[↓WB,↓W110,WP,newBlk_n,Nat.reduceEqDiff,Nat.reduceAdd,↓opW_insert]))
 refine upd_newM und158 und123 (by kernel_rfl) ?_
 (with_reducible repeat' (first|(refine y9 ?_ (by with_unfolding_all (simp only[fillL_cons,fillL_nil,nth_eq,blt_eq,cond_beq,over,Value.cells,List.getElem?_cons_zero,List.getElem?_cons_succ,List.length_cons,List.length_nil,Nat.reduceAdd,Nat.reduceSub,Nat.reduceLT,Nat.reduceEqDiff,decide_true,cond_true,Option.map_some,if_true,if_false,Nat.add_one_sub_one,Nat.succ_ne_zero,reduceCtorEq,OfNat.ofNat];rfl)))|simp -dsimp only[↓WB,↓W110,WP,newBlk_n,Nat.reduceEqDiff,Nat.reduceAdd,↓opW_insert]))
 refine upd_newM und158 und123 (by kernel_rfl) ?_
 (with_reducible repeat' (first|(refine y9 ?_ (by with_unfolding_all (simp only[fillL_cons,fillL_nil,nth_eq,blt_eq,cond_beq,over,Value.cells,List.getElem?_cons_zero,List.getElem?_cons_succ,List.length_cons,List.length_nil,Nat.reduceAdd,Nat.reduceSub,Nat.reduceLT,Nat.reduceEqDiff,decide_true,cond_true,Option.map_some,if_true,if_false,Nat.add_one_sub_one,Nat.succ_ne_zero,reduceCtorEq,OfNat.ofNat];rfl)))|simp -dsimp only[↓WB,↓W110,WP,newBlk_n,Nat.reduceEqDiff,Nat.reduceAdd,↓opW_insert]))
 refine upd_newM und158 und123 (by kernel_rfl) ?_
 (with_reducible repeat' (first|(refine y9 ?_ (by with_unfolding_all (simp only[fillL_cons,fillL_nil,nth_eq,blt_eq,cond_beq,over,Value.cells,List.getElem?_cons_zero,List.getElem?_cons_succ,List.length_cons,List.length_nil,Nat.reduceAdd,Nat.reduceSub,Nat.reduceLT,Nat.reduceEqDiff,decide_true,cond_true,Option.map_some,if_true,if_false,Nat.add_one_sub_one,Nat.succ_ne_zero,reduceCtorEq,OfNat.ofNat];rfl)))|simp -dsimp only[↓WB,↓W110,WP,newBlk_n,Nat.reduceEqDiff,Nat.reduceAdd,↓opW_insert]))
 refine upd_newM und158 und123 (by kernel_rfl) ?_
 (with_reducible repeat' (first|(refine y9 ?_ (by with_unfolding_all (simp only[fillL_cons,fillL_nil,nth_eq,blt_eq,cond_beq,over,Value.cells,List.getElem?_cons_zero,List.getElem?_cons_succ,List.length_cons,List.length_nil,Nat.reduceAdd,Nat.reduceSub,Nat.reduceLT,Nat.reduceEqDiff,decide_true,cond_true,Option.map_some,if_true,if_false,Nat.add_one_sub_one,Nat.succ_ne_zero,reduceCtorEq,OfNat.ofNat];rfl)))|simp -dsimp only[↓WB,↓W110,WP,newBlk_n,Nat.reduceEqDiff,Nat.reduceAdd,↓opW_insert]))
 refine upd_newM und158 und123 (by kernel_rfl) ?_
 simp -dsimp only[↓WB,↓W110,WP,newBlk_n,Nat.reduceEqDiff,Nat.reduceAdd,↓opW_insert]
 exact hK
end Go.Proofs.YtohjaacnlmkhbaaGreatDoor
