/- code.Of, walked. Conditions: none beyond each theorem's own. -/
import Derived.Test.YtohjaacnlmkhbaaGreatDoorYQ
import Derived.Test.YtohjaacnlmkhbaaGreatDoorTA
set_option linter.unusedSimpArgs false
set_option linter.unusedVariables false
namespace Go.Proofs.YtohjaacnlmkhbaaGreatDoor
open Go.Ev
set_option maxRecDepth 100000
set_option maxHeartbeats 400000
theorem atoi_ret {s:List UInt8}{h:Heap}{K:Value→Heap→Prop}(hs:s.length≤1000000) (he:errsOk h=true) (hK:∀ v h',ExtB h.n h h'→K (.tuple #[.int .i64 (atoiV s),v]) h'):Ret env (.func 76) [strV s] h K:=by
 have hc:(Nat.ble (⟨s.toArray⟩:ByteArray).size 1000000&&errsOk h)=true:=by rw[ble_eq,str_size,he,Bool.and_true];exact decide_eq_true (by omega)
 have hX:ExtB h.n h (newBlk h .dead):=ExtB.new _ (Nat.le_refl _)
 unfold atoiV at hK
 cases ha:Lib.atoiAll s with
 | ok n =>
   rw[ha]at hK
   refine extDead_ret (b:=false) (v:=.tuple #[.int .i64 n,.nilIface]) (g:=atoiG) (base:=ext8) rfl ?_ (hK .nilIface h (ExtB.refl _ _))
   unfold strV atoiG
   dsimp only
   rw[ha,hc];rfl
 | range =>
   rw[ha]at hK
   refine extDead_ret (b:=true) (v:=.tuple #[.int .i64 (Lib.atoiSat s),errV h]) (g:=atoiG) (base:=ext8) rfl ?_ (hK _ _ hX)
   unfold strV atoiG
   dsimp only
   rw[ha,hc];rfl
 | _ =>
   rw[ha]at hK
   refine extDead_ret (b:=true) (v:=.tuple #[.int .i64 0,errV h]) (g:=atoiG) (base:=ext8) rfl ?_ (hK _ _ hX)
   unfold strV atoiG
   dsimp only
   rw[ha,hc];rfl
structure RdT (h:Heap) (j:Nat) (f:List (List UInt8)):Prop where
 lt:j<h.n
 at_:∀ k (hk:k<f.length),cellAt h ⟨j,k,none⟩=some (strV f[k])
theorem RdT.ext {h h':Heap}{j:Nat}{f:List (List UInt8)}(r:RdT h j f) (x:ExtB h.n h h'):RdT h' j f :=
 ⟨Nat.lt_of_lt_of_le r.lt x.n,fun k hk=>cellAt_ext x r.lt (r.at_ k hk)⟩
theorem num75_ret {b rb c i:Nat}{f:List (List UInt8)}{h:Heap}{K:Value→Heap→Prop}(gk:GOk h) (hb:cellAt h ⟨b,0,none⟩=some (.slice (some ⟨rb,0,none⟩) f.length c)) (r:RdT h rb f) (hs:∀ w∈f,w.length≤1000000)
  (hK:∀ h',ExtB h.n h h'→K (.int .i64 (numF f i)) h'):Ret env (.func 75) [.int .i64 (i:Int),.pointer (some ⟨b,0,none⟩)] h K:=by
 refine F75 rfl ?_
 by_cases hi:i<f.length
 ·have hc:=r.at_ i hi
  have hw:=hs _ (List.getElem_mem hi)
  have e:numF f i=atoiV f[i]:=by unfold numF;rw[List.getElem?_eq_getElem hi]
  rw[e]at hK
  generalize f[i]=w at hc hw hK
  unfold strV at hc
  (with_reducible repeat' (first|refine y2 ?_ (by omega)|refine y4 ?_ (by omega) (by omega)|simp -dsimp only[↓WB,↓W75,WP,newBlk_n,Nat.reduceEqDiff,Nat.reduceAdd,hb,Nat.zero_add,Nat.mul_one,hc]))
  refine atoi_ret (s:=w) hw gk.e fun v h' X=>?_
  simp -dsimp only[↓WB,↓W75,WP,newBlk_n,Nat.reduceEqDiff,Nat.reduceAdd]
  exact hK _ X
 ·have e:numF f i=0:=by unfold numF;rw[List.getElem?_eq_none (by omega)]
  rw[e]at hK
  (with_reducible repeat' (first|refine y1 ?_ (by omega)|simp -dsimp only[↓WB,↓W75,WP,newBlk_n,Nat.reduceEqDiff,Nat.reduceAdd,hb]))
  exact hK _ (ExtB.refl _ _)
theorem num109_ret {b rb c i:Nat}{f:List (List UInt8)}{h:Heap}{K:Value→Heap→Prop}(gk:GOk h) (hb:cellAt h ⟨b,0,none⟩=some (.slice (some ⟨rb,0,none⟩) f.length c)) (r:RdT h rb f) (hs:∀ w∈f,w.length≤1000000)
  (hK:∀ h',ExtB h.n h h'→K (.int .i64 (numF f i)) h'):Ret env (.func 109) [.int .i64 (i:Int),.pointer (some ⟨b,0,none⟩)] h K:=by
 refine F109 rfl ?_
 by_cases hi:i<f.length
 ·have hc:=r.at_ i hi
  have hw:=hs _ (List.getElem_mem hi)
  have e:numF f i=atoiV f[i]:=by unfold numF;rw[List.getElem?_eq_getElem hi]
  rw[e]at hK
  generalize f[i]=w at hc hw hK
  unfold strV at hc
  (with_reducible repeat' (first|refine y2 ?_ (by omega)|refine y4 ?_ (by omega) (by omega)|simp -dsimp only[↓WB,↓W109,WP,newBlk_n,Nat.reduceEqDiff,Nat.reduceAdd,hb,Nat.zero_add,Nat.mul_one,hc]))
  refine atoi_ret (s:=w) hw gk.e fun v h' X=>?_
  simp -dsimp only[↓WB,↓W109,WP,newBlk_n,Nat.reduceEqDiff,Nat.reduceAdd]
  exact hK _ X
 ·have e:numF f i=0:=by unfold numF;rw[List.getElem?_eq_none (by omega)]
  rw[e]at hK
  (with_reducible repeat' (first|refine y1 ?_ (by omega)|simp -dsimp only[↓WB,↓W109,WP,newBlk_n,Nat.reduceEqDiff,Nat.reduceAdd,hb]))
  exact hK _ (ExtB.refl _ _)
theorem run_ret {rb c:Nat}{f:List (List UInt8)}{h:Heap}{K:Value→Heap→Prop}(gk:GOk h) (r:RdT h rb f) (hs:∀ w∈f,w.length≤1000000) (hK:∀ h',ExtB h.n h h'→K (.agg ⟨(runAct f).cells⟩) h'):Ret env (.func 42) [.slice (some ⟨rb,0,none⟩) f.length c] h K:=by
 have gn:=gk.n
 refine F42 rfl ?_
 simp -dsimp only[↓WB,↓W42,WP,newBlk_n,Nat.reduceEqDiff,Nat.reduceAdd]
 have X1:ExtB h.n h (newBlk (newBlk h (.cells [.slice (some ⟨rb,0,none⟩) f.length c] 65 true)) (.cells [.int .i64 0,.int .i64 0,.int .i64 0,.int .i64 0] 35 true)):=(ExtB.new _ (Nat.le_refl _)).trans (ExtB.new _ (Nat.le_succ _))
 have c1:cellAt (newBlk (newBlk h (.cells [.slice (some ⟨rb,0,none⟩) f.length c] 65 true)) (.cells [.int .i64 0,.int .i64 0,.int .i64 0,.int .i64 0] 35 true)) ⟨h.n,0,none⟩=some (.slice (some ⟨rb,0,none⟩) f.length c):=(cellAt_newO (Nat.lt_succ_self _)).trans (cellAt_newE.trans rfl)
 have n1:(newBlk (newBlk h (.cells [.slice (some ⟨rb,0,none⟩) f.length c] 65 true)) (.cells [.int .i64 0,.int .i64 0,.int .i64 0,.int .i64 0] 35 true)).n=h.n+2:=rfl
 have B1:Box (newBlk (newBlk h (.cells [.slice (some ⟨rb,0,none⟩) f.length c] 65 true)) (.cells [.int .i64 0,.int .i64 0,.int .i64 0,.int .i64 0] 35 true)) (h.n+1) [.int .i64 0,.int .i64 0,.int .i64 0,.int .i64 0] 35:=Box.new (newBlk h (.cells [.slice (some ⟨rb,0,none⟩) f.length c] 65 true)) _ _
 generalize newBlk (newBlk h (.cells [.slice (some ⟨rb,0,none⟩) f.length c] 65 true)) (.cells [.int .i64 0,.int .i64 0,.int .i64 0,.int .i64 0] 35 true)=h1 at X1 c1 n1 B1 ⊢
 skip
 refine num75_ret (i:=1) (gk.ext (B:=h.n) gn X1) c1 (r.ext X1) hs fun h2 X2=>?_
 have n2:=X2.n
 have c2:=cellAt_ext X2 (by omega) c1
 have X02:=X1.trans (X2.mono (by omega))
 simp -dsimp only[↓WB,↓W42,WP,newBlk_n,Nat.reduceEqDiff,Nat.reduceAdd]
 refine num75_ret (i:=2) (gk.ext (B:=h.n) gn X02) c2 (r.ext X02) hs fun h3 X3=>?_
 have n3:=X3.n
 have c3:=cellAt_ext X3 (by omega) c2
 have X03:=X02.trans (X3.mono (by omega))
 simp -dsimp only[↓WB,↓W42,WP,newBlk_n,Nat.reduceEqDiff,Nat.reduceAdd]
 refine num75_ret (i:=3) (gk.ext (B:=h.n) gn X03) c3 (r.ext X03) hs fun h4 X4=>?_
 have n4:=X4.n
 have X04:=X03.trans (X4.mono (by omega))
 have B4:=(((B1.ext X2 (by omega)).ext X3 (by omega)).ext X4 (by omega))
 (with_reducible repeat' (first|(refine y9 ?_ (by with_unfolding_all (simp only[fillL_cons,fillL_nil,nth_eq,blt_eq,cond_beq,over,Value.cells,List.getElem?_cons_zero,List.getElem?_cons_succ,List.length_cons,List.length_nil,Nat.reduceAdd,Nat.reduceSub,Nat.reduceLT,Nat.reduceEqDiff,decide_true,cond_true,Option.map_some,if_true,if_false,Nat.add_one_sub_one,Nat.succ_ne_zero,reduceCtorEq,OfNat.ofNat];rfl)))|simp -dsimp only[↓WB,↓W42,WP,newBlk_n,Nat.reduceEqDiff,Nat.reduceAdd]))
 refine st_at (cs':=(runAct f).cells) B4.get rfl rfl rfl rfl (by decide) ?_
 have B5:=B4.set (cs':=(runAct f).cells)
 have X5:ExtB h.n h4 { h4 with b:=h4.b.set (h.n+1) (.cells (runAct f).cells 35 true) }:=ExtB.set _ (by omega)
 generalize ({ h4 with b:=h4.b.set (h.n+1) (.cells (runAct f).cells 35 true) }:Heap)=h5 at B5 X5 ⊢
 have d5:cellsAt h5 ⟨h.n+1,0,none⟩ 4=some (runAct f).cells:=cellsAt_blk B5.lt B5.get rfl rfl
 simp -dsimp only[↓WB,↓W42,WP,newBlk_n,Nat.reduceEqDiff,Nat.reduceAdd,d5]
 exact hK _ (X04.trans X5)
theorem idx_ret {s:List UInt8}{x:UInt8}{h:Heap}{K:Value→Heap→Prop}(hK:K (.int .i64 (Lib.indexByte s x)) h):Ret env (.func 108) [.string ⟨s.toArray⟩,.int .u8 (x.toNat:Int)] h K:=by
 refine extLib_ret (g:=idxG) (base:=ext11) rfl ?_ hK
 have e:((x.toNat:Int).toNat).toUInt8=x:=by rw[Int.toNat_natCast];exact UInt8.ofNat_toNat
 simp only[idxG,e]
theorem indexByte_lt:∀ (l:List UInt8) (c:UInt8),Lib.indexByte l c<(l.length:Int)∨l=[]
 | [],c=>.inr rfl
 | b::l,c=>by
   refine .inl ?_
   have ih:=indexByte_lt l c
   have hg:=Lib.indexByte_ge l c
   have e:l=[]→Lib.indexByte l c = -1:=fun e=>by subst e;rfl
   unfold Lib.indexByte
   simp only[List.length_cons,beq_iff_eq]
   split
   · omega
   · split
     · omega
     · rcases ih with ih|ih
       · omega
       · have:=e ih;omega
theorem nib_max (ch:UInt8):max (Lib.indexByte [48,49,50,51,52,53,54,55,56,57,97,98,99,100,101,102] ch) 0=((nibV ch:Nat):Int):=by
 show max (Lib.indexByte digL ch) 0=_
 unfold nibV;omega
theorem nib_lt (ch:UInt8):nibV ch<16:=by
 have h1:=indexByte_lt digL ch
 have h2:digL.length=16:=rfl
 have h3:digL≠[]:=by decide
 unfold nibV
 rcases h1 with h1|h1
 ·omega
 ·exact absurd h1 h3
theorem or_nib {a b:Nat}(ha:a<16) (hb:b<16):IntKind.wrap .i64 ((BitVec.ofInt IntKind.i64.bits (IntKind.wrap .i64 ((a:Int)*2 ^ min (Int.toNat 4) IntKind.i64.bits)) ||| BitVec.ofInt IntKind.i64.bits (b:Int)).toNat:Int)=((16*a+b:Nat):Int):=by
 have key:∀ a b:Fin 16,IntKind.wrap .i64 ((BitVec.ofInt IntKind.i64.bits (IntKind.wrap .i64 (((a.1:Nat):Int)*2 ^ min (Int.toNat 4) IntKind.i64.bits)) ||| BitVec.ofInt IntKind.i64.bits ((b.1:Nat):Int)).toNat:Int)=((16*a.1+b.1:Nat):Int):=by decide +kernel
 exact key ⟨a,ha⟩ ⟨b,hb⟩
theorem bytesP_take:∀ (s:List UInt8) (k:Nat) (h:2*k+1<s.length),bytesP (s.take (2*(k+1)))=bytesP (s.take (2*k))++[UInt8.ofNat (16*nibV s[2*k]+nibV s[2*k+1])]
 | [],k,h=>by simp at h
 | [a],k,h=>by simp at h
 | a::b::r,0,h=>by simp[bytesP]
 | a::b::r,k+1,h=>by
   have ih:=bytesP_take r k (by simp only[List.length_cons]at h;omega)
   have e1:2*(k+1+1)=2*(k+1)+2:=by omega
   have e2:2*(k+1)=2*k+2:=by omega
   have g0:(a::b::r)[2*(k+1)]'(by omega)=r[2*k]'(by simp only[List.length_cons]at h;omega):=by
     simp only[e2,List.getElem_cons_succ]
   have g1:(a::b::r)[2*(k+1)+1]'(by omega)=r[2*k+1]'(by simp only[List.length_cons]at h;omega):=by
     simp only[show 2*(k+1)+1=2*k+1+2 by omega,List.getElem_cons_succ]
   rw[g0,g1,e1]
   have t1:(a::b::r).take (2*(k+1)+2)=a::b::r.take (2*(k+1)):=rfl
   have t2:(a::b::r).take (2*(k+1))=a::b::r.take (2*k):=by rw[e2];rfl
   rw[t1,t2,bytesP,bytesP,ih];rfl
theorem bytesP_all {s:List UInt8}{k:Nat}(h1:2*k≤s.length) (h2:¬2*k+1<s.length):bytesP s=bytesP (s.take (2*k)):=by
 have key:∀ (k:Nat) (s:List UInt8),2*k≤s.length→¬2*k+1<s.length→bytesP s=bytesP (s.take (2*k)):=by
   intro k
   induction k with
   | zero =>
     intro s _ h
     cases s with
     | nil=>rfl
     | cons a s=>cases s with
       | nil=>rfl
       | cons b s=>simp at h
   | succ k ih =>
     intro s h1 h2
     cases s with
     | nil=>simp at h1
     | cons a s=>cases s with
       | nil=>simp at h1;omega
       | cons b s =>
         simp only[List.length_cons]at h1 h2
         have e:(a::b::s).take (2*(k+1))=a::b::s.take (2*k):=by rw[show 2*(k+1)=2*k+2 by omega];rfl
         rw[e,bytesP,bytesP,ih s (by omega) (by omega)]
 exact key k s h1 h2
theorem bytesOf_ret {s:List UInt8}{h:Heap}{K:Value→Heap→Prop}(hs:s.length≤500000) (hK:∀ v h',OwnS h.n h' 5 v (bytesP s).length ((bytesP s).map byteV)→ExtB h.n h h'→K v h'):Ret env (.func 78) [strV s] h K:=by
 refine F78 rfl ?_
 unfold strV
 simp -dsimp only[↓WB,↓W78,WP,newBlk_n,Nat.reduceEqDiff,Nat.reduceAdd]
 refine cw_loopI (fun m fr' h'=>∃ k v,2*k≤s.length∧m=s.length-2*k∧ExtB h.n h h'∧fr'.get 3=some (.int .i64 ((2*k:Nat):Int))∧fr'.get 2=some v∧OwnS h.n h' 5 v (bytesP (s.take (2*k))).length ((bytesP (s.take (2*k))).map byteV)) s.length ?_ (by omega) ?_
 ·exact⟨0,_,by omega,by omega,ExtB.refl _ _,by simp[T.get_set],by simp only[T.get_set];rfl,by simpa[bytesP]using OwnS.nil⟩
 rintro m fr2 h2 ⟨k,v,hk,rfl,X2,f3,f2,O2⟩ hag
 have e3:=getK_of f3
 have e2:=getK_of f2
 have b0:=getK_eq (hag 0 rfl)
 have n2:=X2.n
 have w1:IntKind.wrap .i64 (((2*k:Nat):Int)+1)=((2*k+1:Nat):Int):=by rw[wrap_i64 (by omega) (by omega)];omega
 have w2:IntKind.wrap .i64 (((2*k:Nat):Int)+2)=((2*(k+1):Nat):Int):=by rw[wrap_i64 (by omega) (by omega)];omega
 by_cases hlt:2*k+1<s.length
 ·have hbl:=bytesP_len (s.take (2*k))
  have htk:=bytesP_take s k hlt
  rw[List.length_take]at hbl
  have ix0:∀ {J:Value→Prop},J (.int .u8 (s[2*k].toNat:Int))→ixK env 9 (.string ⟨s.toArray⟩) (.int .i64 ((2*k:Nat):Int)) J:=fun q=>ix_str str9 (by omega) q
  have ix1:∀ {J:Value→Prop},J (.int .u8 (s[2*k+1].toNat:Int))→ixK env 9 (.string ⟨s.toArray⟩) (.int .i64 ((2*k+1:Nat):Int)) J:=fun q=>ix_str str9 (by omega) q
  generalize s[2*k]=x at ix0 htk
  generalize s[2*k+1]=y at ix1 htk
  have hx:=nib_lt x
  have hy:=nib_lt y
  have hor:=or_nib hx hy
  have w8:IntKind.wrap .u8 ((16*nibV x+nibV y:Nat):Int)=(((UInt8.ofNat (16*nibV x+nibV y)).toNat:Nat):Int):=by
   rw[wrap_u8 (by omega) (by omega)]
   have:(UInt8.ofNat (16*nibV x+nibV y)).toNat=16*nibV x+nibV y:=by simp;omega
   rw[this]
  (with_reducible repeat' (first|refine y1 ?_ (by omega)|simp -dsimp only[↓WB,↓W78,WP,newBlk_n,Nat.reduceEqDiff,Nat.reduceAdd,↓e3,↓e2,↓b0,w1,str_size]))
  refine ix0 ?_
  (with_reducible repeat' (first|(refine And.intro ?_ ?_;(· omega))|simp -dsimp only[↓WB,↓W78,WP,newBlk_n,Nat.reduceEqDiff,Nat.reduceAdd,↓e3,↓e2,↓b0,w1]))
  refine ix1 ?_
  (with_reducible repeat' (first|(refine And.intro ?_ ?_;(· omega))|simp -dsimp only[↓WB,↓W78,WP,newBlk_n,Nat.reduceEqDiff,Nat.reduceAdd,↓e3,↓e2,↓b0,w1]))
  refine idx_ret ?_
  (with_reducible repeat' (first|(refine And.intro ?_ ?_;(· omega))|simp -dsimp only[↓WB,↓W78,WP,newBlk_n,Nat.reduceEqDiff,Nat.reduceAdd,↓e3,↓e2,↓b0,w1,nib_max]))
  refine idx_ret ?_
  (with_reducible repeat' (first|(refine And.intro ?_ ?_;(· omega))|refine y8 ?_ (by with_unfolding_all rfl)|simp -dsimp only[↓WB,↓W78,WP,newBlk_n,Nat.reduceEqDiff,Nat.reduceAdd,↓e3,↓e2,↓b0,w1,nib_max,bin_or,hor,w8]))
  refine app_oneN (new:=[byteV (UInt8.ofNat (16*nibV x+nibV y))]) O2 (by omega) (by simp) (by omega) rfl rfl (by decide) rfl fun v' h4 O4 X4 n4 _=>?_
  (with_reducible repeat' (first|(refine And.intro ?_ ?_;(· omega))|simp -dsimp only[↓WB,↓W78,WP,newBlk_n,Nat.reduceEqDiff,Nat.reduceAdd,↓e3,↓e2,↓b0,w1,w2]))
  refine⟨s.length-2*(k+1),by omega,k+1,v',by omega,rfl,X2.trans X4,by simp[T.get_set],by simp[T.get_set],?_⟩
  rw[htk,List.map_append,List.length_append];exact O4
 ·rw[bytesP_all hk hlt]at hK
  (with_reducible repeat' (first|refine y2 ?_ (by omega)|simp -dsimp only[↓WB,↓W78,WP,newBlk_n,Nat.reduceEqDiff,Nat.reduceAdd,↓e3,↓e2,↓b0,w1,str_size]))
  exact hK _ _ O2 X2
theorem bytes1_ret {i:Nat}{o a b c:UInt8}{h:Heap}{K:Value→Heap→Prop}(hi:i<h.n) (hc:cellsAt h ⟨i,0,none⟩ 4=some [.int .u8 (o.toNat:Int),.int .u8 (a.toNat:Int),.int .u8 (b.toNat:Int),.int .u8 (c.toNat:Int)])
  (hK:∀ v h',OwnS h.n h' 5 v 4 [byteV o,byteV a,byteV b,byteV c]→ExtB h.n h h'→K v h'):Ret env (.func 79) [.slice (some ⟨i,0,none⟩) 1 1] h K:=by
 refine F79 rfl ?_
 simp -dsimp only[↓WB,↓W79,WP,newBlk_n,Nat.reduceEqDiff,Nat.reduceAdd]
 refine cw_loopU 2 (by decide) ?_
 rw[loopN_succ]
 (with_reducible repeat' (first|refine y1 ?_ (by omega)|refine y4 ?_ (by omega) (by omega)|refine y7 ?_ (by with_unfolding_all rfl)|simp -dsimp only[↓WB,↓W79,WP,newBlk_n,Nat.reduceEqDiff,Nat.reduceAdd,hc]))
 have X1:ExtB h.n h (newBlk h (.cells [.int .u8 (o.toNat:Int),.int .u8 (a.toNat:Int),.int .u8 (b.toNat:Int),.int .u8 (c.toNat:Int)] 125 true)):=ExtB.new _ (Nat.le_refl _)
 have B1:=Box.new h [.int .u8 (o.toNat:Int),.int .u8 (a.toNat:Int),.int .u8 (b.toNat:Int),.int .u8 (c.toNat:Int)] 125
 have n1:(newBlk h (.cells [.int .u8 (o.toNat:Int),.int .u8 (a.toNat:Int),.int .u8 (b.toNat:Int),.int .u8 (c.toNat:Int)] 125 true)).n=h.n+1:=rfl
 generalize newBlk h (.cells [.int .u8 (o.toNat:Int),.int .u8 (a.toNat:Int),.int .u8 (b.toNat:Int),.int .u8 (c.toNat:Int)] 125 true)=h1 at X1 B1 n1 ⊢
 have d0:=B1.at_ (j:=0) rfl
 have d1:=B1.at_ (j:=1) rfl
 have d2:=B1.at_ (j:=2) rfl
 have d3:=B1.at_ (j:=3) rfl
 skip
 refine bs_of (l:=[byteV o,byteV a,byteV b,byteV c]) rfl ?_
 have X2:ExtB h1.n h1 (newBlk h1 (.cells [byteV o,byteV a,byteV b,byteV c] 5 true)):=ExtB.new _ (Nat.le_refl _)
 have n2:(newBlk h1 (.cells [byteV o,byteV a,byteV b,byteV c] 5 true)).n=h1.n+1:=rfl
 have c2:cellsAt (newBlk h1 (.cells [byteV o,byteV a,byteV b,byteV c] 5 true)) ⟨h1.n,0,none⟩ 4=some [byteV o,byteV a,byteV b,byteV c]:=cellsAt_newE rfl
 generalize newBlk h1 (.cells [byteV o,byteV a,byteV b,byteV c] 5 true)=h2 at X2 n2 c2 ⊢
 simp -dsimp only[↓WB,↓W79,WP,newBlk_n,Nat.reduceEqDiff,Nat.reduceAdd,d0,d1,d2,d3]
 refine app_ownG (m:=4) (n:=0) (cs:=[]) (new:=[byteV o,byteV a,byteV b,byteV c]) (B:=h.n) OwnS.nil (by omega) rfl rfl (by omega) (fun _=>c2) rfl rfl (by decide) fun v' h3 O3 X3=>?_
 rw[List.nil_append]at O3
 have w01:IntKind.wrap .i64 (0+1)=1:=rfl
 simp -dsimp only[↓WB,↓W79,WP,newBlk_n,Nat.reduceEqDiff,Nat.reduceAdd,w01]
 rw[loopN_succ]
 (with_reducible repeat' (first|refine y2 ?_ (by omega)|simp -dsimp only[↓WB,↓W79,WP,newBlk_n,Nat.reduceEqDiff,Nat.reduceAdd,w01]))
 exact hK _ _ O3 ((X1.trans (X2.mono (by omega))).trans X3)
abbrev instrB:Fr→Heap→(Ex→Fr→Heap→Prop)→Prop:=fun fr h Q=>opsW env r80_2 fr h fun fr h=>s80_48.wp env 74 none fr h Q
structure InstrHd (fr0:Fr) (H:Heap) (r m b xb rb c:Nat) (f:List (List UInt8)) (w:List UInt8):Prop where
 g1:fr0.get 1=some (.pointer (some ⟨b,0,none⟩))
 g2:fr0.get 2=some (.pointer (some ⟨xb,0,none⟩))
 g3:fr0.get 3=some (.func (.func 109) ⟨[]⟩ ⟨[.pointer (some ⟨b,0,none⟩)]⟩)
 g22:fr0.get 22=some (.pointer (some ⟨r,0,none⟩))
 hm:H.b.get m=some (.map shapesE 8)
 hmn:m<H.n
 hmr:m≠r
 cb:cellAt H ⟨b,0,none⟩=some (.slice (some ⟨rb,0,none⟩) f.length c)
 rf:RdT H rb f
 gk:GOk H
 f0:f[0]?=some w
 fs:∀ w∈f,w.length≤1000000
 bx:b<xb
 rx:rb<xb
 x5:5<xb
 xr:xb<r
 xm:xb<m
 rn:r<H.n
 hD:∀ t v,fr0.get t=some v→t≤3∨(11≤t∧t≤22)
theorem ext_blk {B r:Nat}{H:Heap}(k:Blk) (h:B≤r):ExtB B H (setBlk H r k):=⟨Nat.le_refl _,fun i hi=>get_setBlk_ne (by omega)⟩
theorem RdT.extB {B j:Nat}{h h':Heap}{f:List (List UInt8)}(r:RdT h j f) (x:ExtB B h h') (hj:j<B):RdT h' j f :=
 ⟨Nat.lt_of_lt_of_le r.lt x.n,fun k hk=>cellAt_ext x hj (r.at_ k hk)⟩
theorem InstrHd.at0 {fr0:Fr}{H:Heap}{r m b xb rb c:Nat}{f:List (List UInt8)}{w:List UInt8}(x:InstrHd fr0 H r m b xb rb c f w) {h':Heap}(X:ExtB xb H h') :
  cellAt h' ⟨b,0,none⟩=some (.slice (some ⟨rb,0,none⟩) f.length c)∧cellAt h' ⟨rb,0,none⟩=some (.string ⟨w.toArray⟩)∧f.length≠0:=by
 have h0:=x.f0
 obtain⟨hl,he⟩:=List.getElem?_eq_some_iff.1 h0
 have h1:=x.rf.at_ 0 hl
 rw[he]at h1
 exact⟨cellAt_ext X x.bx x.cb,cellAt_ext X x.rx h1,by omega⟩
theorem quietG {fr0:Fr}{H:Heap}{r m b xb rb c ix:Nat}{f:List (List UInt8)}{w:List UInt8}{o:UInt8}{s:ByteArray}(x:InstrHd fr0 H r m b xb rb c f w) (he:entAt shapesE ix=some (.int .u8 (o.toNat:Int),.agg ⟨[.string s]⟩)) (hw:w≠(opT o.toNat).1) :
  roundW instrB 74 ⟨hdO 22 (some 23),[],22,r,m,shapesE,8⟩ fr0 H (.int .u8 (o.toNat:Int),.agg ⟨[.string s]⟩,ix) fun f3 h3=>QuietP ⟨hdO 22 (some 23),[],22,r,m,shapesE,8⟩ fr0 H (f3,h3):=by
 refine roundW_of (by decide) ?_
 have g1:=getK_of x.g1
 have g22:=getK_of x.g22
 have xr:=x.xr
 obtain⟨cb,ca,hl⟩:=x.at0 (ext_blk (H:=H) (r:=r) (Blk.mcur m ix 8) (by omega))
 have hne:¬((⟨(opT o.toNat).1.toArray⟩:ByteArray)=⟨w.toArray⟩):=fun e=>hw (str_inj.1 e).symm
 show opsW env r80_2 _ _ _
 simp -dsimp only[↓WB,↓W80,WP,newBlk_n,Nat.reduceEqDiff,Nat.reduceAdd,↓opW_entry,↓g1,↓g22]
 refine ent_cur (es:=shapesE) (p:=(.int .u8 (o.toNat:Int),.agg ⟨[.string s]⟩)) (by exact T.get_set_same _ _ _) (by rw[get_setBlk_ne x.hmr];exact x.hm) x.hmn he ?_
 simp -dsimp only[↓WB,↓W80,WP,newBlk_n,Nat.reduceEqDiff,Nat.reduceAdd,↓opW_entry,↓g1,↓g22]
 refine shapeF_ret ?_
 unfold strV
 (with_reducible repeat' (first|refine y4 ?_ (by omega) (by omega)|simp -dsimp only[↓WB,↓W80,WP,newBlk_n,Nat.reduceEqDiff,Nat.reduceAdd,↓opW_entry,↓g1,↓g22,cb,ca,Nat.zero_add,Nat.zero_mul,hne]))
 refine quietP_of (Nat.le_refl _) (fun i _ hir=>get_setBlk_ne hir) fun s v hv=>?_
 have hs:=x.hD s v hv
 repeat rw[T.get_set_ne _ _ (by omega)]
 exact hv
theorem wrapI (n:Int):IntKind.wrap .u8 n=((byteI n).toNat:Int):=by rw[byteI_toNat,IntKind.wrap_u8]
theorem sh8 (n:Int):n.fdiv (2 ^ min (Int.toNat 8) IntKind.i64.bits)=n.fdiv 256:=rfl
theorem specG {fr0:Fr}{H:Heap}{r m b xb rb c ix:Nat}{f:List (List UInt8)}{w:List UInt8}{o:UInt8}{s:ByteArray}{K:Fr→Heap→Prop}(x:InstrHd fr0 H r m b xb rb c f w) (he:entAt shapesE ix=some (.int .u8 (o.toNat:Int),.agg ⟨[.string s]⟩)) (hw:w=(opT o.toNat).1) (ho:o.toNat<8)
  (hx:Box H xb (insC 0 0 0 0) 125)
  (hK:∀ f3 H3,(∀ t,(t≤3∨(11≤t∧t≤22))→f3.get t=fr0.get t)→ExtB xb H H3→Box H3 xb (insC o (setsN f (opT o.toNat).2.1 (opT o.toNat).2.1.length).1 (setsN f (opT o.toNat).2.1 (opT o.toNat).2.1.length).2.1 (setsN f (opT o.toNat).2.1 (opT o.toNat).2.1.length).2.2) 125→(∀ i,i<H.n→i≠xb→i≠r→H3.b.get i=H.b.get i)→K f3 H3) :
  roundW instrB 74 ⟨hdO 22 (some 23),[],22,r,m,shapesE,8⟩ fr0 H (.int .u8 (o.toNat:Int),.agg ⟨[.string s]⟩,ix) K:=by
 refine roundW_of (by decide) ?_
 have g1:=getK_of x.g1
 have g2:=getK_of x.g2
 have g3:=getK_of x.g3
 have g22:=getK_of x.g22
 have xr:=x.xr
 have xm:=x.xm
 have rn:=x.rn
 have x5:=x.x5
 have X1:=ext_blk (B:=xb) (H:=H) (r:=r) (Blk.mcur m ix 8) (by omega)
 obtain⟨cb,ca,hl⟩:=x.at0 X1
 show opsW env r80_2 _ _ _
 simp -dsimp only[↓WB,↓W80,WP,newBlk_n,Nat.reduceEqDiff,Nat.reduceAdd,↓opW_entry,↓g1,↓g2,↓g3,↓g22]
 refine ent_cur (es:=shapesE) (p:=(.int .u8 (o.toNat:Int),.agg ⟨[.string s]⟩)) (by exact T.get_set_same _ _ _) (by rw[get_setBlk_ne x.hmr];exact x.hm) x.hmn he ?_
 simp -dsimp only[↓WB,↓W80,WP,newBlk_n,Nat.reduceEqDiff,Nat.reduceAdd,↓opW_entry,↓g1,↓g2,↓g3,↓g22]
 refine shapeF_ret ?_
 unfold strV
 subst hw
 (with_reducible repeat' (first|refine y4 ?_ (by omega) (by omega)|simp -dsimp only[↓WB,↓W80_0,↓W80_2,↓s80_49_w,↓W80_4,↓s80_53_w,↓W80_6,WP,newBlk_n,Nat.reduceEqDiff,Nat.reduceAdd,↓opW_entry,↓opW_range,↓g1,↓g2,↓g3,↓g22,cb,ca,Nat.zero_add,Nat.zero_mul,eq_self]))
 have hx1:Box (setBlk H r (Blk.mcur m ix 8)) xb (insC 0 0 0 0) 125:=⟨hx.lt,by rw[get_setBlk_ne (by omega)];exact hx.get⟩
 have ho1:∀ i,i≠r→(setBlk H r (Blk.mcur m ix 8)).b.get i=H.b.get i:=fun i hi=>get_setBlk_ne hi
 have hn1:(setBlk H r (Blk.mcur m ix 8)).n=H.n:=rfl
 generalize setBlk H r (Blk.mcur m ix 8)=H1 at hx1 hn1 ho1 X1 ⊢
 refine st_at (off:=0) (cs':=insC o 0 0 0) hx1.get rfl rfl rfl rfl (by decide) ?_
 have hx2:Box { H1 with b:=H1.b.set xb (.cells (insC o 0 0 0) 125 true) } xb (insC o 0 0 0) 125:=hx1.set
 have X2:ExtB xb H { H1 with b:=H1.b.set xb (.cells (insC o 0 0 0) 125 true) }:=X1.trans (ExtB.set _ (Nat.le_refl _))
 have ho2:∀ i,i≠xb→i≠r→({ H1 with b:=H1.b.set xb (.cells (insC o 0 0 0) 125 true) }:Heap).b.get i=H.b.get i:=fun i h1 h2=>(T.get_set_ne _ _ (Ne.symm h1)).trans (ho1 i h2)
 have hn2:({ H1 with b:=H1.b.set xb (.cells (insC o 0 0 0) 125 true) }:Heap).n=H.n:=hn1
 generalize ({ H1 with b:=H1.b.set xb (.cells (insC o 0 0 0) 125 true) }:Heap)=H2 at hx2 X2 ho2 hn2 ⊢
 have hchs:=opT_chars8 ho
 have hlen:=opT_len o.toNat
 generalize (opT o.toNat).2.1=nm at hchs hlen hK ⊢
 simp -dsimp only[↓WB,↓W80,WP,newBlk_n,Nat.reduceEqDiff,Nat.reduceAdd,↓opW_entry,↓opW_range,↓g1,↓g2,↓g3,↓g22]
 refine rng_str str9 ?_
 have hi3:(newBlk H2 (.siter ⟨nm.toArray⟩ 0)).b.get H.n=some (.siter ⟨nm.toArray⟩ 0):=by rw[← hn2];exact newBlk_same _ _
 have hx3:=hx2.ext (ExtB.new (B:=H2.n) (.siter ⟨nm.toArray⟩ 0) (Nat.le_refl _)) hx2.lt
 have X3:ExtB xb H (newBlk H2 (.siter ⟨nm.toArray⟩ 0)):=X2.trans (ExtB.new _ (by omega))
 have ho3:∀ i,i<H.n→i≠xb→i≠r→(newBlk H2 (.siter ⟨nm.toArray⟩ 0)).b.get i=H.b.get i:=fun i hi h1 h2=>by rw[newBlk_old _ (by omega)];exact ho2 i h1 h2
 have hn3:(newBlk H2 (.siter ⟨nm.toArray⟩ 0)).n=H.n+1:=by rw[newBlk_n,hn2]
 rw[hn2]
 generalize newBlk H2 (.siter ⟨nm.toArray⟩ 0)=H3 at hi3 hx3 X3 ho3 hn3 ⊢
 simp -dsimp only[↓WB,↓W80,WP,newBlk_n,Nat.reduceEqDiff,Nat.reduceAdd,↓opW_entry,↓opW_range,↓opW_next,↓g1,↓g2,↓g3,↓g22]
 refine cw_loopI (fun k fr' h'=>∃ j:Nat,j≤nm.length∧k=nm.length-j∧ExtB xb H h'∧(∀ i,i<H.n→i≠xb→i≠r→h'.b.get i=H.b.get i)∧H.n<h'.n∧h'.b.get H.n=some (.siter ⟨nm.toArray⟩ j)∧Box h' xb (insC o (setsN f nm j).1 (setsN f nm j).2.1 (setsN f nm j).2.2) 125) nm.length ?_ (by omega) ?_
 ·exact⟨0,by omega,by omega,X3,ho3,by omega,hi3,hx3⟩
 clear X3 X2 X1 hx3 hx2 hx1 ho3 ho2 ho1 hi3
 rintro k fr2 h5 ⟨j,hj,rfl,X5,ho5,n5,i5,B5⟩ hag
 have b1:=getK_eq (hag 1 rfl)
 have b2:=getK_eq (hag 2 rfl)
 have b3:=getK_eq (hag 3 rfl)
 have b41:=getK_eq (hag 41 rfl)
 by_cases hlt:j<nm.length
 ·have hch:=hchs _ (List.getElem_mem hlt)
  have hasc:nm[j].toNat<128:=by rcases hch with e|e|e|e|e<;>rw[e]<;>decide
  simp -dsimp only[↓WB,↓W80,WP,newBlk_n,Nat.reduceEqDiff,Nat.reduceAdd,↓opW_next,↓b1,↓b2,↓b3,↓b41,↓g1,↓g2,↓g3,↓g22]
  refine nxt_strA i5 hlt hasc ?_
  have X6:ExtB xb H { h5 with b:=h5.b.set H.n (.siter ⟨nm.toArray⟩ (j+1)) }:=X5.trans (ExtB.set _ (by omega))
  have i6:({ h5 with b:=h5.b.set H.n (.siter ⟨nm.toArray⟩ (j+1)) }:Heap).b.get H.n=some (.siter ⟨nm.toArray⟩ (j+1)):=T.get_set_same _ _ _
  have n6:({ h5 with b:=h5.b.set H.n (.siter ⟨nm.toArray⟩ (j+1)) }:Heap).n=h5.n:=rfl
  have o6:∀ i,i<H.n→i≠xb→i≠r→({ h5 with b:=h5.b.set H.n (.siter ⟨nm.toArray⟩ (j+1)) }:Heap).b.get i=H.b.get i:=fun i hi h1 h2=>(T.get_set_ne _ _ (by omega)).trans (ho5 i hi h1 h2)
  have B6:Box { h5 with b:=h5.b.set H.n (.siter ⟨nm.toArray⟩ (j+1)) } xb (insC o (setsN f nm j).1 (setsN f nm j).2.1 (setsN f nm j).2.2) 125:=B5.setOther (by omega)
  generalize ({ h5 with b:=h5.b.set H.n (.siter ⟨nm.toArray⟩ (j+1)) }:Heap)=h6 at X6 i6 n6 o6 B6 ⊢
  have w1:IntKind.wrap .i64 ((j:Int)+1)=((j+1:Nat):Int):=by rw[wrap_i64 (by omega) (by omega)];omega
  simp -dsimp only[↓WB,↓W80,WP,newBlk_n,Nat.reduceEqDiff,Nat.reduceAdd,↓opW_next,↓b1,↓b2,↓b3,↓b41,↓g1,↓g2,↓g3,↓g22,w1]
  refine num109_ret (i:=j+1) (x.gk.ext x5 X6) (x.at0 X6).1 (x.rf.extB X6 x.rx) x.fs fun h7 X7=>?_
  have n7:=X7.n
  have X67:ExtB xb H h7:=X6.trans (X7.mono (by omega))
  have i7:h7.b.get H.n=some (.siter ⟨nm.toArray⟩ (j+1)):=by rw[X7.get _ (by omega)];exact i6
  have o7:∀ i,i<H.n→i≠xb→i≠r→h7.b.get i=H.b.get i:=fun i hi h1 h2=>(X7.get i (by omega)).trans (o6 i hi h1 h2)
  have B7:=B6.ext X7 B6.lt
  have ks:setsN f nm (j+1)=putN (numF f (j+1)) (setsN f nm j) nm[j]:=by
   rw[setsN];congr 1
   rw[List.getD_eq_getElem?_getD,List.getElem?_eq_getElem hlt];rfl
  generalize setsN f nm j=s0 at B7 ks
  generalize numF f (j+1)=nn at ks ⊢
  obtain⟨s1,s2,s3⟩:=s0
  have fin:∀ (h8:Heap) (s':UInt8×UInt8×UInt8),setsN f nm (j+1)=s'→ExtB xb H h8→h8.n=h7.n→(∀ i,i≠xb→h8.b.get i=h7.b.get i)→Box h8 xb (insC o s'.1 s'.2.1 s'.2.2) 125 →
    ∃ m',m'<nm.length-j∧∃ j',j'≤nm.length∧m'=nm.length-j'∧ExtB xb H h8∧(∀ i,i<H.n→i≠xb→i≠r→h8.b.get i=H.b.get i)∧H.n<h8.n∧h8.b.get H.n=some (.siter ⟨nm.toArray⟩ j')∧Box h8 xb (insC o (setsN f nm j').1 (setsN f nm j').2.1 (setsN f nm j').2.2) 125 :=
   fun h8 s' e X n8 g8 bx=>⟨nm.length-(j+1),by omega,j+1,by omega,rfl,X,fun i hi h1 h2=>(g8 i h1).trans (o7 i hi h1 h2),by omega,by rw[g8 _ (by omega)];exact i7,by rw[e];exact bx⟩
  have st1:∀ cs,Box { h7 with b:=h7.b.set xb (.cells cs 125 true) } xb cs 125:=fun cs=>B7.set
  have sx1:∀ k,ExtB xb H { h7 with b:=h7.b.set xb k }:=fun k=>X67.trans (ExtB.set _ (Nat.le_refl _))
  have sg1:∀ k i,i≠xb→({ h7 with b:=h7.b.set xb k }:Heap).b.get i=h7.b.get i:=fun k i hi=>T.get_set_ne _ _ (Ne.symm hi)
  rcases hch with e|e|e|e|e
  ·have e':(nm[j].toNat:Int)=97:=by rw[e];rfl
   rw[e,putN,if_pos rfl]at ks
   simp -dsimp only[↓WB,↓W80,WP,newBlk_n,Nat.reduceEqDiff,Nat.reduceAdd,↓opW_next,↓b1,↓b2,↓b3,↓b41,↓g1,↓g2,↓g3,↓g22,e',wrapI,sh8]
   refine st_at (cs':=insC o (byteI nn) s2 s3) B7.get rfl rfl rfl rfl (by decide) ?_
   simp -dsimp only[↓WB,↓W80,WP,newBlk_n,Nat.reduceEqDiff,Nat.reduceAdd,↓opW_next,↓b1,↓b2,↓b3,↓b41,↓g1,↓g2,↓g3,↓g22,e',wrapI,sh8]
   exact fin _ _ ks (sx1 _) rfl (sg1 _) (st1 _)
  ·have e':(nm[j].toNat:Int)=98:=by rw[e];rfl
   rw[e,putN,if_neg (by decide),if_pos rfl]at ks
   (with_reducible repeat' (first|refine y2 ?_ (by omega)|simp -dsimp only[↓WB,↓W80,WP,newBlk_n,Nat.reduceEqDiff,Nat.reduceAdd,↓opW_next,↓b1,↓b2,↓b3,↓b41,↓g1,↓g2,↓g3,↓g22,e',wrapI,sh8]))
   refine st_at (cs':=insC o s1 (byteI nn) s3) B7.get rfl rfl rfl rfl (by decide) ?_
   simp -dsimp only[↓WB,↓W80,WP,newBlk_n,Nat.reduceEqDiff,Nat.reduceAdd,↓opW_next,↓b1,↓b2,↓b3,↓b41,↓g1,↓g2,↓g3,↓g22,e',wrapI,sh8]
   exact fin _ _ ks (sx1 _) rfl (sg1 _) (st1 _)
  ·have e':(nm[j].toNat:Int)=99:=by rw[e];rfl
   rw[e,putN,if_neg (by decide),if_neg (by decide),if_pos rfl]at ks
   (with_reducible repeat' (first|refine y2 ?_ (by omega)|simp -dsimp only[↓WB,↓W80,WP,newBlk_n,Nat.reduceEqDiff,Nat.reduceAdd,↓opW_next,↓b1,↓b2,↓b3,↓b41,↓g1,↓g2,↓g3,↓g22,e',wrapI,sh8]))
   refine st_at (cs':=insC o s1 s2 (byteI nn)) B7.get rfl rfl rfl rfl (by decide) ?_
   simp -dsimp only[↓WB,↓W80,WP,newBlk_n,Nat.reduceEqDiff,Nat.reduceAdd,↓opW_next,↓b1,↓b2,↓b3,↓b41,↓g1,↓g2,↓g3,↓g22,e',wrapI,sh8]
   exact fin _ _ ks (sx1 _) rfl (sg1 _) (st1 _)
  ·have e':(nm[j].toNat:Int)=110:=by rw[e];rfl
   rw[e,putN,if_neg (by decide),if_neg (by decide),if_neg (by decide)]at ks
   (with_reducible repeat' (first|refine y2 ?_ (by omega)|(refine And.intro ?_ ?_;(· omega))|simp -dsimp only[↓WB,↓W80,WP,newBlk_n,Nat.reduceEqDiff,Nat.reduceAdd,↓opW_next,↓b1,↓b2,↓b3,↓b41,↓g1,↓g2,↓g3,↓g22,e',wrapI,sh8]))
   refine st_at (cs':=insC o s1 (byteI (nn.fdiv 256)) s3) B7.get rfl rfl rfl rfl (by decide) ?_
   have C8:=st1 (insC o s1 (byteI (nn.fdiv 256)) s3)
   have X8:=sx1 (.cells (insC o s1 (byteI (nn.fdiv 256)) s3) 125 true)
   have G8:=sg1 (.cells (insC o s1 (byteI (nn.fdiv 256)) s3) 125 true)
   have n8:({ h7 with b:=h7.b.set xb (.cells (insC o s1 (byteI (nn.fdiv 256)) s3) 125 true) }:Heap).n=h7.n:=rfl
   generalize ({ h7 with b:=h7.b.set xb (.cells (insC o s1 (byteI (nn.fdiv 256)) s3) 125 true) }:Heap)=h8 at C8 X8 G8 n8 ⊢
   simp -dsimp only[↓WB,↓W80,WP,newBlk_n,Nat.reduceEqDiff,Nat.reduceAdd,↓opW_next,↓b1,↓b2,↓b3,↓b41,↓g1,↓g2,↓g3,↓g22,e',wrapI,sh8]
   refine st_at (cs':=insC o s1 (byteI (nn.fdiv 256)) (byteI nn)) C8.get rfl rfl rfl rfl (by decide) ?_
   simp -dsimp only[↓WB,↓W80,WP,newBlk_n,Nat.reduceEqDiff,Nat.reduceAdd,↓opW_next,↓b1,↓b2,↓b3,↓b41,↓g1,↓g2,↓g3,↓g22,e',wrapI,sh8]
   exact fin _ _ ks (X8.trans (ExtB.set _ (Nat.le_refl _))) n8 (fun i hi=>(T.get_set_ne _ _ (Ne.symm hi)).trans (G8 i hi)) C8.set
  ·have e':(nm[j].toNat:Int)=100:=by rw[e];rfl
   rw[e,putN,if_neg (by decide),if_neg (by decide),if_neg (by decide)]at ks
   (with_reducible repeat' (first|refine y2 ?_ (by omega)|(refine And.intro ?_ ?_;(· omega))|simp -dsimp only[↓WB,↓W80,WP,newBlk_n,Nat.reduceEqDiff,Nat.reduceAdd,↓opW_next,↓b1,↓b2,↓b3,↓b41,↓g1,↓g2,↓g3,↓g22,e',wrapI,sh8]))
   refine st_at (cs':=insC o s1 (byteI (nn.fdiv 256)) s3) B7.get rfl rfl rfl rfl (by decide) ?_
   have C8:=st1 (insC o s1 (byteI (nn.fdiv 256)) s3)
   have X8:=sx1 (.cells (insC o s1 (byteI (nn.fdiv 256)) s3) 125 true)
   have G8:=sg1 (.cells (insC o s1 (byteI (nn.fdiv 256)) s3) 125 true)
   have n8:({ h7 with b:=h7.b.set xb (.cells (insC o s1 (byteI (nn.fdiv 256)) s3) 125 true) }:Heap).n=h7.n:=rfl
   generalize ({ h7 with b:=h7.b.set xb (.cells (insC o s1 (byteI (nn.fdiv 256)) s3) 125 true) }:Heap)=h8 at C8 X8 G8 n8 ⊢
   simp -dsimp only[↓WB,↓W80,WP,newBlk_n,Nat.reduceEqDiff,Nat.reduceAdd,↓opW_next,↓b1,↓b2,↓b3,↓b41,↓g1,↓g2,↓g3,↓g22,e',wrapI,sh8]
   refine st_at (cs':=insC o s1 (byteI (nn.fdiv 256)) (byteI nn)) C8.get rfl rfl rfl rfl (by decide) ?_
   simp -dsimp only[↓WB,↓W80,WP,newBlk_n,Nat.reduceEqDiff,Nat.reduceAdd,↓opW_next,↓b1,↓b2,↓b3,↓b41,↓g1,↓g2,↓g3,↓g22,e',wrapI,sh8]
   exact fin _ _ ks (X8.trans (ExtB.set _ (Nat.le_refl _))) n8 (fun i hi=>(T.get_set_ne _ _ (Ne.symm hi)).trans (G8 i hi)) C8.set
 ·have hje:j=nm.length:=by omega
  subst hje
  simp -dsimp only[↓WB,↓W80,WP,newBlk_n,Nat.reduceEqDiff,Nat.reduceAdd,↓opW_next,↓b1,↓b2,↓b3,↓b41,↓g1,↓g2,↓g3,↓g22]
  refine nxt_strEnd i5 (by rw[str_size];omega) ?_
  simp -dsimp only[↓WB,↓W80,WP,newBlk_n,Nat.reduceEqDiff,Nat.reduceAdd,↓opW_next,↓b1,↓b2,↓b3,↓b41,↓g1,↓g2,↓g3,↓g22]
  refine hK _ _ (fun t ht=>?_) X5 B5 ho5
  have e1:fr2.get t=fr0.get t:=by
   have hw:s80_31.wr t=false:=by
    have key:∀ i:Fin 23,(i.1≤3∨11≤i.1)→s80_31.wr i.1=false:=by decide +kernel
    exact key ⟨t,by omega⟩ (by simp only;omega)
   rw[hag t hw]
   repeat rw[T.get_set_ne _ _ (by omega)]
  rw[← e1]
  repeat rw[T.get_set_ne _ _ (by omega)]
theorem eraseF_get {D:List Nat}{fr:Fr}:∀ {ts:List Nat}{t:Nat}{v:Value},(eraseF D fr ts).get t=some v→fr.get t=some v
 | [],t,v,h=>by simp[eraseF,T.get_leaf]at h
 | s::ts,t,v,h=>by
   simp only[eraseF]at h
   cases hc:D.any (Nat.beq s) with
   | true=>rw[hc]at h;exact eraseF_get (ts:=ts) h
   | false =>
     rw[hc,cond_false]at h
     split at h
     · rename_i u hu
       by_cases hst:s=t
       · subst hst;rw[T.get_set_same]at h;rw[hu,h]
       · rw[T.get_set_ne _ _ hst]at h;exact eraseF_get (ts:=ts) h
     · exact eraseF_get (ts:=ts) h
theorem keepF_of {fr0 f:Fr}{t:Nat}{u v:Value}(h0:fr0.get t=some u) (h1:f.get t=some v):∀ {ts:List Nat},t∈ts→(keepF fr0 f ts).get t=some v
 | s::ts,h=>by
   simp only[keepF]
   by_cases hst:s=t
   · subst hst;rw[h0,h1];exact T.get_set_same _ _ _
   · have hm:t∈ts:=by
       rcases List.mem_cons.1 h with h|h
       · exact absurd h.symm hst
       · exact h
     split
     · rw[T.get_set_ne _ _ hst];exact keepF_of h0 h1 hm
     · exact keepF_of h0 h1 hm
theorem keepF_src {fr0 f:Fr}:∀ {ts:List Nat}{t:Nat}{v:Value},(keepF fr0 f ts).get t=some v→∃ u,fr0.get t=some u
 | [],t,v,h=>by simp[keepF,T.get_leaf]at h
 | s::ts,t,v,h=>by
   simp only[keepF]at h
   split at h
   · rename_i u u' h0 h1
     by_cases hst:s=t
     · subst hst;exact⟨_,h0⟩
     · rw[T.get_set_ne _ _ hst]at h;exact keepF_src (ts:=ts) h
   · exact keepF_src (ts:=ts) h
theorem wordAt_none {w:ByteArray}:∀ {l:List (List UInt8)}{n:Nat},(∀ x∈l,w≠⟨x.toArray⟩)→wordAt w l n=none
 | [],_,_=>rfl
 | x::l,n,h=>by
   have:eqStr w ⟨x.toArray⟩=false:=by
     cases hc:eqStr w ⟨x.toArray⟩ with
     | true=>exact absurd (eqStr_true hc) (h x List.mem_cons_self)
     | false=>rfl
   rw[wordAt,this,cond_false]
   exact wordAt_none fun y hy=>h y (List.mem_cons_of_mem _ hy)
theorem opWords_eq:opWords=(List.range 8).map fun o=>(opT o).1:=by decide +kernel
theorem opOf_cases (w:List UInt8):(∃ o,o<8∧w=(opT o).1∧opOf w=some o)∨((∀ o,o<8→w≠(opT o).1)∧opOf w=none):=by
 cases h:opOf w with
 | none =>
   refine .inr ⟨fun o ho e=>?_,rfl⟩
   rw[e,opOf_word ho]at h;cases h
 | some o =>
   have h1:=List.find?_some h
   have h2:=List.mem_of_find?_eq_some h
   exact .inl ⟨o,List.mem_range.1 h2,(of_decide_eq_true h1).symm,rfl⟩
theorem wordAt_op {o:Nat}(ho:o<8):wordAt ⟨(opT o).1.toArray⟩ opWords 0=some o:=by
 have key:∀ i:Fin 8,wordAt ⟨(opT i.1).1.toArray⟩ opWords 0=some i.1:=by decide +kernel
 exact key ⟨o,ho⟩
theorem wordAt_no {w:List UInt8}(h:∀ o,o<8→w≠(opT o).1):wordAt ⟨w.toArray⟩ opWords 0=none:=by
 refine wordAt_none fun x hx e=>?_
 rw[opWords_eq]at hx
 obtain⟨o,ho,rfl⟩:=List.mem_map.1 hx
 exact h o (List.mem_range.1 ho) (str_inj.1 e)
def shpS (o:Nat):ByteArray:=match shapesE[o]? with
 | some (_,.agg ⟨[.string s]⟩,_)=>s
 | _=>⟨#[]⟩
theorem shapesE_at {o:Nat}(ho:o<8):∃ h:o<shapesE.length,shapesE[o]=(.int .u8 ((UInt8.ofNat o).toNat:Int),.agg ⟨[.string (shpS o)]⟩,o):=by
 refine⟨ho,?_⟩
 rcases o with _|_|_|_|_|_|_|_|o
 all_goals first
  | rfl
  | omega
theorem entAt_o {o:Nat}(ho:o<8):entAt shapesE o=some (.int .u8 ((UInt8.ofNat o).toNat:Int),.agg ⟨[.string (shpS o)]⟩):=by
 rcases o with _|_|_|_|_|_|_|_|o
 all_goals first
  | rfl
  | omega
theorem findE_o {o:Nat}(ho:o<8):findE o shapesE=some (.int .u8 ((UInt8.ofNat o).toNat:Int),.agg ⟨[.string (shpS o)]⟩,o):=by
 rcases o with _|_|_|_|_|_|_|_|o
 all_goals first
  | rfl
  | omega
theorem u8_lit {o:Nat}(ho:o<8):(UInt8.ofNat o).toNat=o:=by simp;omega
theorem instr_end {fr0:Fr}{H:Heap}{r m:Nat}{Q:Ex→Fr→Heap→Prop}(q:Q (.exit 0) ((fr0.set 23 (.tuple #[.bool false])).set 24 (.bool false)) (setBlk H r .dead)):endW instrB 74 ⟨hdO 22 (some 23),[],22,r,m,shapesE,8⟩ fr0 H Q:=by
 refine endW_of (by decide) ?_
 show opsW env r80_2 _ _ _
 simp -dsimp only[↓WB,↓W80,WP,newBlk_n,Nat.reduceEqDiff,Nat.reduceAdd]
 exact⟨by simp,q⟩
theorem quiet_all {fr0:Fr}{H:Heap}{r m b xb rb c:Nat}{f:List (List UInt8)}{w:List UInt8}{sp:Option Nat}(x:InstrHd fr0 H r m b xb rb c f w) (hs:∀ k,k<8→sp≠some k→w≠(opT k).1):quietW instrB 74 ⟨hdO 22 (some 23),[],22,r,m,shapesE,8⟩ sp fr0 H:=by
 intro e he hne
 obtain⟨o,ho,rfl⟩:=List.getElem_of_mem he
 have ho8:o<8:=ho
 obtain⟨_,e⟩:=shapesE_at ho8
 rw[e]at hne ⊢
 refine quietG x (entAt_o ho8) ?_
 rw[u8_lit ho8]
 exact hs o ho8 hne
theorem instr_range {fr:Fr}{H:Heap}{r m b xb rb c:Nat}{f:List (List UInt8)}{w:List UInt8}{D:List Nat}{Q:Ex→Fr→Heap→Prop}(x:InstrHd (eraseF D fr (List.range 74)) H r m b xb rb c f w) (hx:Box H xb (insC 0 0 0 0) 125)
  (f22:fr.get 22=some (.pointer (some ⟨r,0,none⟩))) (f1:fr.get 1=some (.pointer (some ⟨b,0,none⟩))) (hr:H.b.get r=some (.miter (some m) 8 [] 8))
  (q:∀ fr' H',ExtB xb H H'→fr'.get 2=some (.pointer (some ⟨xb,0,none⟩))→Box H' xb (match opOf w with|none=>insC 0 0 0 0|some o=>insC (UInt8.ofNat o) (setsN f (opT o).2.1 (opT o).2.1.length).1 (setsN f (opT o).2.1 (opT o).2.1.length).2.1 (setsN f (opT o).2.1 (opT o).2.1.length).2.2) 125→Q (.exit 0) fr' H') :
  (GC.mloop 22 (some 23) r80_2 s80_48 D).wp env 74 none fr H Q:=by
 obtain⟨c1,c2,hl⟩:=x.at0 (ExtB.refl _ _)
 have h8:Nat.beq shapesE.length 8=true:=rfl
 have ho:env.orc shapesE fr H=some (wordAt ⟨w.toArray⟩ opWords 0):=by
  show orcS shapesE fr H=_
  simp only[orcS,h8,cond_true,f1,c1,c2]
 have xr:=x.xr
 have xm:=x.xm
 have hdead:∀ {H':Heap}(bx:List Value),Box H' xb bx 125→Box (setBlk H' r .dead) xb bx 125:=fun bx h=>⟨h.lt,by rw[get_setBlk_ne (by omega)];exact h.get⟩
 rcases opOf_cases w with ⟨o,ho8,hw,hof⟩|⟨hno,hof⟩
 ·rw[hof]at q
  subst hw
  rw[wordAt_op ho8]at ho
  refine cw_mloop f22 hr x.hm x.rn x.hmn (Ne.symm x.hmr) (by decide) ho ⟨?_,?_,_,findE_o ho8,?_⟩
  ·simp only[atR,x.g22,Nat.beq_refl]
  ·refine quiet_all x fun k hk hne e=>hne ?_
   have h1:=opOf_word ho8
   rw[e,opOf_word hk]at h1
   exact h1.symm
  have hw8:(opT o).1=(opT (UInt8.ofNat o).toNat).1:=by rw[u8_lit ho8]
  refine specG x (entAt_o ho8) hw8 (by rw[u8_lit ho8];exact ho8) hx fun f3 H3 hf X3 B3 o3=>?_
  rw[u8_lit ho8]at B3
  have n3:=X3.n
  have hkeep:∀ t v,(eraseF D fr (List.range 74)).get t=some v→(keepF (eraseF D fr (List.range 74)) f3 (List.range 74)).get t=some v:=fun t v hv=>by
   have ht:=x.hD t v hv
   exact keepF_of hv (by rw[hf t ht];exact hv) (List.mem_range.2 (by omega))
  have hm3:H3.b.get m=H.b.get m:=o3 m x.hmn (by omega) x.hmr
  have x3:InstrHd (keepF (eraseF D fr (List.range 74)) f3 (List.range 74)) H3 r m b xb rb c f (opT o).1 :=
   ⟨hkeep _ _ x.g1,hkeep _ _ x.g2,hkeep _ _ x.g3,hkeep _ _ x.g22,by rw[hm3];exact x.hm,Nat.lt_of_lt_of_le x.hmn n3,x.hmr,cellAt_ext X3 x.bx x.cb,x.rf.extB X3 x.rx,x.gk.ext x.x5 X3,x.f0,x.fs,x.bx,x.rx,x.x5,x.xr,x.xm,Nat.lt_of_lt_of_le x.rn n3,fun t v hv=>let ⟨u,hu⟩:=keepF_src hv;x.hD t u hu⟩
  refine⟨n3,hm3,?_,?_,instr_end ?_⟩
  ·simp only[atR,x3.g22,Nat.beq_refl]
  ·refine quiet_all x3 fun k hk hne e=>hne ?_
   have h1:=opOf_word ho8
   rw[e,opOf_word hk]at h1
   exact h1.symm
  ·refine q _ _ (X3.trans (ext_blk _ (by omega))) ?_ (hdead _ B3)
   rw[T.get_set_ne _ _ (by decide),T.get_set_ne _ _ (by decide)]
   exact x3.g2
 ·rw[hof]at q
  rw[wordAt_no hno]at ho
  refine cw_mloop f22 hr x.hm x.rn x.hmn (Ne.symm x.hmr) (by decide) ho ⟨?_,?_,instr_end ?_⟩
  ·simp only[atR,x.g22,Nat.beq_refl]
  ·exact quiet_all x fun k hk _=>hno k hk
  ·refine q _ _ (ext_blk _ (by omega)) ?_ (hdead _ hx)
   rw[T.get_set_ne _ _ (by decide),T.get_set_ne _ _ (by decide)]
   exact x.g2
theorem map158:isMapT env 158=true:=by kernel_rfl
theorem byteIA (n:Int):byteI (16+((byteI n).toNat:Int))=byteI (16+n):=byteI_eq (by rw[byteI_toNat,byteI_toNat];omega)
theorem instr_ret {rb c:Nat}{f:List (List UInt8)}{h:Heap}{K:Value→Heap→Prop}(gk:GOk h) (r:RdT h rb f) (hl:f.length≠0) (hs:∀ w∈f,w.length≤1000000)
  (hK:∀ h',ExtB h.n h h'→K (.agg ⟨[.int .u8 ((instrP f).1.toNat:Int),.int .u8 ((instrP f).2.1.toNat:Int),.int .u8 ((instrP f).2.2.1.toNat:Int),.int .u8 ((instrP f).2.2.2.toNat:Int)]⟩) h'):Ret env (.func 80) [.slice (some ⟨rb,0,none⟩) f.length c] h K:=by
 have gn:=gk.n
 have rlt:=r.lt
 obtain⟨w,f',rfl⟩:∃ w f',f=w::f':=by
  cases f with
  | nil=>exact absurd rfl hl
  | cons w f'=>exact⟨w,f',rfl⟩
 have ra:=r.at_ 0 (by simp)
 simp only[List.getElem_cons_zero]at ra
 have hn:(w::f').length=f'.length+1:=rfl
 refine F80 rfl ?_
 simp -dsimp only[↓WB,↓W80_0,↓s80_35_w,↓W80_2,↓s80_49_w,↓W80_4,↓W80_6,WP,newBlk_n,Nat.reduceEqDiff,Nat.reduceAdd]
 have X1:ExtB h.n h (newBlk h (.cells [.slice (some ⟨rb,0,none⟩) (w::f').length c] 65 true)):=ExtB.new _ (Nat.le_refl _)
 have c1:cellAt (newBlk h (.cells [.slice (some ⟨rb,0,none⟩) (w::f').length c] 65 true)) ⟨h.n,0,none⟩=some (.slice (some ⟨rb,0,none⟩) (w::f').length c):=cellAt_newE.trans rfl
 have n1:(newBlk h (.cells [.slice (some ⟨rb,0,none⟩) (w::f').length c] 65 true)).n=h.n+1:=rfl
 generalize newBlk h (.cells [.slice (some ⟨rb,0,none⟩) (w::f').length c] 65 true)=h1 at X1 c1 n1 ⊢
 have X2:ExtB h1.n h1 (newBlk h1 (.cells [.int .u8 0,.int .u8 0,.int .u8 0,.int .u8 0] 125 true)):=ExtB.new _ (Nat.le_refl _)
 have B2:=Box.new h1 [.int .u8 0,.int .u8 0,.int .u8 0,.int .u8 0] 125
 have n2:(newBlk h1 (.cells [.int .u8 0,.int .u8 0,.int .u8 0,.int .u8 0] 125 true)).n=h.n+2:=by show h1.n+1=_;omega
 rw[n1]at B2 ⊢
 generalize newBlk h1 (.cells [.int .u8 0,.int .u8 0,.int .u8 0,.int .u8 0] 125 true)=h2 at X2 B2 n2 ⊢
 have X02:ExtB h.n h h2:=X1.trans (X2.mono (by omega))
 have c2:=cellAt_ext X2 (by omega) c1
 have r2:=r.ext X02
 have ra2:=cellAt_ext X02 rlt ra
 unfold strV at ra2
 have gk2:=gk.ext (B:=h.n) gn X02
 by_cases hc:w=callW
 ·have e:((⟨w.toArray⟩:ByteArray)=⟨⟨[99,97,108,108]⟩⟩)=True:=eq_true (by rw[hc];rfl)
  have hi:instrP (w::f')=(byteI (16+numF (w::f') 1),0,0,0):=by unfold instrP;rw[if_pos (by rw[hc];rfl)]
  rw[hi]at hK
  (with_reducible repeat' (first|refine y4 ?_ (by omega) (by omega)|simp -dsimp only[↓WB,↓W80_0,↓s80_35_w,↓W80_2,↓s80_49_w,↓W80_4,↓W80_6,WP,newBlk_n,Nat.reduceEqDiff,Nat.reduceAdd,c2,ra2,e,Nat.zero_add,Nat.zero_mul]))
  refine num109_ret (i:=1) gk2 c2 r2 hs fun h3 X3=>?_
  have n3:=X3.n
  have B3:=B2.ext X3 B2.lt
  (with_reducible repeat' (first|(refine y9 ?_ (by with_unfolding_all (simp only[fillL_cons,fillL_nil,nth_eq,blt_eq,cond_beq,over,Value.cells,List.getElem?_cons_zero,List.getElem?_cons_succ,List.length_cons,List.length_nil,Nat.reduceAdd,Nat.reduceSub,Nat.reduceLT,Nat.reduceEqDiff,decide_true,cond_true,Option.map_some,if_true,if_false,Nat.add_one_sub_one,Nat.succ_ne_zero,reduceCtorEq,OfNat.ofNat];rfl)))|simp -dsimp only[↓WB,↓W80_0,↓s80_35_w,↓W80_2,↓s80_49_w,↓W80_4,↓W80_6,WP,newBlk_n,Nat.reduceEqDiff,Nat.reduceAdd,wrapI,byteIA]))
  refine st_at (cs':=insC (byteI (16+numF (w::f') 1)) 0 0 0) B3.get rfl rfl rfl rfl (by decide) ?_
  have B4:=B3.set (cs':=insC (byteI (16+numF (w::f') 1)) 0 0 0)
  have X4:ExtB h.n h3 { h3 with b:=h3.b.set (h.n+1) (.cells (insC (byteI (16+numF (w::f') 1)) 0 0 0) 125 true) }:=ExtB.set _ (by omega)
  generalize ({ h3 with b:=h3.b.set (h.n+1) (.cells (insC (byteI (16+numF (w::f') 1)) 0 0 0) 125 true) }:Heap)=h4 at B4 X4 ⊢
  have d4:cellsAt h4 ⟨h.n+1,0,none⟩ 4=some [.int .u8 ((byteI (16+numF (w::f') 1)).toNat:Int),.int .u8 ((0:UInt8).toNat:Int),.int .u8 ((0:UInt8).toNat:Int),.int .u8 ((0:UInt8).toNat:Int)]:=cellsAt_blk B4.lt B4.get rfl rfl
  simp -dsimp only[↓WB,↓W80_0,↓s80_35_w,↓W80_2,↓s80_49_w,↓W80_4,↓W80_6,WP,newBlk_n,Nat.reduceEqDiff,Nat.reduceAdd,d4]
  exact hK _ ((X02.trans (X3.mono (by omega))).trans X4)
 ·have e:¬((⟨w.toArray⟩:ByteArray)=⟨⟨[99,97,108,108]⟩⟩):=fun e=>hc (str_inj.1 e)
  (with_reducible repeat' (first|refine y4 ?_ (by omega) (by omega)|simp -dsimp only[↓WB,↓W80_0,↓s80_35_w,↓W80_2,↓W80_4,↓s80_53_w,↓W80_6,WP,newBlk_n,Nat.reduceEqDiff,Nat.reduceAdd,c2,ra2,e,Nat.zero_add,Nat.zero_mul]))
  refine shapes_ret ?_
  have X3:ExtB h2.n h2 (newBlk h2 (.map shapesE 8)):=ExtB.new _ (Nat.le_refl _)
  have m3:(newBlk h2 (.map shapesE 8)).b.get h2.n=some (.map shapesE 8):=newBlk_same _ _
  have n3:(newBlk h2 (.map shapesE 8)).n=h2.n+1:=rfl
  generalize newBlk h2 (.map shapesE 8)=h3 at X3 m3 n3 ⊢
  simp -dsimp only[↓WB,↓W80_0,↓s80_35_w,↓W80_2,↓W80_4,↓s80_53_w,↓W80_6,WP,newBlk_n,Nat.reduceEqDiff,Nat.reduceAdd,↓opW_range]
  refine rng_map map158 m3 (by omega) ?_
  have X4:ExtB h3.n h3 (newBlk h3 (.miter (some h2.n) 8 [] 8)):=ExtB.new _ (Nat.le_refl _)
  have m4:(newBlk h3 (.miter (some h2.n) 8 [] 8)).b.get h3.n=some (.miter (some h2.n) 8 [] 8):=newBlk_same _ _
  have n4:(newBlk h3 (.miter (some h2.n) 8 [] 8)).n=h3.n+1:=rfl
  generalize newBlk h3 (.miter (some h2.n) 8 [] 8)=h4 at X4 m4 n4 ⊢
  have X24:ExtB h2.n h2 h4:=X3.trans (X4.mono (by omega))
  have X04:ExtB h.n h h4:=X02.trans (X24.mono (by omega))
  simp -dsimp only[↓WB,↓W80_0,↓s80_35_w,↓W80_2,↓W80_4,↓s80_53_w,↓W80_6,WP,newBlk_n,Nat.reduceEqDiff,Nat.reduceAdd,↓opW_range]
  rw[s80_49_w]
  refine instr_range (r:=h3.n) (m:=h2.n) (b:=h.n) (xb:=h.n+1) (rb:=rb) (c:=c) (f:=w::f') (w:=w) ?_ (B2.ext X24 B2.lt) ?_ ?_ m4 fun fr' h5 X5 g2 B5=>?_
  ·refine⟨eraseF_at (by simp[T.get_set]) (by decide) (by decide),eraseF_at (by simp[T.get_set]) (by decide) (by decide),eraseF_at (by simp[T.get_set]) (by decide) (by decide),eraseF_at (by simp[T.get_set]) (by decide) (by decide),by rw[X4.get _ (by omega)];exact m3,by omega,by omega,cellAt_ext X24 (by omega) c2,r.ext X04,gk.ext (B:=h.n) gn X04,rfl,hs,by omega,by omega,by omega,by omega,by omega,by omega,fun t v hv=>?_⟩
   have hv:=eraseF_get hv
   by_cases ht:t≤3∨(11≤t∧t≤22)
   ·exact ht
   ·exfalso
    repeat rw[T.get_set_ne _ _ (by omega)]at hv
    rw[T.get_leaf]at hv
    cases hv
  ·simp[T.get_set]
  ·simp[T.get_set]
  have k2:=getK_of g2
  have n5:=X5.n
  have hi:(instrP (w::f'))=match opOf w with|none=>(0,0,0,0)|some o=>(UInt8.ofNat o,setsN (w::f') (opT o).2.1 (opT o).2.1.length):=by
   unfold instrP
   rw[if_neg (by simpa using hc)];rfl
  have B6:Box h5 (h.n+1) (insC (instrP (w::f')).1 (instrP (w::f')).2.1 (instrP (w::f')).2.2.1 (instrP (w::f')).2.2.2) 125:=by
   rw[hi]
   cases ho:opOf w with
   | none=>rw[ho]at B5;exact B5
   | some o=>rw[ho]at B5;exact B5
  generalize instrP (w::f')=s at B6 hK
  have d6:cellsAt h5 ⟨h.n+1,0,none⟩ 4=some [.int .u8 (s.1.toNat:Int),.int .u8 (s.2.1.toNat:Int),.int .u8 (s.2.2.1.toNat:Int),.int .u8 (s.2.2.2.toNat:Int)]:=cellsAt_blk B6.lt B6.get rfl rfl
  simp -dsimp only[↓WB,↓W80_0,↓s80_35_w,↓W80_2,↓W80_4,↓s80_53_w,↓W80_6,WP,newBlk_n,Nat.reduceEqDiff,Nat.reduceAdd,↓k2,d6]
  refine st_at (cs':=insC s.1 s.2.1 s.2.2.1 s.2.2.2) B6.get rfl rfl rfl rfl (by decide) ?_
  have B7:=B6.set (cs':=insC s.1 s.2.1 s.2.2.1 s.2.2.2)
  have X7:ExtB h.n h5 { h5 with b:=h5.b.set (h.n+1) (.cells (insC s.1 s.2.1 s.2.2.1 s.2.2.2) 125 true) }:=ExtB.set _ (by omega)
  generalize ({ h5 with b:=h5.b.set (h.n+1) (.cells (insC s.1 s.2.1 s.2.2.1 s.2.2.2) 125 true) }:Heap)=h7 at B7 X7 ⊢
  have d7:cellsAt h7 ⟨h.n+1,0,none⟩ 4=some [.int .u8 (s.1.toNat:Int),.int .u8 (s.2.1.toNat:Int),.int .u8 (s.2.2.1.toNat:Int),.int .u8 (s.2.2.2.toNat:Int)]:=cellsAt_blk B7.lt B7.get rfl rfl
  simp -dsimp only[↓WB,↓W80_0,↓s80_35_w,↓W80_2,↓W80_4,↓s80_53_w,↓W80_6,WP,newBlk_n,Nat.reduceEqDiff,Nat.reduceAdd,↓k2,d7]
  exact hK _ ((X04.trans (X5.mono (by omega))).trans X7)
theorem toNat1:Int.toNat 1=1:=rfl
theorem split_rd {s:List UInt8}{c:UInt8}{h:Heap}{K:Value→Heap→Prop}(gk:GOk h) (hs:s.length<1000000)
  (hK:∀ h',ExtB h.n h h'→RdT h' h.n (spl c s)→K (.slice (some ⟨h.n,0,none⟩) (spl c s).length (spl c s).length) h'):Ret env (.func 40) [strV s,strV [c]] h K:=by
 refine split_ret gk.i hs (hK _ (ExtB.new _ (Nat.le_refl _)) ⟨Nat.lt_succ_self _,fun k hk=>?_⟩)
 refine cellAt_blk (Nat.lt_succ_self _) (newBlk_same _ _) ?_
 rw[List.getElem?_map,List.getElem?_eq_getElem hk];rfl
theorem linesK_succ {ls:List (List UInt8)}{k:Nat}(hk:k<ls.length):(ls.take (k+1)).flatMap lineB=(ls.take k).flatMap lineB++lineB ls[k]:=by
 rw[← List.take_append_getElem hk,List.flatMap_append];simp
theorem linesK_len (ls:List (List UInt8)) (k:Nat):((ls.take k).flatMap lineB).length≤(ls.flatMap lineB).length:=by
 have h:ls.flatMap lineB=(ls.take k).flatMap lineB++(ls.drop k).flatMap lineB:=by rw[← List.flatMap_append,List.take_append_drop]
 rw[h,List.length_append];omega
theorem OwnS.app {B:Nat}{h:Heap}{v y:Value}{l new:List UInt8}{K:Value→Heap→Prop}(o:OwnS B h 5 v l.length (l.map byteV)) (r:RdB h.n h y new) (hB:B≤h.n) (hn:l.length+new.length≤1000000)
  (k:∀ v' h',OwnS B h' 5 v' (l++new).length ((l++new).map byteV)→ExtB B h h'→K v' h'):appK 5 1 v y h K:=by
 obtain⟨a,c,rfl,q⟩:=id r
 refine app_ownG (m:=new.length) (new:=new.map byteV) o hB (by simp) rfl hn (fun h0=>r.first h0) (by simp) (bytes_one new) (by decide) fun v' h' O X=>k v' h' ?_ X
 rw[List.map_append,List.length_append];exact O
theorem codeOf_ret {s:List UInt8}{h:Heap}{K:Value→Heap→Prop}(gk:GOk h) (hs:s.length≤20000)
   (hK:∀ v e h',ExtB h.n h h'→OwnS h.n h' 5 v (codeOfP s).length ((codeOfP s).map byteV)→K (.tuple #[v,.int .i64 e]) h'):Ret env (.func 44) [strV s] h K:=by
 have gn:=gk.n
 have hol:=outP_len s
 refine F44 rfl ?_
 unfold strV
 simp -dsimp only[↓WB,↓W44_0,↓W44_2,↓s44_16_w,↓W44_4,WP,newBlk_n,Nat.reduceEqDiff,Nat.reduceAdd]
 refine split_rd (s:=s) (c:=10) gk (by omega) fun h1 X1 R1=>?_
 have hsl:=spl_len 10 s
 have hof:outP s=(spl 10 s).flatMap lineB:=rfl
 have hml:∀ l∈spl 10 s,l.length≤s.length:=fun l hl=>spl_mem_len hl
 have hol':((spl 10 s).flatMap lineB).length≤2*(s.length+1):=hof▸hol
 have n1:=X1.n
 have r1lt:=R1.lt
 generalize hls:spl 10 s=ls at R1 hsl hof hol' hml ⊢
 simp -dsimp only[↓WB,↓W44_0,↓W44_2,↓s44_16_w,↓W44_4,WP,newBlk_n,Nat.reduceEqDiff,Nat.reduceAdd]
 refine cw_loopI (fun m fr' h'=>∃ k v,k≤ls.length∧m=ls.length-k∧ExtB h1.n h1 h'∧fr'.get 11=some (.int .i64 k)∧fr'.get 4=some v∧OwnS h1.n h' 5 v ((ls.take k).flatMap lineB).length (((ls.take k).flatMap lineB).map byteV)) ls.length ?_ (by omega) ?_
 · exact⟨0,_,by omega,by omega,ExtB.refl _ _,by simp[T.get_set],by simp only[T.get_set];rfl,by simpa using OwnS.nil⟩
 rintro m fr2 h2 ⟨k,v,hk,rfl,X2,f11,f4,O2⟩ hag
 have e11:=getK_of f11
 have e4:=getK_of f4
 have b0:=getK_eq (hag 0 rfl)
 have b9:=getK_eq (hag 9 rfl)
 have b10:=getK_eq (hag 10 rfl)
 have n2:=X2.n
 have X02:ExtB h.n h h2:=X1.trans (X2.mono n1)
 have gk2:=gk.ext (B:=h.n) gn X02
 have R2:=R1.ext X2
 have lk:=linesK_len ls k
 by_cases hlt:k<ls.length
 · have cl:=R2.at_ k hlt
   have hll:=hml _ (List.getElem_mem hlt)
   have hsuc:=linesK_succ hlt
   have lk1:=linesK_len ls (k+1)
   have hlb:=lineB_len ls[k]
   generalize ls[k]=l at cl hll hsuc hlb
   unfold strV at cl
   have fin:∀ (fr':Fr) (v':Value) (h':Heap),ExtB h1.n h1 h'→fr'.get 11=some (.int .i64 (IntKind.wrap .i64 ((k:Int)+1)))→fr'.get 4=some v'→OwnS h1.n h' 5 v' ((ls.take k).flatMap lineB++lineB l).length (((ls.take k).flatMap lineB++lineB l).map byteV) →
       ∃ m',m'<ls.length-k∧∃ k' v'',k'≤ls.length∧m'=ls.length-k'∧ExtB h1.n h1 h'∧fr'.get 11=some (.int .i64 k')∧fr'.get 4=some v''∧OwnS h1.n h' 5 v'' ((ls.take k').flatMap lineB).length (((ls.take k').flatMap lineB).map byteV) :=
     fun fr' v' h' X g11 g4 O=>⟨ls.length-(k+1),by omega,k+1,v',by omega,rfl,X,by rw[g11,wrap_succ (show k≤4611686018427387904 by omega)],g4,by rw[hsuc];exact O⟩
   (with_reducible repeat' (first|refine y1 ?_ (by omega)|refine y4 ?_ (by omega) (by omega)|simp -dsimp only[↓WB,↓W44_0,↓W44_2,↓s44_16_w,↓W44_4,WP,newBlk_n,Nat.reduceEqDiff,Nat.reduceAdd,↓e11,↓e4,↓b0,↓b9,↓b10,Nat.mul_one,Nat.zero_add,cl]))
   refine split_rd (s:=l) (c:=32) gk2 (by omega) fun h3 X3 R3=>?_
   have n3:=X3.n
   have X13:ExtB h1.n h1 h3:=X2.trans (X3.mono (by omega))
   have gk3:=gk2.ext (B:=h2.n) gk2.n X3
   have O3:=O2.ext X3 (Nat.le_refl _)
   have hfl:=spl_len 32 l
   have hfm:∀ w∈spl 32 l,w.length≤l.length:=fun w hw=>spl_mem_len hw
   have hfn:=spl_ne 32 l
   by_cases h0:l=[]
   · have e0:((⟨l.toArray⟩:ByteArray)=⟨⟨[]⟩⟩)=True:=eq_true (by rw[h0])
     simp -dsimp only[↓WB,↓W44_0,↓W44_2,↓s44_16_w,↓W44_4,WP,newBlk_n,Nat.reduceEqDiff,Nat.reduceAdd,↓e11,↓e4,↓b0,↓b9,↓b10,e0]
     refine fin _ v _ X13 (by simp[T.get_set]) (by simp only[T.get_set];simpa using f4) ?_
     have:lineB l=[]:=by unfold lineB;rw[if_pos h0]
     rw[this,List.append_nil];exact O3
   have e0:¬((⟨l.toArray⟩:ByteArray)=⟨⟨[]⟩⟩):=fun e=>h0 (str_inj.1 e)
   obtain⟨w,f',hf⟩:∃ w f',spl 32 l=w::f':=by
     cases hc:spl 32 l with
     | nil=>exact absurd hc hfn
     | cons w f'=>exact⟨w,f',rfl⟩
   have c0:=R3.at_ 0 (by rw[hf];simp)
   simp only[hf,List.getElem_cons_zero]at c0
   unfold strV at c0
   have hfpos:0<(spl 32 l).length:=by rw[hf];simp
   by_cases hraw:w=rawW∧(spl 32 l).length=2
   · obtain⟨hw,h2l⟩:=hraw
     obtain⟨w2,rfl⟩:∃ w2,f'=[w2]:=by
       rw[hf]at h2l
       cases f' with
       | nil=>simp at h2l
       | cons w2 f''=>cases f'' with
         | nil=>exact⟨w2,rfl⟩
         | cons=>simp at h2l
     have c1:=R3.at_ 1 (by rw[hf];simp)
     simp only[hf,List.getElem_cons_succ,List.getElem_cons_zero]at c1
     unfold strV at c1
     have hw2:=hfm w2 (by rw[hf];simp)
     have ew:((⟨w.toArray⟩:ByteArray)=⟨⟨[114,97,119]⟩⟩)=True:=eq_true (by rw[hw];rfl)
     have hlB:lineB l=bytesP w2:=by
       unfold lineB
       rw[if_neg h0,hf,if_pos ⟨by rw[hw];rfl,rfl⟩];rfl
     rw[h2l]
     (with_reducible repeat' (first|refine y1 ?_ (by omega)|refine y4 ?_ (by omega) (by omega)|simp -dsimp only[↓WB,↓W44_0,↓W44_2,↓s44_16_w,↓W44_4,WP,newBlk_n,Nat.reduceEqDiff,Nat.reduceAdd,↓e11,↓e4,↓b0,↓b9,↓b10,e0,c0,ew,Nat.zero_add,Nat.mul_one,toNat1,c1]))
     refine bytesOf_ret (s:=w2) (by omega) fun v' h4 O4 X4=>?_
     have n4:=X4.n
     have hb2:=bytesP_len w2
     simp -dsimp only[↓WB,↓W44_0,↓W44_2,↓s44_16_w,↓W44_4,WP,newBlk_n,Nat.reduceEqDiff,Nat.reduceAdd,↓e11,↓e4,↓b0,↓b9,↓b10]
     refine OwnS.app (new:=bytesP w2) (O3.ext X4 (Nat.le_refl _)) (RdB.own O4) (by omega) (by omega) fun v5 h5 O5 X5=>?_
     simp -dsimp only[↓WB,↓W44_0,↓W44_2,↓s44_16_w,↓W44_4,WP,newBlk_n,Nat.reduceEqDiff,Nat.reduceAdd,↓e11,↓e4,↓b0,↓b9,↓b10]
     exact fin _ v5 _ ((X13.trans (X4.mono (by omega))).trans X5) (by simp[T.get_set]) (by simp[T.get_set]) (by rw[hlB];exact O5)
   · have hlB:lineB l=[(instrP (spl 32 l)).1,(instrP (spl 32 l)).2.1,(instrP (spl 32 l)).2.2.1,(instrP (spl 32 l)).2.2.2]:=by
       unfold lineB
       rw[if_neg h0,if_neg]
       rintro⟨q1,q2⟩
       rw[hf]at q1
       simp only[List.head?_cons,Option.some.injEq]at q1
       exact hraw ⟨q1,q2⟩
     generalize hsv:instrP (spl 32 l)=sv at hlB
     have step:∀ (fr':Fr),fr'.get 4=some v→fr'.get 7=some (.slice (some ⟨h2.n,0,none⟩) (spl 32 l).length (spl 32 l).length)→fr'.get 11=some (.int .i64 k)→s44_16.wp env 53 none fr' h3 (blockK 1 (seqK (s44_14.wp env 53 none) (loopK (fun fr' h'=>∃ m,m<ls.length-k∧∃ k v,k≤ls.length∧m=ls.length-k∧ExtB h1.n h1 h'∧fr'.get 11=some (.int .i64 k)∧fr'.get 4=some v∧OwnS h1.n h' 5 v ((ls.take k).flatMap lineB).length (((ls.take k).flatMap lineB).map byteV)) (blockK 0 (seqK (s44_12.wp env 53 none) (resK env [.tmp 2,.tmp 3] K)))))):=by
       intro fr' q4 q7 q11
       have p4:=getK_of q4
       have p7:=getK_of q7
       have p11:=getK_of q11
       have hl4:(lineB l).length=4:=by rw[hlB];rfl
       simp -dsimp only[↓WB,↓W44_0,↓W44_2,↓s44_16_w,↓W44_4,WP,newBlk_n,Nat.reduceEqDiff,Nat.reduceAdd,↓p4,↓p7,↓p11]
       refine instr_ret gk3 R3 (by omega) (fun w hw=>by have:=hfm w hw;omega) fun h4 X4=>?_
       have n4:=X4.n
       rw[hsv]
       (with_reducible repeat' (first|refine y8 ?_ (by with_unfolding_all rfl)|simp -dsimp only[↓WB,↓W44_0,↓W44_2,↓s44_16_w,↓W44_4,WP,newBlk_n,Nat.reduceEqDiff,Nat.reduceAdd,↓p4,↓p7,↓p11]))
       have X5:ExtB h4.n h4 (newBlk h4 (.cells (Value.agg ⟨[.int .u8 (sv.1.toNat:Int),.int .u8 (sv.2.1.toNat:Int),.int .u8 (sv.2.2.1.toNat:Int),.int .u8 (sv.2.2.2.toNat:Int)]⟩).cells.toList 125 true)):=ExtB.new _ (Nat.le_refl _)
       have c5:cellsAt (newBlk h4 (.cells (Value.agg ⟨[.int .u8 (sv.1.toNat:Int),.int .u8 (sv.2.1.toNat:Int),.int .u8 (sv.2.2.1.toNat:Int),.int .u8 (sv.2.2.2.toNat:Int)]⟩).cells.toList 125 true)) ⟨h4.n,0,none⟩ 4=some [.int .u8 (sv.1.toNat:Int),.int .u8 (sv.2.1.toNat:Int),.int .u8 (sv.2.2.1.toNat:Int),.int .u8 (sv.2.2.2.toNat:Int)]:=cellsAt_newE rfl
       have n5:(newBlk h4 (.cells (Value.agg ⟨[.int .u8 (sv.1.toNat:Int),.int .u8 (sv.2.1.toNat:Int),.int .u8 (sv.2.2.1.toNat:Int),.int .u8 (sv.2.2.2.toNat:Int)]⟩).cells.toList 125 true)).n=h4.n+1:=rfl
       generalize newBlk h4 (.cells (Value.agg ⟨[.int .u8 (sv.1.toNat:Int),.int .u8 (sv.2.1.toNat:Int),.int .u8 (sv.2.2.1.toNat:Int),.int .u8 (sv.2.2.2.toNat:Int)]⟩).cells.toList 125 true)=h5 at X5 c5 n5 ⊢
       refine bytes1_ret (by omega) c5 fun v6 h6 O6 X6=>?_
       have n6:=X6.n
       have X36:ExtB h3.n h3 h6:=(X4.trans (X5.mono n4)).trans (X6.mono (by omega))
       simp -dsimp only[↓WB,↓W44_0,↓W44_2,↓s44_16_w,↓W44_4,WP,newBlk_n,Nat.reduceEqDiff,Nat.reduceAdd,↓p4,↓p7,↓p11]
       refine OwnS.app (new:=lineB l) (O3.ext X36 (Nat.le_refl _)) (RdB.own (by rw[hlB];exact O6)) (by omega) (by omega) fun v7 h7 O7 X7=>?_
       simp -dsimp only[↓WB,↓W44_0,↓W44_2,↓s44_16_w,↓W44_4,WP,newBlk_n,Nat.reduceEqDiff,Nat.reduceAdd,↓p4,↓p7,↓p11]
       exact fin _ v7 _ ((X13.trans (X36.mono (by omega))).trans X7) (by simp[T.get_set]) (by simp[T.get_set]) O7
     by_cases hwr:w=rawW
     · have ew:((⟨w.toArray⟩:ByteArray)=⟨⟨[114,97,119]⟩⟩)=True:=eq_true (by rw[hwr];rfl)
       have h2l:¬(((spl 32 l).length:Int)=2):=fun e=>hraw ⟨hwr,by omega⟩
       (with_reducible repeat' (first|refine y4 ?_ (by omega) (by omega)|simp -dsimp only[↓WB,↓W44_0,↓W44_2,↓W44_4,WP,newBlk_n,Nat.reduceEqDiff,Nat.reduceAdd,↓e11,↓e4,↓b0,↓b9,↓b10,e0,c0,ew,Nat.zero_add,Nat.zero_mul,h2l]))
       exact step _ (by simp[T.get_set,f4]) (by simp[T.get_set]) (by simp[T.get_set,f11])
     · have ew:¬((⟨w.toArray⟩:ByteArray)=⟨⟨[114,97,119]⟩⟩):=fun e=>hwr (str_inj.1 e)
       (with_reducible repeat' (first|refine y4 ?_ (by omega) (by omega)|simp -dsimp only[↓WB,↓W44_0,↓W44_2,↓W44_4,WP,newBlk_n,Nat.reduceEqDiff,Nat.reduceAdd,↓e11,↓e4,↓b0,↓b9,↓b10,e0,c0,ew,Nat.zero_add,Nat.zero_mul]))
       exact step _ (by simp[T.get_set,f4]) (by simp[T.get_set]) (by simp[T.get_set,f11])
 · have hke:k=ls.length:=by omega
   subst hke
   rw[List.take_length,← hof]at O2
   have hp:(outP s).length≤50000:=by omega
   obtain⟨va,vc,ev⟩:=ownS_val O2
   subst ev
   (with_reducible repeat' (first|refine y2 ?_ (by omega)|simp -dsimp only[↓WB,↓W44,WP,newBlk_n,Nat.reduceEqDiff,Nat.reduceAdd,↓e11,↓e4,↓b0,↓b9,↓b10]))
   refine codeText_ret (B:=h2.n) (RdU.own O2) gk2 (Nat.le_refl _) hp fun h3 X3=>?_
   have X03:ExtB h.n h h3:=X02.trans (X3.mono (by omega))
   have O3:=(O2.ext X3 (Nat.le_refl _))
   by_cases ht:textP (outP s)=s
   · rw[ht]
     unfold strV
     by_cases hl:(outP s).length≤1024
     · have hc:codeOfP s=outP s:=by unfold codeOfP;rw[if_pos ⟨ht,hl⟩]
       rw[hc]at hK
       (with_reducible repeat' (first|refine y2 ?_ (by omega)|simp -dsimp only[↓WB,↓W44,WP,newBlk_n,Nat.reduceEqDiff,Nat.reduceAdd,↓e11,↓e4,↓b0,↓b9,↓b10]))
       exact hK _ _ _ X03 (ownS_mono O3 n1)
     · have hc:codeOfP s=[]:=by unfold codeOfP;rw[if_neg (fun h=>hl h.2)]
       rw[hc]at hK
       (with_reducible repeat' (first|refine y1 ?_ (by omega)|simp -dsimp only[↓WB,↓W44,WP,newBlk_n,Nat.reduceEqDiff,Nat.reduceAdd,↓e11,↓e4,↓b0,↓b9,↓b10]))
       exact hK _ _ _ X03 .nil
   · have hne:¬((⟨(textP (outP s)).toArray⟩:ByteArray)=⟨s.toArray⟩):=fun e=>ht (str_inj.1 e)
     have hc:codeOfP s=[]:=by unfold codeOfP;rw[if_neg (fun h=>ht h.1)]
     rw[hc]at hK
     unfold strV
     simp -dsimp only[↓WB,↓W44,WP,newBlk_n,Nat.reduceEqDiff,Nat.reduceAdd,↓e11,↓e4,↓b0,↓b9,↓b10,hne]
     exact hK _ _ _ X03 .nil
end Go.Proofs.YtohjaacnlmkhbaaGreatDoor
