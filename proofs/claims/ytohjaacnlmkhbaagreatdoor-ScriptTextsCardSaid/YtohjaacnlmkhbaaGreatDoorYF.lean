/- MAY A SCRIPT BE, both sides, walked. Conditions: none beyond each theorem's own. -/
import Derived.Test.YtohjaacnlmkhbaaGreatDoorWG
import Derived.Test.YtohjaacnlmkhbaaGreatDoorYC
set_option linter.unusedSimpArgs false
set_option linter.unusedVariables false
namespace Go.Proofs.YtohjaacnlmkhbaaGreatDoor
open Go.Ev
set_option maxRecDepth 100000
set_option maxHeartbeats 400000
def cLo (i:Nat):Int:=[1,2,1,1,1,3,3,2,1,1,1,1,1,1].getD i 1
def cHi (i:Nat):Int:=[8,32,64,32,32,512,32,16,256,64,4294967296,4294967296,4294967296,4294967296].getD i 1
def inB (c:Nat→Int) (i:Nat):Bool:=decide (cLo i≤c i)&&decide (c i≤cHi i)
def mayC (c:Nat→Int) (P:List (List UInt8)):Int :=
 if (List.range 14).all (inB c) then (if P.length<1∨16<P.length then 2 else if P.any (fun p=>decide (1024<p.length)) then 17 else 0) else 2
def actB (a:ActD):Bool:=decide (a.k=1) || (decide (a.k=2)&&decide (a.p=0)&&decide (a.v=0)&&decide (a.c=0))
def mayS (c:Nat→Int) (P:List (List UInt8)) (A:List ActD):Int :=
 if mayC c P≠0 then mayC c P else if A.all actB then (if 100000<A.length then 17 else 0) else 2
theorem lo_hi {i:Nat}(hi:i<14):0<cLo i∧cLo i≤cHi i∧cHi i≤4294967296:=by
 rcases i with _|_|_|_|_|_|_|_|_|_|_|_|_|_|i<;>first|decide|omega
theorem inB_clamp {c:Nat→Int}{k:Nat}(hk:k<14):(min (max (c k) (cLo k)) (cHi k)=c k)↔inB c k=true:=by
 have:=lo_hi hk
 simp only[inB,Bool.and_eq_true,decide_eq_true_eq]
 omega
theorem range14 {c:Nat→Int}:(List.range 14).all (inB c)=true↔∀ i,i<14→inB c i=true:=by
 simp[List.all_eq_true]
structure BndR (i:Nat) (l:List Value):Prop where
 len:l.length=56
 one:l.all oneCell=true
 row:∀ k,k<14→∃ nm:List UInt8,nm≠[]∧(l.drop (k*4)).take 4=[strV nm,.iface (ptT k) (.pointer (some ⟨i,k,none⟩)),.int .i64 (cLo k),.int .i64 (cHi k)]
theorem boundsR_ret {i:Nat}{h:Heap}{K:Value→Heap→Prop}(hK:∀ l h',ExtB h.n h h'→BndR i l→K (.agg ⟨l⟩) h'):Ret env (.func 59) [.pointer (some ⟨i,0,none⟩)] h K:=by
 refine F59 rfl ?_
 (with_reducible repeat' (first|(refine And.intro ?_ ?_;(· omega))|refine y7 ?_ (by with_unfolding_all rfl)|(refine y9 ?_ (by with_unfolding_all (simp only[fillL_cons,fillL_nil,nth_eq,blt_eq,cond_beq,over,Value.cells,List.getElem?_cons_zero,List.getElem?_cons_succ,List.length_cons,List.length_nil,Nat.reduceAdd,Nat.reduceSub,Nat.reduceLT,Nat.reduceEqDiff,decide_true,cond_true,Option.map_some,if_true,if_false,Nat.add_one_sub_one,Nat.succ_ne_zero,reduceCtorEq,OfNat.ofNat];rfl)))|refine ya ?_ (by with_unfolding_all rfl)|simp -dsimp only[↓WB,↓W59,WP,newBlk_n,Nat.reduceEqDiff,Nat.reduceAdd]))
 refine hK _ _ (ExtB.new _ (Nat.le_refl _)) ⟨rfl,rfl,fun k hk=>?_⟩
 rcases k with _|_|_|_|_|_|_|_|_|_|_|_|_|_|k
 all_goals first|exact⟨_,List.cons_ne_nil _ _,rfl⟩|omega
theorem over_set {x:Value}:∀ {cs:List Value}{k:Nat},k<cs.length→over cs k [x]=some (cs.set k x)
 | [],k,h=>by simp at h
 | c::cs,0,_=>by rw[over,cond_beq,if_pos rfl];cases cs<;>rfl
 | c::cs,k+1,h=>by
   rw[over,cond_beq,if_neg (by omega)]
   show (over cs k [x]).map (c::·)=_
   rw[over_set (by simpa using h)];rfl
theorem cfg_set {c:Nat→Int}{pv:Value}{k:Nat}(hk:k<14) {x:Value}(hx:(cfgL c pv)[k]?=some x):(cfgL c pv).set k x=cfgL c pv:=by
 apply List.ext_getElem?
 intro j
 rw[List.getElem?_set]
 split
 ·rename_i e;subst e
  rw[if_pos (by show k<15;omega),hx]
 ·rfl
theorem bringI_ret {i k:Nat}{c:Nat→Int}{pa:Option Addr}{pn pc:Nat}{lo hi:Int}{h:Heap}{K:Value→Heap→Prop}(b:Box h i (cfgL c (.slice pa pn pc)) 25) (hk:k<10) (hk14:k<14)
  (hK:K (.bool (decide (min (max (c k) lo) hi=c k))) { h with b:=h.b.set i (.cells ((cfgL c (.slice pa pn pc)).set k (.int .i64 (min (max (c k) lo) hi))) 25 true) }):Ret env (.func 130) [.pointer (some ⟨i,k,none⟩),.int .i64 lo,.int .i64 hi] h K:=by
 refine F130 rfl ?_
 have c1:cellAt h ⟨i,k,none⟩=some (.int .i64 (c k)):=b.at_ (by rw[cfg_at hk14];simp only[hk,if_true])
 simp -dsimp only[↓WB,↓W130,WP,newBlk_n,Nat.reduceEqDiff,Nat.reduceAdd,c1]
 refine st_at (cs':=(cfgL c (.slice pa pn pc)).set k (.int .i64 (min (max (c k) lo) hi))) b.get rfl rfl (over_set (by show k<15;omega)) rfl (by decide) ?_
 have b':Box { h with b:=h.b.set i (.cells ((cfgL c (.slice pa pn pc)).set k (.int .i64 (min (max (c k) lo) hi))) 25 true) } i ((cfgL c (.slice pa pn pc)).set k (.int .i64 (min (max (c k) lo) hi))) 25:=b.set
 have c2:=b'.at_ (j:=k) (v:=.int .i64 (min (max (c k) lo) hi)) (by rw[List.getElem?_set];simp only[if_true];rw[if_pos (by show k<15;omega)])
 by_cases he:min (max (c k) lo) hi=c k
 ·rw[decide_eq_true he]at hK
  (with_reducible repeat' (first|refine y1 ?_ (by omega)|simp -dsimp only[↓WB,↓W130,WP,newBlk_n,Nat.reduceEqDiff,Nat.reduceAdd,c2]))
  exact hK
 ·rw[decide_eq_false he]at hK
  (with_reducible repeat' (first|refine y2 ?_ (by omega)|simp -dsimp only[↓WB,↓W130,WP,newBlk_n,Nat.reduceEqDiff,Nat.reduceAdd,c2]))
  exact hK
theorem bringU_ret {i k:Nat}{c:Nat→Int}{pa:Option Addr}{pn pc:Nat}{lo hi:Int}{h:Heap}{K:Value→Heap→Prop}(b:Box h i (cfgL c (.slice pa pn pc)) 25) (hk:¬k<10) (hk14:k<14)
  (hK:K (.bool (decide (min (max (c k) lo) hi=c k))) { h with b:=h.b.set i (.cells ((cfgL c (.slice pa pn pc)).set k (.int .u64 (min (max (c k) lo) hi))) 25 true) }):Ret env (.func 131) [.pointer (some ⟨i,k,none⟩),.int .u64 lo,.int .u64 hi] h K:=by
 refine F131 rfl ?_
 have c1:cellAt h ⟨i,k,none⟩=some (.int .u64 (c k)):=b.at_ (by rw[cfg_at hk14];simp only[hk,if_false])
 simp -dsimp only[↓WB,↓W131,WP,newBlk_n,Nat.reduceEqDiff,Nat.reduceAdd,c1]
 refine st_at (cs':=(cfgL c (.slice pa pn pc)).set k (.int .u64 (min (max (c k) lo) hi))) b.get rfl rfl (over_set (by show k<15;omega)) rfl (by decide) ?_
 have b':Box { h with b:=h.b.set i (.cells ((cfgL c (.slice pa pn pc)).set k (.int .u64 (min (max (c k) lo) hi))) 25 true) } i ((cfgL c (.slice pa pn pc)).set k (.int .u64 (min (max (c k) lo) hi))) 25:=b.set
 have c2:=b'.at_ (j:=k) (v:=.int .u64 (min (max (c k) lo) hi)) (by rw[List.getElem?_set];simp only[if_true];rw[if_pos (by show k<15;omega)])
 by_cases he:min (max (c k) lo) hi=c k
 ·rw[decide_eq_true he]at hK
  (with_reducible repeat' (first|refine y1 ?_ (by omega)|simp -dsimp only[↓WB,↓W131,WP,newBlk_n,Nat.reduceEqDiff,Nat.reduceAdd,c2]))
  exact hK
 ·rw[decide_eq_false he]at hK
  (with_reducible repeat' (first|refine y2 ?_ (by omega)|simp -dsimp only[↓WB,↓W131,WP,newBlk_n,Nat.reduceEqDiff,Nat.reduceAdd,c2]))
  exact hK
theorem tas {t:TypeId}{z u:Value}{J:Value→Prop}:taK t z (.iface t u) J=J (.tuple #[u,.bool true]):=ta_same
theorem within_ret {B i k:Nat}{c:Nat→Int}{pa:Option Addr}{pn pc:Nat}{nm:List UInt8}{h:Heap}{K:Value→Heap→Prop}(b:Box h i (cfgL c (.slice pa pn pc)) 25) (hBi:B≤i) (hk14:k<14)
  (hK:∀ h',ExtB B h h'→(∀ j,j<h.n→j≠i→h'.b.get j=h.b.get j)→(inB c k=true→Box h' i (cfgL c (.slice pa pn pc)) 25)→K (.bool (inB c k)) h'):Ret env (.func 99) [.agg ⟨[strV nm,.iface (ptT k) (.pointer (some ⟨i,k,none⟩)),.int .i64 (cLo k),.int .i64 (cHi k)]⟩] h K:=by
 have hl:=lo_hi hk14
 have fin:∀ (kd:IntKind) (h1:Heap),ExtB h.n h h1→Box h1 i (cfgL c (.slice pa pn pc)) 25→(cfgL c (.slice pa pn pc))[k]?=some (.int kd (c k))→K (.bool (decide (min (max (c k) (cLo k)) (cHi k)=c k))) { h1 with b:=h1.b.set i (.cells ((cfgL c (.slice pa pn pc)).set k (.int kd (min (max (c k) (cLo k)) (cHi k)))) 25 true) }:=by
  intro kd h1 X b1 hc
  have hd:decide (min (max (c k) (cLo k)) (cHi k)=c k)=inB c k:=by
   cases hb:inB c k with
   | true=>exact decide_eq_true ((inB_clamp hk14).2 hb)
   | false=>exact decide_eq_false fun e=>by rw[(inB_clamp hk14).1 e]at hb;cases hb
  rw[hd]
  refine hK _ ((X.mono (by have:=b.lt;omega)).trans (ExtB.set _ hBi)) (fun j hj hji=>by
   show (h1.b.set i _).get j=_
   rw[T.get_set_ne _ _ (Ne.symm hji)];exact X.get j hj) fun hb=>?_
  have e:=(inB_clamp (c:=c) hk14).2 hb
  rw[e,cfg_set hk14 hc]
  exact b1.set
 refine F99 rfl ?_
 by_cases h10:k<10
 ·simp only[ptT,h10,if_true]
  unfold strV
  (with_reducible repeat' (first|refine y6 ?_ (by with_unfolding_all rfl)|simp -dsimp only[↓WB,↓W99,WP,newBlk_n,Nat.reduceEqDiff,Nat.reduceAdd]))
  generalize hcs:Blk.cells _ 100 true=bk
  have X1:ExtB h.n h (newBlk h bk):=ExtB.new _ (Nat.le_refl _)
  have c1:cellAt (newBlk h bk) ⟨h.n,1,none⟩=some (.iface 106 (.pointer (some ⟨i,k,none⟩))):=by rw[← hcs];exact cellAt_newE
  have c2:cellAt (newBlk h bk) ⟨h.n,2,none⟩=some (.int .i64 (cLo k)):=by rw[← hcs];exact cellAt_newE
  have c3:cellAt (newBlk h bk) ⟨h.n,3,none⟩=some (.int .i64 (cHi k)):=by rw[← hcs];exact cellAt_newE
  have b1:=b.ext (ExtB.new (B:=h.n) bk (Nat.le_refl _)) b.lt
  generalize newBlk h bk=h1 at X1 c1 c2 c3 b1 ⊢
  skip
  refine bringI_ret b1 h10 hk14 ?_
  simp -dsimp only[↓WB,↓W99,WP,newBlk_n,Nat.reduceEqDiff,Nat.reduceAdd]
  exact fin _ _ X1 b1 (by rw[cfg_at hk14,if_pos h10])
 ·simp only[ptT,h10,if_false]
  unfold strV
  (with_reducible repeat' (first|refine y6 ?_ (by with_unfolding_all rfl)|simp -dsimp only[↓WB,↓W99,WP,newBlk_n,Nat.reduceEqDiff,Nat.reduceAdd]))
  generalize hcs:Blk.cells _ 100 true=bk
  have X1:ExtB h.n h (newBlk h bk):=ExtB.new _ (Nat.le_refl _)
  have c1:cellAt (newBlk h bk) ⟨h.n,1,none⟩=some (.iface 107 (.pointer (some ⟨i,k,none⟩))):=by rw[← hcs];exact cellAt_newE
  have c2:cellAt (newBlk h bk) ⟨h.n,2,none⟩=some (.int .i64 (cLo k)):=by rw[← hcs];exact cellAt_newE
  have c3:cellAt (newBlk h bk) ⟨h.n,3,none⟩=some (.int .i64 (cHi k)):=by rw[← hcs];exact cellAt_newE
  have b1:=b.ext (ExtB.new (B:=h.n) bk (Nat.le_refl _)) b.lt
  generalize newBlk h bk=h1 at X1 c1 c2 c3 b1 ⊢
  have w1:IntKind.wrap .u64 (cLo k)=cLo k:=wrap_u64 (by omega) (by omega)
  have w2:IntKind.wrap .u64 (cHi k)=cHi k:=wrap_u64 (by omega) (by omega)
  simp -dsimp only[↓WB,↓W99,WP,newBlk_n,Nat.reduceEqDiff,Nat.reduceAdd,c1,c2,c3,w1,w2]
  refine bringU_ret b1 h10 hk14 ?_
  simp -dsimp only[↓WB,↓W99,WP,newBlk_n,Nat.reduceEqDiff,Nat.reduceAdd]
  exact fin _ _ X1 b1 (by rw[cfg_at hk14,if_neg h10])
theorem ix101:ixAOk env 101 14 4=true:=by kernel_rfl
theorem long_ret {u:Option Addr}{n c:Nat}{h:Heap}{K:Value→Heap→Prop}(hK:K (.bool (decide (1024<n))) h):Ret env (.func 101) [.slice u n c] h K:=by
 refine F101 rfl ?_
 by_cases h1:1024<n
 ·rw[decide_eq_true h1]at hK
  (with_reducible repeat' (first|refine y1 ?_ (by omega)|simp -dsimp only[↓WB,↓W101,WP,newBlk_n,Nat.reduceEqDiff,Nat.reduceAdd]))
  exact hK
 ·rw[decide_eq_false h1]at hK
  (with_reducible repeat' (first|refine y2 ?_ (by omega)|simp -dsimp only[↓WB,↓W101,WP,newBlk_n,Nat.reduceEqDiff,Nat.reduceAdd]))
  exact hK
theorem indexP_ret {B:Nat}{v:Value}{P:List (List UInt8)}{h:Heap}{K:Value→Heap→Prop}(r:RdP B h v P) (hP:P.length≤5000) (hK:∀ x:Int,(0≤x↔P.any (fun p=>decide (1024<p.length))=true)→K (.int .i64 x) h) :
  Ret env (.func 100) [v,.func (.func 101) #[] #[]] h K:=by
 obtain⟨pa,pc,rfl,_⟩:=id r
 refine F100 rfl ?_
 simp -dsimp only[↓WB,↓W100,WP,newBlk_n,Nat.reduceEqDiff,Nat.reduceAdd]
 refine cw_loopI (fun m fr' h''=>∃ k:Nat,k≤P.length∧m=P.length-k∧h''=h∧fr'.get 8=some (.int .i64 k)∧(∀ j (hj:j<P.length),j<k→P[j].length≤1024)) P.length ?_ (by omega) ?_
 ·exact⟨0,by omega,by omega,rfl,by simp[T.get_set],fun j _ hj=>by omega⟩
 rintro m fr4 h'' ⟨k,hk,rfl,rfl,f8,hp⟩ hag
 have e8:=getK_of f8
 have b0:=getK_eq (hag 0 rfl)
 have b1:=getK_eq (hag 1 rfl)
 have b7:=getK_eq (hag 7 rfl)
 by_cases hlt:k<P.length
 ·obtain⟨i,o,ua,uc,rfl,hi,hc,hu⟩:=r.at_ hlt
  (with_reducible repeat' (first|refine y1 ?_ (by omega)|refine y4 ?_ (by omega) (by omega)|simp -dsimp only[↓WB,↓W100,WP,newBlk_n,Nat.reduceEqDiff,Nat.reduceAdd,↓e8,↓b0,↓b1,↓b7,hc,Nat.mul_one]))
  refine long_ret ?_
  by_cases hl:1024<P[k].length
  ·rw[decide_eq_true hl]
   simp -dsimp only[↓WB,↓W100,WP,newBlk_n,Nat.reduceEqDiff,Nat.reduceAdd,↓e8,↓b0,↓b1,↓b7]
   exact hK _ ⟨fun _=>List.any_eq_true.2 ⟨P[k],List.getElem_mem _,decide_eq_true hl⟩,fun _=>by omega⟩
  ·rw[decide_eq_false hl]
   simp -dsimp only[↓WB,↓W100,WP,newBlk_n,Nat.reduceEqDiff,Nat.reduceAdd,↓e8,↓b0,↓b1,↓b7]
   exact⟨P.length-(k+1),by omega,k+1,by omega,rfl,by simp[T.get_set,wrap_succ (show k≤4611686018427387904 by omega)],fun j hj hjk=>by
    by_cases e:j=k
    ·subst e;omega
    ·exact hp j hj (by omega)⟩
 ·(with_reducible repeat' (first|refine y2 ?_ (by omega)|simp -dsimp only[↓WB,↓W100,WP,newBlk_n,Nat.reduceEqDiff,Nat.reduceAdd,↓e8,↓b0,↓b1,↓b7]))
  exact hK _ ⟨fun h=>by omega,fun h=>by
   obtain⟨p,hm,hd⟩:=List.any_eq_true.1 h
   obtain⟨j,hj,rfl⟩:=List.getElem_of_mem hm
   have:=hp j hj (by omega)
   have:=of_decide_eq_true hd
   omega⟩
theorem wrong_ret {B:Nat}{c:Nat→Int}{pv:Value}{P:List (List UInt8)}{h:Heap}{K:Value→Heap→Prop}(r:RdP B h pv P) (hB:B≤h.n) (hP:P.length≤5000)
   (hK:∀ (nm:List UInt8) (x:Int) h',ExtB h.n h h'→mayC c P=(if 0≤x then 17 else if nm≠[] then 2 else 0)→K (.tuple #[strV nm,.int .i64 x]) h'):Ret env (.func 71) [.agg ⟨cfgL c pv⟩] h K:=by
 obtain⟨pa,pc,rfl,_⟩:=id r
 refine F71 rfl ?_
 simp -dsimp only[↓WB,↓W71,WP,newBlk_n,Nat.reduceEqDiff,Nat.reduceAdd,cfg_one]
 have V:=Box.new h (cfgL c (.slice pa P.length pc)) 25
 have X:ExtB h.n h (newBlk h (.cells (cfgL c (.slice pa P.length pc)) 25 true)):=ExtB.new _ (Nat.le_refl _)
 have hn1:(newBlk h (.cells (cfgL c (.slice pa P.length pc)) 25 true)).n=h.n+1:=rfl
 generalize newBlk h (.cells (cfgL c (.slice pa P.length pc)) 25 true)=h1 at V X hn1 ⊢
 refine boundsR_ret fun l h2 X2 bl=>?_
 have n2:=X2.n
 replace V:=V.ext X2 (by omega)
 replace X:=X.trans (X2.mono (by omega))
 clear X2
 simp -dsimp only[↓WB,↓W71,WP,newBlk_n,Nat.reduceEqDiff,Nat.reduceAdd]
 refine cw_loopI (fun m fr' h'=>∃ k:Nat,k≤14∧m=14-k∧ExtB h.n h h'∧Box h' h.n (cfgL c (.slice pa P.length pc)) 25∧fr'.get 9=some (.int .i64 k)∧∀ i,i<k→inB c i=true) 14 ?_ (by omega) ?_
 · exact⟨0,by omega,by omega,X,V,by simp[T.get_set],fun i hi=>by omega⟩
 clear V X
 rintro m fr2 h3 ⟨k,hk,rfl,X,V,f9,hin⟩ hag
 have e9:=getK_of f9
 have b1:=getK_eq (hag 1 rfl)
 have b8:=getK_eq (hag 8 rfl)
 have n3:=X.n
 by_cases hlt:k<14
 · obtain⟨nm,hnm,hrow⟩:=bl.row k hlt
   have hl:=bl.len
   (with_reducible repeat' (first|refine y1 ?_ (by omega)|simp -dsimp only[↓WB,↓W71,WP,newBlk_n,Nat.reduceEqDiff,Nat.reduceAdd,↓e9,↓b1,↓b8]))
   refine ix_arr ix101 hlt (by omega) ?_
   rw[hrow]
   unfold strV
   (with_reducible repeat' (first|refine y7 ?_ (by with_unfolding_all rfl)|simp -dsimp only[↓WB,↓W71,WP,newBlk_n,Nat.reduceEqDiff,Nat.reduceAdd,↓e9,↓b1,↓b8]))
   generalize hcs:Blk.cells _ 100 true=bk
   have X1:ExtB h.n h (newBlk h3 bk):=X.trans (ExtB.new _ n3)
   have c0:cellsAt (newBlk h3 bk) ⟨h3.n,0,none⟩ 4=some [strV nm,.iface (ptT k) (.pointer (some ⟨h.n,k,none⟩)),.int .i64 (cLo k),.int .i64 (cHi k)]:=by rw[← hcs];exact cellsAt_newE rfl
   have b2:=V.ext (ExtB.new (B:=h3.n) bk (Nat.le_refl _)) V.lt
   have n4:(newBlk h3 bk).n=h3.n+1:=rfl
   generalize newBlk h3 bk=h4 at X1 c0 b2 n4 ⊢
   skip
   refine within_ret b2 (Nat.le_refl _) hlt fun h5 X5 f5 hb=>?_
   have n5:=X5.n
   cases hib:inB c k with
   | true =>
     simp -dsimp only[↓WB,↓W71,WP,newBlk_n,Nat.reduceEqDiff,Nat.reduceAdd,↓e9,↓b1,↓b8]
     exact⟨14-(k+1),by omega,k+1,by omega,rfl,X1.trans X5,hb hib,by simp[T.get_set,wrap_succ (show k≤4611686018427387904 by omega)],fun i hi=>by
       by_cases e:i=k
       · subst e;exact hib
       · exact hin i (by omega)⟩
   | false =>
     have d0:cellAt h5 ⟨h3.n,0,none⟩=some (strV nm):=by
       have e0:cellAt h4 ⟨h3.n,0,none⟩=some (strV nm):=by
         have:=cellAt_of c0 (j:=0) (v:=strV nm) rfl
         simpa using this
       have hlow:h5.b.get h3.n=h4.b.get h3.n:=f5 h3.n (by omega) (by have:=V.lt;omega)
       have l1:Nat.blt h3.n h4.n=true:=by rw[blt_eq];exact decide_eq_true (by omega)
       have l2:Nat.blt h3.n h5.n=true:=by rw[blt_eq];exact decide_eq_true (by omega)
       simp only[cellAt,cellsAt,hlow,l1,l2]at e0 ⊢
       exact e0
     unfold strV at d0
     simp -dsimp only[↓WB,↓W71,WP,newBlk_n,Nat.reduceEqDiff,Nat.reduceAdd,↓e9,↓b1,↓b8,d0]
     refine hK nm (-1) _ (X1.trans X5) ?_
     rw[mayC,if_neg (by rw[range14];intro hh;rw[hh k hlt]at hib;cases hib),if_neg (by decide),if_pos hnm]
 · have k14:k=14:=by omega
   subst k14
   have hcb:(List.range 14).all (inB c)=true:=range14.2 hin
   have r3:=r.ext (X.mono hB)
   have dv:=V.cfg
   have fin1:mayC c P=(if P.length<1∨16<P.length then 2 else if P.any (fun p=>decide (1024<p.length)) then 17 else 0):=by rw[mayC,if_pos hcb]
   by_cases h1:P.length<1
   · (with_reducible repeat' (first|refine y1 ?_ (by omega)|refine y2 ?_ (by omega)|simp -dsimp only[↓WB,↓W71,WP,newBlk_n,Nat.reduceEqDiff,Nat.reduceAdd,↓e9,↓b1,↓b8,dv]))
     refine hK [80,114,111,103,114,97,109,115] (-1) _ X ?_
     rw[fin1,if_pos (.inl h1),if_neg (by decide),if_pos (by simp)]
   by_cases h16:16<P.length
   · (with_reducible repeat' (first|refine y1 ?_ (by omega)|refine y2 ?_ (by omega)|simp -dsimp only[↓WB,↓W71,WP,newBlk_n,Nat.reduceEqDiff,Nat.reduceAdd,↓e9,↓b1,↓b8,dv]))
     refine hK [80,114,111,103,114,97,109,115] (-1) _ X ?_
     rw[fin1,if_pos (.inr h16),if_neg (by decide),if_pos (by simp)]
   have fin2:mayC c P=(if P.any (fun p=>decide (1024<p.length)) then 17 else 0):=by rw[fin1,if_neg (by omega)]
   (with_reducible repeat' (first|refine y2 ?_ (by omega)|simp -dsimp only[↓WB,↓W71,WP,newBlk_n,Nat.reduceEqDiff,Nat.reduceAdd,↓e9,↓b1,↓b8,dv]))
   refine indexP_ret r3 hP fun x hx=>?_
   by_cases h0:x<0
   · (with_reducible repeat' (first|refine y1 ?_ (by omega)|simp -dsimp only[↓WB,↓W71,WP,newBlk_n,Nat.reduceEqDiff,Nat.reduceAdd,↓e9,↓b1,↓b8,dv]))
     refine hK [] (-1) _ X ?_
     rw[fin2,if_neg (by rw[← hx];omega),if_neg (by decide),if_neg (by simp)]
   · (with_reducible repeat' (first|refine y2 ?_ (by omega)|simp -dsimp only[↓WB,↓W71,WP,newBlk_n,Nat.reduceEqDiff,Nat.reduceAdd,↓e9,↓b1,↓b8,dv]))
     refine hK [80,114,111,103,114,97,109,115] x _ X ?_
     rw[fin2,if_pos (by rw[← hx];omega),if_pos (by omega)]
theorem configMay_ret {B:Nat}{c:Nat→Int}{pv:Value}{P:List (List UInt8)}{h:Heap}{K:Value→Heap→Prop}(r:RdP B h pv P) (hB:B≤h.n) (hP:P.length≤5000)
  (hK:∀ h',ExtB h.n h h'→K (.int .i64 (mayC c P)) h'):Ret env (.func 36) [.agg ⟨cfgL c pv⟩] h K:=by
 obtain⟨pa,pc,rfl,_⟩:=id r
 refine F36 rfl ?_
 simp -dsimp only[↓WB,↓W36,WP,newBlk_n,Nat.reduceEqDiff,Nat.reduceAdd,cfg_one]
 have V:=Box.new h (cfgL c (.slice pa P.length pc)) 25
 have X:ExtB h.n h (newBlk h (.cells (cfgL c (.slice pa P.length pc)) 25 true)):=ExtB.new _ (Nat.le_refl _)
 have hn1:(newBlk h (.cells (cfgL c (.slice pa P.length pc)) 25 true)).n=h.n+1:=rfl
 generalize newBlk h (.cells (cfgL c (.slice pa P.length pc)) 25 true)=h1 at V X hn1 ⊢
 have dv:=V.cfg
 simp -dsimp only[↓WB,↓W36,WP,newBlk_n,Nat.reduceEqDiff,Nat.reduceAdd,dv]
 refine wrong_ret (r.ext (X.mono hB)) (by omega) hP fun nm x h2 X2 hm=>?_
 have XX:=X.trans (X2.mono (show h.n≤h1.n by omega))
 unfold strV
 rw[hm]at hK
 by_cases hx:0≤x
 ·rw[if_pos hx]at hK
  (with_reducible repeat' (first|refine y1 ?_ (by omega)|simp -dsimp only[↓WB,↓W36,WP,newBlk_n,Nat.reduceEqDiff,Nat.reduceAdd]))
  exact hK _ XX
 ·rw[if_neg hx]at hK
  by_cases hn:nm=[]
  ·subst hn
   rw[if_neg (by simp)]at hK
   have e0:((⟨[].toArray⟩:ByteArray)=⟨⟨[]⟩⟩):=rfl
   (with_reducible repeat' (first|refine y2 ?_ (by omega)|simp -dsimp only[↓WB,↓W36,WP,newBlk_n,Nat.reduceEqDiff,Nat.reduceAdd,e0]))
   exact hK _ XX
  ·rw[if_pos hn]at hK
   have e0:¬((⟨nm.toArray⟩:ByteArray)=⟨⟨[]⟩⟩):=fun e=>hn (str_inj.1 e)
   (with_reducible repeat' (first|refine y2 ?_ (by omega)|simp -dsimp only[↓WB,↓W36,WP,newBlk_n,Nat.reduceEqDiff,Nat.reduceAdd,e0]))
   exact hK _ XX
theorem least_ret {h:Heap}{K:Value→Heap→Prop}(hK:∀ j h',ExtB h.n h h'→j<h'.n→h.n≤j→(∀ k,k<14→cellAt h' ⟨j,k,none⟩=some (.int .u64 (cLo k)))→K (.slice (some ⟨j,0,none⟩) 14 14) h'):Ret env (.func 128) [] h K:=by
 refine F128 rfl ?_
 simp -dsimp only[↓WB,↓W128,WP,newBlk_n,Nat.reduceEqDiff,Nat.reduceAdd]
 refine bs_of (l:=(List.range 14).map fun k=>.int .u64 (cLo k)) ?_ ?_
 ·rfl
 simp -dsimp only[↓WB,↓W128,WP,newBlk_n,Nat.reduceEqDiff,Nat.reduceAdd]
 refine hK _ _ (ExtB.new _ (Nat.le_refl _)) (Nat.lt_succ_self _) (Nat.le_refl _) fun k hk=>?_
 refine cellAt_newE.trans ?_
 rw[List.getElem?_map,List.getElem?_range hk];rfl
theorem most_ret {h:Heap}{K:Value→Heap→Prop}(hK:∀ j h',ExtB h.n h h'→j<h'.n→h.n≤j→(∀ k,k<14→cellAt h' ⟨j,k,none⟩=some (.int .u64 (cHi k)))→K (.slice (some ⟨j,0,none⟩) 14 14) h'):Ret env (.func 129) [] h K:=by
 refine F129 rfl ?_
 simp -dsimp only[↓WB,↓W129,WP,newBlk_n,Nat.reduceEqDiff,Nat.reduceAdd]
 refine bs_of (l:=(List.range 14).map fun k=>.int .u64 (cHi k)) ?_ ?_
 ·rfl
 simp -dsimp only[↓WB,↓W129,WP,newBlk_n,Nat.reduceEqDiff,Nat.reduceAdd]
 refine hK _ _ (ExtB.new _ (Nat.le_refl _)) (Nat.lt_succ_self _) (Nat.le_refl _) fun k hk=>?_
 refine cellAt_newE.trans ?_
 rw[List.getElem?_map,List.getElem?_range hk];rfl
def namesB:List (List UInt8):=[[80,115],[82,105,110,103],[71,115],[67,111,110,116,101,120,116,115],[68,111,109,97,105,110,115],[78,111,100,101,115],[83,108,111,116,115],[82,101,102,105,108,108,115],[65,117,100,105,116],[83,108,105,99,101],[67,80,85],[80,101,114,105,111,100],[66,117,100,103,101,116],[69,97,99,104]]
theorem names_ret {h:Heap}{K:Value→Heap→Prop}(hK:∀ j h',ExtB h.n h h'→j<h'.n→h.n≤j→(∀ k (hk:k<namesB.length),cellAt h' ⟨j,k,none⟩=some (strV namesB[k]))→K (.slice (some ⟨j,0,none⟩) 14 14) h'):Ret env (.func 46) [] h K:=by
 refine F46 rfl ?_
 simp -dsimp only[↓WB,↓W46,WP,newBlk_n,Nat.reduceEqDiff,Nat.reduceAdd]
 refine bs_of (l:=namesB.map strV) ?_ ?_
 ·rfl
 simp -dsimp only[↓WB,↓W46,WP,newBlk_n,Nat.reduceEqDiff,Nat.reduceAdd]
 refine hK _ _ (ExtB.new _ (Nat.le_refl _)) (Nat.lt_succ_self _) (Nat.le_refl _) fun k hk=>?_
 refine cellAt_newE.trans ?_
 rw[List.getElem?_map,List.getElem?_eq_getElem hk];rfl
theorem out_ret {B:Nat}{c:Nat→Int}{pa:Option Addr}{pn pc k:Nat}{h:Heap}{K:Value→Heap→Prop}(hk:k<14) (hK:∀ x h',ExtB h.n h h'→(x=0↔inB c k=true)→K (.int .i64 x) h') :
  Ret env (.func 98) [.agg ⟨cfgL c (.slice pa pn pc)⟩,.int .i64 k] h K:=by
 refine F98 rfl ?_
 simp -dsimp only[↓WB,↓W98,WP,newBlk_n,Nat.reduceEqDiff,Nat.reduceAdd,cfg_one]
 have V:=Box.new h (cfgL c (.slice pa pn pc)) 25
 have X:ExtB h.n h (newBlk h (.cells (cfgL c (.slice pa pn pc)) 25 true)):=ExtB.new _ (Nat.le_refl _)
 have hn1:(newBlk h (.cells (cfgL c (.slice pa pn pc)) 25 true)).n=h.n+1:=rfl
 generalize newBlk h (.cells (cfgL c (.slice pa pn pc)) 25 true)=h1 at V X hn1 ⊢
 have hl:=lo_hi hk
 refine least_ret fun j2 h2 X2 hj2 hj2' hlo=>?_
 have n2:=X2.n
 have l1:=hlo k hk
 refine⟨n2,?_,?_⟩
 ·simp -dsimp only[↓WB,↓W98,WP,newBlk_n,Nat.reduceEqDiff,Nat.reduceAdd]
 (with_reducible repeat' (first|refine y4 ?_ (by omega) (by omega)|simp -dsimp only[↓WB,↓W98,WP,newBlk_n,Nat.reduceEqDiff,Nat.reduceAdd,l1,Nat.mul_one,Nat.zero_add]))
 refine most_ret fun j3 h3 X3 hj3 hj3' hhi=>?_
 have n3:=X3.n
 have l2:=hhi k hk
 have l1':=cellAt_ext X3 hj2 l1
 refine⟨n3,?_,?_⟩
 ·simp -dsimp only[↓WB,↓W98,WP,newBlk_n,Nat.reduceEqDiff,Nat.reduceAdd,l1',Nat.mul_one,Nat.zero_add]
  exact same_int _ _ _
 have V3:=(V.ext (X2.mono (Nat.le_refl _)) V.lt).ext X3 (by have:=V.lt;omega)
 have XX:=X.trans ((X2.mono (show h.n≤h1.n by omega)).trans (X3.mono (show h.n≤h2.n by omega)))
 have dv:=V3.cfg
 by_cases h10:k<10
 ·(with_reducible repeat' (first|refine y1 ?_ (by omega)|refine y4 ?_ (by omega) (by omega)|simp -dsimp only[↓WB,↓W98,WP,newBlk_n,Nat.reduceEqDiff,Nat.reduceAdd,l2,Nat.mul_one,Nat.zero_add,dv]))
  refine small_ret fun j4 h4 X4 hj4 hs=>?_
  have d4:=hs k h10
  have w1:IntKind.wrap .i64 (cLo k)=cLo k:=wrap_i64 (by omega) (by omega)
  have w2:IntKind.wrap .i64 (cHi k)=cHi k:=wrap_i64 (by omega) (by omega)
  have XX4:=XX.trans (X4.mono (show h.n≤h3.n by omega))
  by_cases c1:c k<cLo k
  ·(with_reducible repeat' (first|refine y1 ?_ (by omega)|refine y4 ?_ (by omega) (by omega)|simp -dsimp only[↓WB,↓W98,WP,newBlk_n,Nat.reduceEqDiff,Nat.reduceAdd,d4,Nat.mul_one,Nat.zero_add,w1,w2]))
   exact hK _ _ XX4 ⟨fun e=>(by cases e),fun e=>by simp only[inB,Bool.and_eq_true,decide_eq_true_eq]at e;omega⟩
  by_cases c2:cHi k<c k
  ·(with_reducible repeat' (first|refine y1 ?_ (by omega)|refine y2 ?_ (by omega)|refine y4 ?_ (by omega) (by omega)|simp -dsimp only[↓WB,↓W98,WP,newBlk_n,Nat.reduceEqDiff,Nat.reduceAdd,d4,Nat.mul_one,Nat.zero_add,w1,w2]))
   exact hK _ _ XX4 ⟨fun e=>(by cases e),fun e=>by simp only[inB,Bool.and_eq_true,decide_eq_true_eq]at e;omega⟩
  (with_reducible repeat' (first|refine y2 ?_ (by omega)|refine y4 ?_ (by omega) (by omega)|simp -dsimp only[↓WB,↓W98,WP,newBlk_n,Nat.reduceEqDiff,Nat.reduceAdd,d4,Nat.mul_one,Nat.zero_add,w1,w2]))
  exact hK _ _ XX4 ⟨fun _=>by simp only[inB,Bool.and_eq_true,decide_eq_true_eq];omega,fun _=>rfl⟩
 ·(with_reducible repeat' (first|refine y2 ?_ (by omega)|refine y4 ?_ (by omega) (by omega)|simp -dsimp only[↓WB,↓W98,WP,newBlk_n,Nat.reduceEqDiff,Nat.reduceAdd,l2,Nat.mul_one,Nat.zero_add,dv]))
  refine great_ret fun j4 h4 X4 hj4 hs=>?_
  have d4:=hs (k-10) (by omega)
  rw[show 10+(k-10)=k by omega]at d4
  have w0:IntKind.wrap .i64 ((k:Int)-10)=((k-10:Nat):Int):=by rw[wrap_i64 (by omega) (by omega)];omega
  have XX4:=XX.trans (X4.mono (show h.n≤h3.n by omega))
  by_cases c1:c k<cLo k
  ·(with_reducible repeat' (first|refine y1 ?_ (by omega)|refine y4 ?_ (by omega) (by omega)|simp -dsimp only[↓WB,↓W98,WP,newBlk_n,Nat.reduceEqDiff,Nat.reduceAdd,d4,Nat.mul_one,Nat.zero_add,w0]))
   exact hK _ _ XX4 ⟨fun e=>(by cases e),fun e=>by simp only[inB,Bool.and_eq_true,decide_eq_true_eq]at e;omega⟩
  by_cases c2:cHi k<c k
  ·(with_reducible repeat' (first|refine y1 ?_ (by omega)|refine y2 ?_ (by omega)|refine y4 ?_ (by omega) (by omega)|simp -dsimp only[↓WB,↓W98,WP,newBlk_n,Nat.reduceEqDiff,Nat.reduceAdd,d4,Nat.mul_one,Nat.zero_add,w0]))
   exact hK _ _ XX4 ⟨fun e=>(by cases e),fun e=>by simp only[inB,Bool.and_eq_true,decide_eq_true_eq]at e;omega⟩
  (with_reducible repeat' (first|refine y2 ?_ (by omega)|refine y4 ?_ (by omega) (by omega)|simp -dsimp only[↓WB,↓W98,WP,newBlk_n,Nat.reduceEqDiff,Nat.reduceAdd,d4,Nat.mul_one,Nat.zero_add,w0]))
  exact hK _ _ XX4 ⟨fun _=>by simp only[inB,Bool.and_eq_true,decide_eq_true_eq];omega,fun _=>rfl⟩
theorem names_ne {k:Nat}(hk:k<namesB.length):namesB[k]≠[]:=by
 have:namesB.all (fun l=>!l.isEmpty)=true:=by decide
 have:=List.all_eq_true.1 this _ (List.getElem_mem hk)
 intro e;rw[e]at this;cases this
theorem refWrong_ret {B:Nat}{c:Nat→Int}{pv:Value}{P:List (List UInt8)}{h:Heap}{K:Value→Heap→Prop}(r:RdP B h pv P) (hB:B≤h.n) (hP:P.length≤5000)
  (hK:∀ (nm:List UInt8) (x:Int) h',ExtB h.n h h'→mayC c P=(if nm=[] then 0 else if x<0 then 2 else 17)→K (.tuple #[strV nm,.int .i64 x]) h'):Ret env (.func 70) [.agg ⟨cfgL c pv⟩] h K:=by
 obtain⟨pa,pc,rfl,_⟩:=id r
 refine F70 rfl ?_
 simp -dsimp only[↓WB,↓W70,WP,newBlk_n,Nat.reduceEqDiff,Nat.reduceAdd,cfg_one]
 have V:=Box.new h (cfgL c (.slice pa P.length pc)) 25
 have X:ExtB h.n h (newBlk h (.cells (cfgL c (.slice pa P.length pc)) 25 true)):=ExtB.new _ (Nat.le_refl _)
 have hn1:(newBlk h (.cells (cfgL c (.slice pa P.length pc)) 25 true)).n=h.n+1:=rfl
 generalize newBlk h (.cells (cfgL c (.slice pa P.length pc)) 25 true)=h1 at V X hn1 ⊢
 refine cw_loopI (fun m fr' h'=>∃ k:Nat,k≤14∧m=14-k∧ExtB h.n h h'∧Box h' h.n (cfgL c (.slice pa P.length pc)) 25∧fr'.get 4=some (.int .i64 k)∧∀ i,i<k→inB c i=true) 14 ?_ (by omega) ?_
 ·exact⟨0,by omega,by omega,X,V,by simp[T.get_set],fun i hi=>by omega⟩
 clear V X hn1
 rintro m fr2 h3 ⟨k,hk,rfl,X,V,f4,hin⟩ hag
 have e4:=getK_of f4
 have b1:=getK_eq (hag 1 rfl)
 have n3:=X.n
 have dv:=V.cfg
 by_cases hlt:k<14
 ·(with_reducible repeat' (first|refine y1 ?_ (by omega)|simp -dsimp only[↓WB,↓W70,WP,newBlk_n,Nat.reduceEqDiff,Nat.reduceAdd,↓e4,↓b1,dv]))
  refine out_ret (B:=B) hlt fun x h4 X4 hx=>?_
  have n4:=X4.n
  have XX:=X.trans (X4.mono n3)
  by_cases h0:x=0
  ·subst h0
   have hi:=hx.1 rfl
   simp -dsimp only[↓WB,↓W70,WP,newBlk_n,Nat.reduceEqDiff,Nat.reduceAdd,↓e4,↓b1]
   exact⟨14-(k+1),by omega,k+1,by omega,rfl,XX,V.ext X4 V.lt,by simp[T.get_set,wrap_succ (show k≤4611686018427387904 by omega)],fun i hi'=>by
    by_cases e:i=k
    ·subst e;exact hi
    ·exact hin i (by omega)⟩
  ·(with_reducible repeat' (first|refine y2 ?_ (by omega)|simp -dsimp only[↓WB,↓W70,WP,newBlk_n,Nat.reduceEqDiff,Nat.reduceAdd,↓e4,↓b1]))
   refine names_ret fun j h5 X5 hj _ hnm=>?_
   have hlt':k<namesB.length:=hlt
   have d5:=hnm k hlt'
   unfold strV at d5
   (with_reducible repeat' (first|refine y4 ?_ (by omega) (by omega)|simp -dsimp only[↓WB,↓W70,WP,newBlk_n,Nat.reduceEqDiff,Nat.reduceAdd,↓e4,↓b1,d5,Nat.mul_one,Nat.zero_add]))
   refine hK namesB[k] (-1) _ (XX.trans (X5.mono (by omega))) ?_
   rw[mayC,if_neg (by rw[range14];intro hh;exact h0 (hx.2 (hh k hlt))),if_neg (names_ne hlt'),if_pos (by decide)]
 ·have k14:k=14:=by omega
  subst k14
  have hcb:(List.range 14).all (inB c)=true:=range14.2 hin
  have r3:=r.ext (X.mono hB)
  have fin1:mayC c P=(if P.length<1∨16<P.length then 2 else if P.any (fun p=>decide (1024<p.length)) then 17 else 0):=by rw[mayC,if_pos hcb]
  by_cases h1:P.length=0
  ·have h1':((P.length:Int)=0):=by omega
   (with_reducible repeat' (first|refine y2 ?_ (by omega)|simp -dsimp only[↓WB,↓W70,WP,newBlk_n,Nat.reduceEqDiff,Nat.reduceAdd,↓e4,↓b1,dv,h1']))
   refine hK [80,114,111,103,114,97,109,115] (-1) _ X ?_
   rw[fin1,if_pos (.inl (by omega)),if_neg (by simp),if_pos (by decide)]
  have h1':¬((P.length:Int)=0):=by omega
  by_cases h16:16<P.length
  ·(with_reducible repeat' (first|refine y1 ?_ (by omega)|refine y2 ?_ (by omega)|simp -dsimp only[↓WB,↓W70,WP,newBlk_n,Nat.reduceEqDiff,Nat.reduceAdd,↓e4,↓b1,dv,h1']))
   refine hK [80,114,111,103,114,97,109,115] (-1) _ X ?_
   rw[fin1,if_pos (.inr h16),if_neg (by simp),if_pos (by decide)]
  have fin2:mayC c P=(if P.any (fun p=>decide (1024<p.length)) then 17 else 0):=by rw[fin1,if_neg (by omega)]
  (with_reducible repeat' (first|refine y2 ?_ (by omega)|simp -dsimp only[↓WB,↓W70,WP,newBlk_n,Nat.reduceEqDiff,Nat.reduceAdd,↓e4,↓b1,dv,h1']))
  refine cw_loopI (fun m fr' h''=>∃ k:Nat,k≤P.length∧m=P.length-k∧h''=h3∧fr'.get 5=some (.int .i64 k)∧(∀ j (hj:j<P.length),j<k→P[j].length≤1024)) P.length ?_ (by omega) ?_
  ·exact⟨0,by omega,by omega,rfl,by simp[T.get_set],fun j _ hj=>by omega⟩
  rintro m fr4 h'' ⟨k,hk,rfl,rfl,f5,hp⟩ hag2
  have e5:=getK_of f5
  have c1:=getK_eq (hag2 1 rfl)
  by_cases hlt:k<P.length
  ·obtain⟨i,o,ua,uc,rfl,hi,hc,hu⟩:=r3.at_ hlt
   by_cases hl:1024<P[k].length
   ·(with_reducible repeat' (first|refine y1 ?_ (by omega)|refine y4 ?_ (by omega) (by omega)|simp -dsimp only[↓WB,↓W70,WP,newBlk_n,Nat.reduceEqDiff,Nat.reduceAdd,↓e5,↓c1,↓b1,dv,hc,Nat.mul_one]))
    refine hK [80,114,111,103,114,97,109,115] k _ X ?_
    rw[fin2,if_pos (List.any_eq_true.2 ⟨P[k],List.getElem_mem _,decide_eq_true hl⟩),if_neg (by simp),if_neg (by omega)]
   ·(with_reducible repeat' (first|refine y1 ?_ (by omega)|refine y2 ?_ (by omega)|refine y4 ?_ (by omega) (by omega)|simp -dsimp only[↓WB,↓W70,WP,newBlk_n,Nat.reduceEqDiff,Nat.reduceAdd,↓e5,↓c1,↓b1,dv,hc,Nat.mul_one]))
    exact⟨P.length-(k+1),by omega,k+1,by omega,rfl,by simp[T.get_set,wrap_succ (show k≤4611686018427387904 by omega)],fun j hj hjk=>by
     by_cases e:j=k
     ·subst e;omega
     ·exact hp j hj (by omega)⟩
  ·(with_reducible repeat' (first|refine y2 ?_ (by omega)|simp -dsimp only[↓WB,↓W70,WP,newBlk_n,Nat.reduceEqDiff,Nat.reduceAdd,↓e5,↓c1,↓b1,dv]))
   refine hK [] (-1) _ X ?_
   rw[fin2,if_neg (by
    intro hh
    obtain⟨p,hm,hd⟩:=List.any_eq_true.1 hh
    obtain⟨j,hj,rfl⟩:=List.getElem_of_mem hm
    have:=hp j hj (by omega)
    have:=of_decide_eq_true hd
    omega),if_pos rfl]
theorem refMayC_ret {B:Nat}{c:Nat→Int}{pv:Value}{P:List (List UInt8)}{h:Heap}{K:Value→Heap→Prop}(r:RdP B h pv P) (hB:B≤h.n) (hP:P.length≤5000)
  (hK:∀ h',ExtB h.n h h'→K (.int .i64 (mayC c P)) h'):Ret env (.func 35) [.agg ⟨cfgL c pv⟩] h K:=by
 obtain⟨pa,pc,rfl,_⟩:=id r
 refine F35 rfl ?_
 simp -dsimp only[↓WB,↓W35,WP,newBlk_n,Nat.reduceEqDiff,Nat.reduceAdd,cfg_one]
 have V:=Box.new h (cfgL c (.slice pa P.length pc)) 25
 have X:ExtB h.n h (newBlk h (.cells (cfgL c (.slice pa P.length pc)) 25 true)):=ExtB.new _ (Nat.le_refl _)
 have hn1:(newBlk h (.cells (cfgL c (.slice pa P.length pc)) 25 true)).n=h.n+1:=rfl
 generalize newBlk h (.cells (cfgL c (.slice pa P.length pc)) 25 true)=h1 at V X hn1 ⊢
 have dv:=V.cfg
 simp -dsimp only[↓WB,↓W35,WP,newBlk_n,Nat.reduceEqDiff,Nat.reduceAdd,dv]
 refine refWrong_ret (r.ext (X.mono hB)) (by omega) hP fun nm x h2 X2 hm=>?_
 have XX:=X.trans (X2.mono (show h.n≤h1.n by omega))
 unfold strV
 rw[hm]at hK
 by_cases hn:nm=[]
 ·subst hn
  rw[if_pos rfl]at hK
  have e0:((⟨[].toArray⟩:ByteArray)=⟨⟨[]⟩⟩):=rfl
  simp -dsimp only[↓WB,↓W35,WP,newBlk_n,Nat.reduceEqDiff,Nat.reduceAdd,e0]
  exact hK _ XX
 ·rw[if_neg hn]at hK
  have e0:¬((⟨nm.toArray⟩:ByteArray)=⟨⟨[]⟩⟩):=fun e=>hn (str_inj.1 e)
  by_cases hx:x<0
  ·rw[if_pos hx]at hK
   (with_reducible repeat' (first|refine y1 ?_ (by omega)|simp -dsimp only[↓WB,↓W35,WP,newBlk_n,Nat.reduceEqDiff,Nat.reduceAdd,e0]))
   exact hK _ XX
  ·rw[if_neg hx]at hK
   (with_reducible repeat' (first|refine y2 ?_ (by omega)|simp -dsimp only[↓WB,↓W35,WP,newBlk_n,Nat.reduceEqDiff,Nat.reduceAdd,e0]))
   exact hK _ XX
theorem act_box {h:Heap}{a:ActD}:cellAt (newBlk h (.cells a.cells 35 true)) ⟨h.n,0,none⟩=some (.int .i64 a.k)∧cellAt (newBlk h (.cells a.cells 35 true)) ⟨h.n,1,none⟩=some (.int .i64 a.p)∧cellAt (newBlk h (.cells a.cells 35 true)) ⟨h.n,2,none⟩=some (.int .i64 a.v)∧cellAt (newBlk h (.cells a.cells 35 true)) ⟨h.n,3,none⟩=some (.int .i64 a.c)∧cellsAt (newBlk h (.cells a.cells 35 true)) ⟨h.n,0,none⟩ 4=some a.cells :=
 ⟨cellAt_newE,cellAt_newE,cellAt_newE,cellAt_newE,cellsAt_newE rfl⟩
theorem act_one {a:ActD}:a.cells.all oneCell=true:=rfl
theorem mayA_ret {a:ActD}{h:Heap}{K:Value→Heap→Prop}(hK:∀ h',ExtB h.n h h'→K (.bool (actB a)) h'):Ret env (.func 39) [.agg ⟨a.cells⟩] h K:=by
 refine F39 rfl ?_
 have X:ExtB h.n h (newBlk h (.cells [.int .i64 a.k,.int .i64 a.p,.int .i64 a.v,.int .i64 a.c] 35 true)):=ExtB.new _ (Nat.le_refl _)
 simp only[ActD.cells]
 by_cases h1:a.k=1
 · (with_reducible repeat' (first|refine y1 ?_ (by omega)|refine y6 ?_ (by with_unfolding_all rfl)|simp -dsimp only[↓WB,↓W39,WP,newBlk_n,Nat.reduceEqDiff,Nat.reduceAdd]))
   have:actB a=true:=by simp[actB,h1]
   rw[this]at hK
   exact hK _ X
 · by_cases h2:a.k=2∧a.p=0∧a.v=0∧a.c=0
   · (with_reducible repeat' (first|refine y1 ?_ (by omega)|refine y2 ?_ (by omega)|refine y6 ?_ (by with_unfolding_all rfl)|(refine y9 ?_ (by with_unfolding_all (simp only[fillL_cons,fillL_nil,nth_eq,blt_eq,cond_beq,over,Value.cells,List.getElem?_cons_zero,List.getElem?_cons_succ,List.length_cons,List.length_nil,Nat.reduceAdd,Nat.reduceSub,Nat.reduceLT,Nat.reduceEqDiff,decide_true,cond_true,Option.map_some,if_true,if_false,Nat.add_one_sub_one,Nat.succ_ne_zero,reduceCtorEq,OfNat.ofNat];rfl)))|simp -dsimp only[↓WB,↓W39,WP,newBlk_n,Nat.reduceEqDiff,Nat.reduceAdd]))
     all_goals first
       | omega
       | (have:actB a=true:=by simp[actB,h2]
          rw[this]at hK
          exact hK _ X)
   · have:actB a=false:=by
       cases hb:actB a with
       | false=>rfl
       | true=>simp only[actB,Bool.or_eq_true,Bool.and_eq_true,decide_eq_true_eq]at hb;omega
     rw[this]at hK
     (with_reducible repeat' (first|refine y2 ?_ (by omega)|refine y6 ?_ (by with_unfolding_all rfl)|(refine y9 ?_ (by with_unfolding_all (simp only[fillL_cons,fillL_nil,nth_eq,blt_eq,cond_beq,over,Value.cells,List.getElem?_cons_zero,List.getElem?_cons_succ,List.length_cons,List.length_nil,Nat.reduceAdd,Nat.reduceSub,Nat.reduceLT,Nat.reduceEqDiff,decide_true,cond_true,Option.map_some,if_true,if_false,Nat.add_one_sub_one,Nat.succ_ne_zero,reduceCtorEq,OfNat.ofNat];rfl)))|simp -dsimp only[↓WB,↓W39,WP,newBlk_n,Nat.reduceEqDiff,Nat.reduceAdd]))
     all_goals first
       | omega
       | exact hK _ X
theorem mayA1_ret {a:ActD}{h:Heap}{K:Value→Heap→Prop}(hK:∀ h',ExtB h.n h h'→K (.bool (!actB a)) h'):Ret env (.func 38) [.agg ⟨a.cells⟩] h K:=by
 refine F38 rfl ?_
 simp -dsimp only[↓WB,↓W38,WP,newBlk_n,Nat.reduceEqDiff,Nat.reduceAdd,act_one]
 have d:=act_box (h:=h) (a:=a)
 have X:ExtB h.n h (newBlk h (.cells a.cells 35 true)):=ExtB.new _ (Nat.le_refl _)
 have n1:(newBlk h (.cells a.cells 35 true)).n=h.n+1:=rfl
 generalize newBlk h (.cells a.cells 35 true)=h1 at d X n1 ⊢
 simp -dsimp only[↓WB,↓W38,WP,newBlk_n,Nat.reduceEqDiff,Nat.reduceAdd,d]
 refine mayA_ret fun h2 X2=>?_
 simp -dsimp only[↓WB,↓W38,WP,newBlk_n,Nat.reduceEqDiff,Nat.reduceAdd]
 exact hK _ (X.trans (X2.mono (by omega)))
theorem indexA_ret {B:Nat}{v:Value}{A:List ActD}{h:Heap}{K:Value→Heap→Prop}(r:RdA B h v A) (hB:B≤h.n) (hA:A.length≤100000) (hK:∀ (x:Int) h',ExtB h.n h h'→(x<0↔A.all actB=true)→K (.int .i64 x) h') :
   Ret env (.func 72) [v,.func (.func 38) #[] #[]] h K:=by
 obtain⟨pa,pc,rfl,_⟩:=id r
 refine F72 rfl ?_
 simp -dsimp only[↓WB,↓W72,WP,newBlk_n,Nat.reduceEqDiff,Nat.reduceAdd]
 refine cw_loopI (fun m fr' h''=>∃ k:Nat,k≤A.length∧m=A.length-k∧ExtB h.n h h''∧fr'.get 8=some (.int .i64 k)∧(∀ j (hj:j<A.length),j<k→actB A[j]=true)) A.length ?_ (by omega) ?_
 · exact⟨0,by omega,by omega,ExtB.refl _ _,by simp[T.get_set],fun j _ hj=>by omega⟩
 rintro m fr4 h2 ⟨k,hk,rfl,X,f8,hp⟩ hag
 have e8:=getK_of f8
 have b0:=getK_eq (hag 0 rfl)
 have b1:=getK_eq (hag 1 rfl)
 have b7:=getK_eq (hag 7 rfl)
 have n2:=X.n
 by_cases hlt:k<A.length
 · obtain⟨i,o,rfl,hi,hc⟩:=(r.ext (X.mono hB)).at_ hlt
   (with_reducible repeat' (first|refine y1 ?_ (by omega)|refine y4 ?_ (by omega) (by omega)|simp -dsimp only[↓WB,↓W72,WP,newBlk_n,Nat.reduceEqDiff,Nat.reduceAdd,↓e8,↓b0,↓b1,↓b7,hc]))
   refine mayA1_ret fun h3 X3=>?_
   have XX:=X.trans (X3.mono n2)
   cases hl:actB A[k]with
   | false =>
     simp -dsimp only[↓WB,↓W72,WP,newBlk_n,Nat.reduceEqDiff,Nat.reduceAdd,↓e8,↓b0,↓b1,↓b7]
     exact hK _ _ XX ⟨fun _=>by omega,fun e=>by
       have:=List.all_eq_true.1 e _ (List.getElem_mem hlt)
       rw[hl]at this;cases this⟩
   | true =>
     simp -dsimp only[↓WB,↓W72,WP,newBlk_n,Nat.reduceEqDiff,Nat.reduceAdd,↓e8,↓b0,↓b1,↓b7]
     exact⟨A.length-(k+1),by omega,k+1,by omega,rfl,XX,by simp[T.get_set,wrap_succ (show k≤4611686018427387904 by omega)],fun j hj hjk=>by
       by_cases e:j=k
       · subst e;exact hl
       · exact hp j hj (by omega)⟩
 · (with_reducible repeat' (first|refine y2 ?_ (by omega)|simp -dsimp only[↓WB,↓W72,WP,newBlk_n,Nat.reduceEqDiff,Nat.reduceAdd,↓e8,↓b0,↓b1,↓b7]))
   exact hK _ _ X ⟨fun _=>List.all_eq_true.2 fun x hx=>by
     obtain⟨j,hj,rfl⟩:=List.getElem_of_mem hx
     exact hp j hj (by omega),fun _=>by omega⟩
theorem may_ret {B:Nat}{c:Nat→Int}{pv av:Value}{P:List (List UInt8)}{A:List ActD}{h:Heap}{K:Value→Heap→Prop}(r:RdP B h pv P) (ra:RdA B h av A) (hB:B≤h.n) (hP:P.length≤5000) (hA:A.length≤100000)
  (hK:∀ h',ExtB h.n h h'→K (.int .i64 (mayS c P A)) h'):Ret env (.func 14) [.agg ⟨scrL c pv av⟩] h K:=by
 obtain⟨pa,pc,rfl,_⟩:=id r
 obtain⟨aa,ac,rfl,_⟩:=id ra
 refine F14 rfl ?_
 simp -dsimp only[↓WB,↓W14,WP,newBlk_n,Nat.reduceEqDiff,Nat.reduceAdd,scr_one]
 have V:=Box.new h (scrL c (.slice pa P.length pc) (.slice aa A.length ac)) 28
 have X:ExtB h.n h (newBlk h (.cells (scrL c (.slice pa P.length pc) (.slice aa A.length ac)) 28 true)):=ExtB.new _ (Nat.le_refl _)
 have hn1:(newBlk h (.cells (scrL c (.slice pa P.length pc) (.slice aa A.length ac)) 28 true)).n=h.n+1:=rfl
 generalize newBlk h (.cells (scrL c (.slice pa P.length pc) (.slice aa A.length ac)) 28 true)=h1 at V X hn1 ⊢
 have dv:=V.scr
 simp -dsimp only[↓WB,↓W14,WP,newBlk_n,Nat.reduceEqDiff,Nat.reduceAdd,dv]
 refine configMay_ret (r.ext (X.mono hB)) (by omega) hP fun h2 X2=>?_
 have n2:=X2.n
 have V2:=V.ext X2 (by omega)
 replace X:=X.trans (X2.mono (show h.n≤h1.n by omega))
 have dv2:=V2.scr
 by_cases hm:mayC c P=0
 case neg =>
  have e:mayS c P A=mayC c P:=by rw[mayS,if_pos hm]
  rw[e]at hK
  simp -dsimp only[↓WB,↓W14,WP,newBlk_n,Nat.reduceEqDiff,Nat.reduceAdd,hm]
  exact hK _ X
 simp -dsimp only[↓WB,↓W14,WP,newBlk_n,Nat.reduceEqDiff,Nat.reduceAdd,dv2,hm]
 refine F37 rfl ?_
 simp -dsimp only[↓WB,↓W37,WP,newBlk_n,Nat.reduceEqDiff,Nat.reduceAdd]
 refine indexA_ret (ra.ext (X.mono hB)) (by omega) hA fun x h3 X3 hx=>?_
 have n3:=X3.n
 have V3:=V2.ext X3 (by omega)
 replace X:=X.trans (X3.mono (show h.n≤h2.n by omega))
 have dv3:=V3.scr
 by_cases h0:x<0
 ·have e:mayS c P A=0:=by rw[mayS,if_neg (by omega),if_pos (hx.1 h0),if_neg (by omega)]
  rw[e]at hK
  (with_reducible repeat' (first|refine y2 ?_ (by omega)|simp -dsimp only[↓WB,↓W37,WP,newBlk_n,Nat.reduceEqDiff,Nat.reduceAdd]))
  (with_reducible repeat' (first|refine y2 ?_ (by omega)|simp -dsimp only[↓WB,↓W14,WP,newBlk_n,Nat.reduceEqDiff,Nat.reduceAdd,dv3]))
  exact hK _ X
 ·have e:mayS c P A=2:=by rw[mayS,if_neg (by omega),if_neg (fun e=>h0 (hx.2 e))]
  rw[e]at hK
  (with_reducible repeat' (first|refine y1 ?_ (by omega)|simp -dsimp only[↓WB,↓W37,WP,newBlk_n,Nat.reduceEqDiff,Nat.reduceAdd]))
  simp -dsimp only[↓WB,↓W14,WP,newBlk_n,Nat.reduceEqDiff,Nat.reduceAdd,dv3]
  exact hK _ X
theorem refMay_ret {B:Nat}{c:Nat→Int}{pv av:Value}{P:List (List UInt8)}{A:List ActD}{h:Heap}{K:Value→Heap→Prop}(r:RdP B h pv P) (ra:RdA B h av A) (hB:B≤h.n) (hP:P.length≤5000) (hA:A.length≤100000)
   (hK:∀ h',ExtB h.n h h'→K (.int .i64 (mayS c P A)) h'):Ret env (.func 13) [.agg ⟨scrL c pv av⟩] h K:=by
 obtain⟨pa,pc,rfl,_⟩:=id r
 obtain⟨aa,ac,rfl,_⟩:=id ra
 refine F13 rfl ?_
 simp -dsimp only[↓WB,↓W13,WP,newBlk_n,Nat.reduceEqDiff,Nat.reduceAdd,scr_one]
 have V:=Box.new h (scrL c (.slice pa P.length pc) (.slice aa A.length ac)) 28
 have X:ExtB h.n h (newBlk h (.cells (scrL c (.slice pa P.length pc) (.slice aa A.length ac)) 28 true)):=ExtB.new _ (Nat.le_refl _)
 have hn1:(newBlk h (.cells (scrL c (.slice pa P.length pc) (.slice aa A.length ac)) 28 true)).n=h.n+1:=rfl
 generalize newBlk h (.cells (scrL c (.slice pa P.length pc) (.slice aa A.length ac)) 28 true)=h1 at V X hn1 ⊢
 have dv:=V.scr
 simp -dsimp only[↓WB,↓W13,WP,newBlk_n,Nat.reduceEqDiff,Nat.reduceAdd,dv]
 refine refMayC_ret (r.ext (X.mono hB)) (by omega) hP fun h2 X2=>?_
 have n2:=X2.n
 have V2:=V.ext X2 (by omega)
 replace X:=X.trans (X2.mono (show h.n≤h1.n by omega))
 by_cases hm:mayC c P=0
 case neg =>
   have e:mayS c P A=mayC c P:=by rw[mayS,if_pos hm]
   rw[e]at hK
   simp -dsimp only[↓WB,↓W13,WP,newBlk_n,Nat.reduceEqDiff,Nat.reduceAdd,hm]
   exact hK _ X
 simp -dsimp only[↓WB,↓W13,WP,newBlk_n,Nat.reduceEqDiff,Nat.reduceAdd,hm]
 refine cw_loopI (fun m fr' h''=>∃ k:Nat,k≤A.length∧m=A.length-k∧ExtB h.n h h''∧Box h'' h.n (scrL c (.slice pa P.length pc) (.slice aa A.length ac)) 28∧fr'.get 4=some (.int .i64 k)∧(∀ j (hj:j<A.length),j<k→actB A[j]=true)) A.length ?_ (by omega) ?_
 · exact⟨0,by omega,by omega,X,V2,by simp[T.get_set],fun j _ hj=>by omega⟩
 clear V V2 X dv
 rintro m fr4 h2 ⟨k,hk,rfl,X,V,f4,hp⟩ hag
 have e4:=getK_of f4
 have b1:=getK_eq (hag 1 rfl)
 have n2:=X.n
 have dv:=V.scr
 by_cases hlt:k<A.length
 · obtain⟨i,o,rfl,hi,hc⟩:=(ra.ext (X.mono hB)).at_ hlt
   have bad:∀ bk:Blk,actB A[k]=false→K (.int .i64 2) (newBlk h2 bk):=fun bk hb=>by
     have e:mayS c P A=2:=by
       rw[mayS,if_neg (by omega),if_neg (fun e=>by
         have:=List.all_eq_true.1 e _ (List.getElem_mem hlt)
         rw[hb]at this;cases this)]
     rw[e]at hK
     exact hK _ (X.trans (ExtB.new _ n2))
   have good:∀ (bk:Blk),actB A[k]=true→ExtB h.n h (newBlk h2 bk)∧Box (newBlk h2 bk) h.n (scrL c (.slice pa P.length pc) (.slice (some ⟨i,o,none⟩) A.length ac)) 28∧(∀ j (hj:j<A.length),j<k+1→actB A[j]=true):=fun bk hb =>
     ⟨X.trans (ExtB.new _ n2),V.ext (ExtB.new (B:=h2.n) _ (Nat.le_refl _)) V.lt,fun j hj hjk=>by
       by_cases e:j=k
       · subst e;exact hb
       · exact hp j hj (by omega)⟩
   by_cases h1:A[k].k=1
   · have hb:actB A[k]=true:=by simp[actB,h1]
     (with_reducible repeat' (first|refine y1 ?_ (by omega)|refine y4 ?_ (by omega) (by omega)|refine y7 ?_ (by with_unfolding_all rfl)|simp -dsimp only[↓WB,↓W13,WP,newBlk_n,Nat.reduceEqDiff,Nat.reduceAdd,↓e4,↓b1,dv,hc]))
     obtain⟨g1,g2,g3⟩:=good _ hb
     exact⟨A.length-(k+1),by omega,k+1,by omega,rfl,g1,g2,by simp[T.get_set,wrap_succ (show k≤4611686018427387904 by omega)],g3⟩
   · by_cases h2':A[k].k=2∧A[k].p=0∧A[k].v=0∧A[k].c=0
     · have hb:actB A[k]=true:=by simp[actB,h2']
       (with_reducible repeat' (first|refine y1 ?_ (by omega)|refine y2 ?_ (by omega)|refine y4 ?_ (by omega) (by omega)|refine y7 ?_ (by with_unfolding_all rfl)|simp -dsimp only[↓WB,↓W13,WP,newBlk_n,Nat.reduceEqDiff,Nat.reduceAdd,↓e4,↓b1,dv,hc]))
       all_goals first
         | omega
         | (obtain⟨g1,g2,g3⟩:=good _ hb
            exact⟨A.length-(k+1),by omega,k+1,by omega,rfl,g1,g2,by simp[T.get_set,wrap_succ (show k≤4611686018427387904 by omega)],g3⟩)
     · have hb:actB A[k]=false:=by
         cases hb:actB A[k]with
         | false=>rfl
         | true=>simp only[actB,Bool.or_eq_true,Bool.and_eq_true,decide_eq_true_eq]at hb;omega
       (with_reducible repeat' (first|refine y1 ?_ (by omega)|refine y2 ?_ (by omega)|refine y3 (fun _=>?_) (fun _=>?_)|refine y4 ?_ (by omega) (by omega)|refine y7 ?_ (by with_unfolding_all rfl)|simp -dsimp only[↓WB,↓W13,WP,newBlk_n,Nat.reduceEqDiff,Nat.reduceAdd,↓e4,↓b1,dv,hc]))
       all_goals first
         | omega
         | exact bad _ hb
 · have e:mayS c P A=0:=by
     rw[mayS,if_neg (by omega),if_pos (List.all_eq_true.2 fun x hx=>by
       obtain⟨j,hj,rfl⟩:=List.getElem_of_mem hx
       exact hp j hj (by omega)),if_neg (by omega)]
   rw[e]at hK
   (with_reducible repeat' (first|refine y2 ?_ (by omega)|simp -dsimp only[↓WB,↓W13,WP,newBlk_n,Nat.reduceEqDiff,Nat.reduceAdd,↓e4,↓b1,dv]))
   exact hK _ X
end Go.Proofs.YtohjaacnlmkhbaaGreatDoor
