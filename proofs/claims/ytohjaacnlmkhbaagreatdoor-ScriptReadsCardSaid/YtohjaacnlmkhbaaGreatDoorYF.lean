/- MAY A SCRIPT BE, both sides, walked. Conditions: none beyond each theorem's own. -/
import Derived.Test.YtohjaacnlmkhbaaGreatDoorWG
import Derived.Test.YtohjaacnlmkhbaaGreatDoorYC
set_option linter.unusedSimpArgs false
set_option linter.unusedVariables false
namespace Go.Proofs.YtohjaacnlmkhbaaGreatDoor
open Go.Ev
set_option maxRecDepth 100000
set_option maxHeartbeats 400000
def yF (i:Nat):Int:=[1,2,1,1,1,3,3,2,1,1,1,1,1,1].getD i 1
def zB (i:Nat):Int:=[8,32,64,32,32,512,32,16,256,64,4294967296,4294967296,4294967296,4294967296].getD i 1
def oM (c:Nat→Int) (i:Nat):Bool:=decide (yF i≤c i)&&decide (c i≤zB i)
def kU (c:Nat→Int) (P:List (List UInt8)):Int :=
 if (List.range 14).all (oM c) then (if P.length<1∨16<P.length then 2 else if P.any (fun p=>decide (1024<p.length)) then 17 else 0) else 2
def ft (a:ba):Bool:=decide (a.k=1) || (decide (a.k=2)&&decide (a.p=0)&&decide (a.v=0)&&decide (a.c=0))
def iz (c:Nat→Int) (P:List (List UInt8)) (A:List ba):Int :=
 if kU c P≠0 then kU c P else if A.all ft then (if 100000<A.length then 17 else 0) else 2
theorem F4 {i:Nat}(hi:i<14):0<yF i∧yF i≤zB i∧zB i≤4294967296:=by rcases i with _|_|_|_|_|_|_|_|_|_|_|_|_|_|i<;>first|decide|omega
theorem sE {c:Nat→Int}{k:Nat}(hk:k<14):(min (max (c k) (yF k)) (zB k)=c k)↔oM c k=true:=by have:=F4 hk;simp only[oM,Bool.and_eq_true,decide_eq_true_eq];omega
theorem jr {c:Nat→Int}:(List.range 14).all (oM c)=true↔∀ i,i<14→oM c i=true:=by simp[List.all_eq_true]
structure BndR (i:Nat) (l:List Value):Prop where
 len:l.length=56
 one:l.all aF=true
 row:∀ k,k<14→∃ nm:List UInt8,nm≠[]∧(l.drop (k*4)).take 4=[aq nm,.iface (Dc k) (.pointer (some ⟨i,k,none⟩)),.int .i64 (yF k),.int .i64 (zB k)]
theorem C5 {i:Nat}{h:Heap}{K:Value→Heap→Prop}(hK:∀ l h',ai h.n h h'→BndR i l→K (.agg ⟨l⟩) h'):bT env (.func 59) [.pointer (some ⟨i,0,none⟩)] h K:=by refine F59 rfl ?_;(with_reducible repeat' (first|refine y5 ?_|refine y7 ?_|refine y9 ?_|refine ya ?_|simp -dsimp only[↓WB,↓W59,WP,ae,Nat.reduceEqDiff,Nat.reduceAdd]));refine hK _ _ (ai.new _ (Nat.le_refl _)) ⟨rfl,rfl,fun k hk=>?_⟩;rcases k with _|_|_|_|_|_|_|_|_|_|_|_|_|_|k;all_goals first|exact⟨_,List.cons_ne_nil _ _,rfl⟩|omega
theorem kC {x:Value}:∀ {cs:List Value}{k:Nat},k<cs.length→over cs k [x]=some (cs.set k x)
 | [],k,h=>by simp at h
 | c::cs,0,_=>by rw[over,aD,if_pos rfl];cases cs<;>rfl
 | c::cs,k+1,h=>by rw[over,aD,if_neg (by omega)];show (over cs k [x]).map (c::·)=_;rw[kC (by simpa using h)];rfl
theorem Ry {c:Nat→Int}{pv:Value}{k:Nat}(hk:k<14) {x:Value}(hx:(br c pv)[k]?=some x):(br c pv).set k x=br c pv:=by
 apply List.ext_getElem?;intro j;rw[List.getElem?_set];split;·rename_i e;subst e;rw[if_pos (by show k<15;omega),hx]
 ·rfl
theorem DY {i k:Nat}{c:Nat→Int}{pa:Option Addr}{pn pc:Nat}{lo hi:Int}{h:Heap}{K:Value→Heap→Prop}(b:dm h i (br c (.slice pa pn pc)) 25) (hk:k<10) (hk14:k<14)
  (hK:K (.bool (decide (min (max (c k) lo) hi=c k))) { h with b:=h.b.set i (.cells ((br c (.slice pa pn pc)).set k (.int .i64 (min (max (c k) lo) hi))) 25 true) }):bT env (.func 130) [.pointer (some ⟨i,k,none⟩),.int .i64 lo,.int .i64 hi] h K:=by
 refine F130 rfl ?_
 have c1:cellAt h ⟨i,k,none⟩=some (.int .i64 (c k)):=b.at_ (by rw[wQ hk14];simp only[hk,if_true])
 simp -dsimp only[↓WB,↓Ws,WP,ae,Nat.reduceEqDiff,Nat.reduceAdd,c1]
 refine bN (cs':=(br c (.slice pa pn pc)).set k (.int .i64 (min (max (c k) lo) hi))) b.get rfl rfl (kC (by show k<15;omega)) rfl (by decide) ?_
 have b':dm { h with b:=h.b.set i (.cells ((br c (.slice pa pn pc)).set k (.int .i64 (min (max (c k) lo) hi))) 25 true) } i ((br c (.slice pa pn pc)).set k (.int .i64 (min (max (c k) lo) hi))) 25:=b.set
 have c2:=b'.at_ (j:=k) (v:=.int .i64 (min (max (c k) lo) hi)) (by rw[List.getElem?_set];simp only[if_true];rw[if_pos (by show k<15;omega)])
 by_cases he:min (max (c k) lo) hi=c k
 ·rw[decide_eq_true he]at hK;(with_reducible repeat' (first|refine y1 ?_|simp -dsimp only[↓WB,↓Ws,WP,ae,Nat.reduceEqDiff,Nat.reduceAdd,c2]));exact hK
 ·rw[decide_eq_false he]at hK;(with_reducible repeat' (first|refine y2 ?_|simp -dsimp only[↓WB,↓Ws,WP,ae,Nat.reduceEqDiff,Nat.reduceAdd,c2]));exact hK
theorem D8 {i k:Nat}{c:Nat→Int}{pa:Option Addr}{pn pc:Nat}{lo hi:Int}{h:Heap}{K:Value→Heap→Prop}(b:dm h i (br c (.slice pa pn pc)) 25) (hk:¬k<10) (hk14:k<14)
  (hK:K (.bool (decide (min (max (c k) lo) hi=c k))) { h with b:=h.b.set i (.cells ((br c (.slice pa pn pc)).set k (.int .u64 (min (max (c k) lo) hi))) 25 true) }):bT env (.func 131) [.pointer (some ⟨i,k,none⟩),.int .u64 lo,.int .u64 hi] h K:=by
 refine F131 rfl ?_
 have c1:cellAt h ⟨i,k,none⟩=some (.int .u64 (c k)):=b.at_ (by rw[wQ hk14];simp only[hk,if_false])
 simp -dsimp only[↓WB,↓Vj,WP,ae,Nat.reduceEqDiff,Nat.reduceAdd,c1]
 refine bN (cs':=(br c (.slice pa pn pc)).set k (.int .u64 (min (max (c k) lo) hi))) b.get rfl rfl (kC (by show k<15;omega)) rfl (by decide) ?_
 have b':dm { h with b:=h.b.set i (.cells ((br c (.slice pa pn pc)).set k (.int .u64 (min (max (c k) lo) hi))) 25 true) } i ((br c (.slice pa pn pc)).set k (.int .u64 (min (max (c k) lo) hi))) 25:=b.set
 have c2:=b'.at_ (j:=k) (v:=.int .u64 (min (max (c k) lo) hi)) (by rw[List.getElem?_set];simp only[if_true];rw[if_pos (by show k<15;omega)])
 by_cases he:min (max (c k) lo) hi=c k
 ·rw[decide_eq_true he]at hK;(with_reducible repeat' (first|refine y1 ?_|simp -dsimp only[↓WB,↓Vj,WP,ae,Nat.reduceEqDiff,Nat.reduceAdd,c2]));exact hK
 ·rw[decide_eq_false he]at hK;(with_reducible repeat' (first|refine y2 ?_|simp -dsimp only[↓WB,↓Vj,WP,ae,Nat.reduceEqDiff,Nat.reduceAdd,c2]));exact hK
theorem tas {t:TypeId}{z u:Value}{J:Value→Prop}:QR t z (.iface t u) J=J (.tuple #[u,.bool true]):=Ht
theorem Fv {B i k:Nat}{c:Nat→Int}{pa:Option Addr}{pn pc:Nat}{nm:List UInt8}{h:Heap}{K:Value→Heap→Prop}(b:dm h i (br c (.slice pa pn pc)) 25) (hBi:B≤i) (hk14:k<14)
  (hK:∀ h',ai B h h'→(∀ j,j<h.n→j≠i→h'.b.get j=h.b.get j)→(oM c k=true→dm h' i (br c (.slice pa pn pc)) 25)→K (.bool (oM c k)) h'):bT env (.func 99) [.agg ⟨[aq nm,.iface (Dc k) (.pointer (some ⟨i,k,none⟩)),.int .i64 (yF k),.int .i64 (zB k)]⟩] h K:=by
 have hl:=F4 hk14
 have fin:∀ (kd:IntKind) (h1:Heap),ai h.n h h1→dm h1 i (br c (.slice pa pn pc)) 25→(br c (.slice pa pn pc))[k]?=some (.int kd (c k))→K (.bool (decide (min (max (c k) (yF k)) (zB k)=c k))) { h1 with b:=h1.b.set i (.cells ((br c (.slice pa pn pc)).set k (.int kd (min (max (c k) (yF k)) (zB k)))) 25 true) }:=by
  intro kd h1 X b1 hc;have hd:decide (min (max (c k) (yF k)) (zB k)=c k)=oM c k:=by
   cases hb:oM c k with
   | true=>exact decide_eq_true ((sE hk14).2 hb)
   | false=>exact decide_eq_false fun e=>by rw[(sE hk14).1 e]at hb;cases hb
  rw[hd];refine hK _ ((X.mono (by have:=b.lt;omega)).trans (ai.set _ hBi)) (fun j hj hji=>by show (h1.b.set i _).get j=_;rw[T.ar _ _ (Ne.symm hji)];exact X.get j hj) fun hb=>?_;have e:=(sE (c:=c) hk14).2 hb;rw[e,Ry hk14 hc];exact b1.set
 refine F99 rfl ?_
 by_cases h10:k<10
 ·simp only[Dc,h10,if_true];unfold aq;(with_reducible repeat' (first|refine y6 ?_|simp -dsimp only[↓WB,↓Xi,WP,ae,Nat.reduceEqDiff,Nat.reduceAdd]));generalize hcs:fa.cells _ 100 true=bk;have X1:ai h.n h (af h bk):=ai.new _ (Nat.le_refl _);have c1:cellAt (af h bk) ⟨h.n,1,none⟩=some (.iface 106 (.pointer (some ⟨i,k,none⟩))):=by rw[← hcs];exact bB
  have c2:cellAt (af h bk) ⟨h.n,2,none⟩=some (.int .i64 (yF k)):=by rw[← hcs];exact bB
  have c3:cellAt (af h bk) ⟨h.n,3,none⟩=some (.int .i64 (zB k)):=by rw[← hcs];exact bB
  have b1:=b.ext (ai.new (B:=h.n) bk (Nat.le_refl _)) b.lt;generalize af h bk=h1 at X1 c1 c2 c3 b1 ⊢;skip;refine DY b1 h10 hk14 ?_;simp -dsimp only[↓WB,↓Xi,WP,ae,Nat.reduceEqDiff,Nat.reduceAdd];exact fin _ _ X1 b1 (by rw[wQ hk14,if_pos h10])
 ·simp only[Dc,h10,if_false];unfold aq;(with_reducible repeat' (first|refine y6 ?_|simp -dsimp only[↓WB,↓Xi,WP,ae,Nat.reduceEqDiff,Nat.reduceAdd]));generalize hcs:fa.cells _ 100 true=bk;have X1:ai h.n h (af h bk):=ai.new _ (Nat.le_refl _);have c1:cellAt (af h bk) ⟨h.n,1,none⟩=some (.iface 107 (.pointer (some ⟨i,k,none⟩))):=by rw[← hcs];exact bB
  have c2:cellAt (af h bk) ⟨h.n,2,none⟩=some (.int .i64 (yF k)):=by rw[← hcs];exact bB
  have c3:cellAt (af h bk) ⟨h.n,3,none⟩=some (.int .i64 (zB k)):=by rw[← hcs];exact bB
  have b1:=b.ext (ai.new (B:=h.n) bk (Nat.le_refl _)) b.lt;generalize af h bk=h1 at X1 c1 c2 c3 b1 ⊢;have w1:IntKind.wrap .u64 (yF k)=yF k:=wrap_u64 (by omega) (by omega);have w2:IntKind.wrap .u64 (zB k)=zB k:=wrap_u64 (by omega) (by omega);simp -dsimp only[↓WB,↓Xi,WP,ae,Nat.reduceEqDiff,Nat.reduceAdd,c1,c2,c3,w1,w2];refine D8 b1 h10 hk14 ?_;simp -dsimp only[↓WB,↓Xi,WP,ae,Nat.reduceEqDiff,Nat.reduceAdd];exact fin _ _ X1 b1 (by rw[wQ hk14,if_neg h10])
theorem Xs:PH env 101 14 4=true:=by kernel_rfl
theorem Mp {u:Option Addr}{n c:Nat}{h:Heap}{K:Value→Heap→Prop}(hK:K (.bool (decide (1024<n))) h):bT env (.func 101) [.slice u n c] h K:=by
 refine F101 rfl ?_;by_cases h1:1024<n;·rw[decide_eq_true h1]at hK;(with_reducible repeat' (first|refine y1 ?_|simp -dsimp only[↓WB,↓Xo,WP,ae,Nat.reduceEqDiff,Nat.reduceAdd]));exact hK
 ·rw[decide_eq_false h1]at hK;(with_reducible repeat' (first|refine y2 ?_|simp -dsimp only[↓WB,↓Xo,WP,ae,Nat.reduceEqDiff,Nat.reduceAdd]));exact hK
theorem Eo {B:Nat}{v:Value}{P:List (List UInt8)}{h:Heap}{K:Value→Heap→Prop}(r:qk B h v P) (hP:P.length≤5000) (hK:∀ x:Int,(0≤x↔P.any (fun p=>decide (1024<p.length))=true)→K (.int .i64 x) h) :
  bT env (.func 100) [v,.func (.func 101) #[] #[]] h K:=by
 obtain⟨pa,pc,rfl,_⟩:=id r
 refine F100 rfl ?_
 simp -dsimp only[↓WB,↓Nt,WP,ae,Nat.reduceEqDiff,Nat.reduceAdd]
 refine aE (fun m fr' h''=>∃ k:Nat,k≤P.length∧m=P.length-k∧h''=h∧fr'.get 8=some (.int .i64 k)∧(∀ j (hj:j<P.length),j<k→P[j].length≤1024)) P.length ?_ (by omega) ?_
 ·exact⟨0,by omega,by omega,rfl,by simp[T.ah],fun j _ hj=>by omega⟩
 rintro m fr4 h'' ⟨k,hk,rfl,rfl,f8,hp⟩ hag
 have e8:=aj f8
 have b0:=au (hag 0 rfl)
 have b1:=au (hag 1 rfl)
 have b7:=au (hag 7 rfl)
 by_cases aB:k<P.length
 ·obtain⟨i,o,ua,uc,rfl,hi,hc,hu⟩:=r.at_ aB;(with_reducible repeat' (first|refine y1 ?_|refine y4 ?_|simp -dsimp only[↓WB,↓Nt,WP,ae,Nat.reduceEqDiff,Nat.reduceAdd,↓e8,↓b0,↓b1,↓b7,hc,Nat.mul_one]));refine Mp ?_;by_cases hl:1024<P[k].length;·rw[decide_eq_true hl];simp -dsimp only[↓WB,↓Nt,WP,ae,Nat.reduceEqDiff,Nat.reduceAdd,↓e8,↓b0,↓b1,↓b7];exact hK _ ⟨fun _=>List.any_eq_true.2 ⟨P[k],List.getElem_mem _,decide_eq_true hl⟩,fun _=>by omega⟩
  ·rw[decide_eq_false hl];simp -dsimp only[↓WB,↓Nt,WP,ae,Nat.reduceEqDiff,Nat.reduceAdd,↓e8,↓b0,↓b1,↓b7];exact⟨P.length-(k+1),by omega,k+1,by omega,rfl,by simp[T.ah,bf (show k≤4611686018427387904 by omega)],fun j hj hjk=>by
    by_cases e:j=k;·subst e;omega
    ·exact hp j hj (by omega)⟩
 ·(with_reducible repeat' (first|refine y2 ?_|simp -dsimp only[↓WB,↓Nt,WP,ae,Nat.reduceEqDiff,Nat.reduceAdd,↓e8,↓b0,↓b1,↓b7]));exact hK _ ⟨fun h=>by omega,fun h=>by obtain⟨p,hm,hd⟩:=List.any_eq_true.1 h;obtain⟨j,hj,rfl⟩:=List.getElem_of_mem hm;have:=hp j hj (by omega);have:=of_decide_eq_true hd;omega⟩
theorem HT {B:Nat}{c:Nat→Int}{pv:Value}{P:List (List UInt8)}{h:Heap}{K:Value→Heap→Prop}(r:qk B h pv P) (hB:B≤h.n) (hP:P.length≤5000)
   (hK:∀ (nm:List UInt8) (x:Int) h',ai h.n h h'→kU c P=(if 0≤x then 17 else if nm≠[] then 2 else 0)→K (.tuple #[aq nm,.int .i64 x]) h'):bT env (.func 71) [.agg ⟨br c pv⟩] h K:=by
 obtain⟨pa,pc,rfl,_⟩:=id r
 refine F71 rfl ?_
 simp -dsimp only[↓WB,↓QB,WP,ae,Nat.reduceEqDiff,Nat.reduceAdd,kZ]
 have V:=dm.new h (br c (.slice pa P.length pc)) 25
 have X:ai h.n h (af h (.cells (br c (.slice pa P.length pc)) 25 true)):=ai.new _ (Nat.le_refl _)
 have hn1:(af h (.cells (br c (.slice pa P.length pc)) 25 true)).n=h.n+1:=rfl
 generalize af h (.cells (br c (.slice pa P.length pc)) 25 true)=h1 at V X hn1 ⊢
 refine C5 fun l h2 X2 bl=>?_
 have n2:=X2.n
 replace V:=V.ext X2 (by omega)
 replace X:=X.trans (X2.mono (by omega))
 clear X2
 simp -dsimp only[↓WB,↓QB,WP,ae,Nat.reduceEqDiff,Nat.reduceAdd]
 refine aE (fun m fr' h'=>∃ k:Nat,k≤14∧m=14-k∧ai h.n h h'∧dm h' h.n (br c (.slice pa P.length pc)) 25∧fr'.get 9=some (.int .i64 k)∧∀ i,i<k→oM c i=true) 14 ?_ (by omega) ?_
 · exact⟨0,by omega,by omega,X,V,by simp[T.ah],fun i hi=>by omega⟩
 clear V X
 rintro m fr2 h3 ⟨k,hk,rfl,X,V,f9,hin⟩ hag
 have e9:=aj f9
 have b1:=au (hag 1 rfl)
 have b8:=au (hag 8 rfl)
 have n3:=X.n
 by_cases aB:k<14
 · obtain⟨nm,hnm,hrow⟩:=bl.row k aB;have hl:=bl.len;(with_reducible repeat' (first|refine y1 ?_|simp -dsimp only[↓WB,↓QB,WP,ae,Nat.reduceEqDiff,Nat.reduceAdd,↓e9,↓b1,↓b8]));refine WL Xs aB (by omega) ?_;rw[hrow];unfold aq;(with_reducible repeat' (first|refine y7 ?_|simp -dsimp only[↓WB,↓QB,WP,ae,Nat.reduceEqDiff,Nat.reduceAdd,↓e9,↓b1,↓b8]));generalize hcs:fa.cells _ 100 true=bk;have X1:ai h.n h (af h3 bk):=X.trans (ai.new _ n3);have c0:ax (af h3 bk) ⟨h3.n,0,none⟩ 4=some [aq nm,.iface (Dc k) (.pointer (some ⟨h.n,k,none⟩)),.int .i64 (yF k),.int .i64 (zB k)]:=by rw[← hcs];exact bA rfl
   have b2:=V.ext (ai.new (B:=h3.n) bk (Nat.le_refl _)) V.lt;have n4:(af h3 bk).n=h3.n+1:=rfl;generalize af h3 bk=h4 at X1 c0 b2 n4 ⊢;skip;refine Fv b2 (Nat.le_refl _) aB fun h5 X5 f5 hb=>?_;have n5:=X5.n;cases hib:oM c k with
   | true =>
     simp -dsimp only[↓WB,↓QB,WP,ae,Nat.reduceEqDiff,Nat.reduceAdd,↓e9,↓b1,↓b8]
     exact⟨14-(k+1),by omega,k+1,by omega,rfl,X1.trans X5,hb hib,by simp[T.ah,bf (show k≤4611686018427387904 by omega)],fun i hi=>by
       by_cases e:i=k;· subst e;exact hib
       · exact hin i (by omega)⟩
   | false =>
     have d0:cellAt h5 ⟨h3.n,0,none⟩=some (aq nm):=by
       have e0:cellAt h4 ⟨h3.n,0,none⟩=some (aq nm):=by have:=fO c0 (j:=0) (v:=aq nm) rfl;simpa using this
       have hlow:h5.b.get h3.n=h4.b.get h3.n:=f5 h3.n (by omega) (by have:=V.lt;omega);have l1:Nat.blt h3.n h4.n=true:=by rw[blt_eq];exact decide_eq_true (by omega)
       have l2:Nat.blt h3.n h5.n=true:=by rw[blt_eq];exact decide_eq_true (by omega)
       simp only[cellAt,ax,hlow,l1,l2]at e0 ⊢;exact e0
     unfold aq at d0
     simp -dsimp only[↓WB,↓QB,WP,ae,Nat.reduceEqDiff,Nat.reduceAdd,↓e9,↓b1,↓b8,d0]
     refine hK nm (-1) _ (X1.trans X5) ?_
     rw[kU,if_neg (by rw[jr];intro hh;rw[hh k aB]at hib;cases hib),if_neg (by decide),if_pos hnm]
 · have k14:k=14:=by omega
   subst k14;have hcb:(List.range 14).all (oM c)=true:=jr.2 hin;have r3:=r.ext (X.mono hB);have dv:=V.cfg;have fin1:kU c P=(if P.length<1∨16<P.length then 2 else if P.any (fun p=>decide (1024<p.length)) then 17 else 0):=by rw[kU,if_pos hcb]
   by_cases h1:P.length<1;· (with_reducible repeat' (first|refine y1 ?_|refine y2 ?_|simp -dsimp only[↓WB,↓QB,WP,ae,Nat.reduceEqDiff,Nat.reduceAdd,↓e9,↓b1,↓b8,dv]));refine hK [80,114,111,103,114,97,109,115] (-1) _ X ?_;rw[fin1,if_pos (.inl h1),if_neg (by decide),if_pos (by simp)]
   by_cases h16:16<P.length;· (with_reducible repeat' (first|refine y1 ?_|refine y2 ?_|simp -dsimp only[↓WB,↓QB,WP,ae,Nat.reduceEqDiff,Nat.reduceAdd,↓e9,↓b1,↓b8,dv]));refine hK [80,114,111,103,114,97,109,115] (-1) _ X ?_;rw[fin1,if_pos (.inr h16),if_neg (by decide),if_pos (by simp)]
   have fin2:kU c P=(if P.any (fun p=>decide (1024<p.length)) then 17 else 0):=by rw[fin1,if_neg (by omega)]
   (with_reducible repeat' (first|refine y2 ?_|simp -dsimp only[↓WB,↓QB,WP,ae,Nat.reduceEqDiff,Nat.reduceAdd,↓e9,↓b1,↓b8,dv]));refine Eo r3 hP fun x hx=>?_;by_cases h0:x<0;· (with_reducible repeat' (first|refine y1 ?_|simp -dsimp only[↓WB,↓QB,WP,ae,Nat.reduceEqDiff,Nat.reduceAdd,↓e9,↓b1,↓b8,dv]));refine hK [] (-1) _ X ?_;rw[fin2,if_neg (by rw[← hx];omega),if_neg (by decide),if_neg (by simp)]
   · (with_reducible repeat' (first|refine y2 ?_|simp -dsimp only[↓WB,↓QB,WP,ae,Nat.reduceEqDiff,Nat.reduceAdd,↓e9,↓b1,↓b8,dv]));refine hK [80,114,111,103,114,97,109,115] x _ X ?_;rw[fin2,if_pos (by rw[← hx];omega),if_pos (by omega)]
theorem xF {B:Nat}{c:Nat→Int}{pv:Value}{P:List (List UInt8)}{h:Heap}{K:Value→Heap→Prop}(r:qk B h pv P) (hB:B≤h.n) (hP:P.length≤5000)
  (hK:∀ h',ai h.n h h'→K (.int .i64 (kU c P)) h'):bT env (.func 36) [.agg ⟨br c pv⟩] h K:=by
 obtain⟨pa,pc,rfl,_⟩:=id r
 refine F36 rfl ?_
 simp -dsimp only[↓WB,↓Yx,WP,ae,Nat.reduceEqDiff,Nat.reduceAdd,kZ]
 have V:=dm.new h (br c (.slice pa P.length pc)) 25
 have X:ai h.n h (af h (.cells (br c (.slice pa P.length pc)) 25 true)):=ai.new _ (Nat.le_refl _)
 have hn1:(af h (.cells (br c (.slice pa P.length pc)) 25 true)).n=h.n+1:=rfl
 generalize af h (.cells (br c (.slice pa P.length pc)) 25 true)=h1 at V X hn1 ⊢
 have dv:=V.cfg
 simp -dsimp only[↓WB,↓Yx,WP,ae,Nat.reduceEqDiff,Nat.reduceAdd,dv]
 refine HT (r.ext (X.mono hB)) (by omega) hP fun nm x h2 X2 hm=>?_
 have XX:=X.trans (X2.mono (show h.n≤h1.n by omega))
 unfold aq
 rw[hm]at hK
 by_cases hx:0≤x
 ·rw[if_pos hx]at hK;(with_reducible repeat' (first|refine y1 ?_|simp -dsimp only[↓WB,↓Yx,WP,ae,Nat.reduceEqDiff,Nat.reduceAdd]));exact hK _ XX
 ·rw[if_neg hx]at hK;by_cases hn:nm=[];·subst hn;rw[if_neg (by simp)]at hK;have e0:((⟨[].toArray⟩:ByteArray)=⟨⟨[]⟩⟩):=rfl;(with_reducible repeat' (first|refine y2 ?_|simp -dsimp only[↓WB,↓Yx,WP,ae,Nat.reduceEqDiff,Nat.reduceAdd,e0]));exact hK _ XX
  ·rw[if_pos hn]at hK;have e0:¬((⟨nm.toArray⟩:ByteArray)=⟨⟨[]⟩⟩):=fun e=>hn (str_inj.1 e);(with_reducible repeat' (first|refine y2 ?_|simp -dsimp only[↓WB,↓Yx,WP,ae,Nat.reduceEqDiff,Nat.reduceAdd,e0]));exact hK _ XX
theorem Jj {h:Heap}{K:Value→Heap→Prop}(hK:∀ j h',ai h.n h h'→j<h'.n→h.n≤j→(∀ k,k<14→cellAt h' ⟨j,k,none⟩=some (.int .u64 (yF k)))→K (.slice (some ⟨j,0,none⟩) 14 14) h'):bT env (.func 128) [] h K:=by
 refine F128 rfl ?_;simp -dsimp only[↓WB,↓Xq,WP,ae,Nat.reduceEqDiff,Nat.reduceAdd];refine lf (l:=(List.range 14).map fun k=>.int .u64 (yF k)) ?_ ?_;·rfl
 simp -dsimp only[↓WB,↓Xq,WP,ae,Nat.reduceEqDiff,Nat.reduceAdd];refine hK _ _ (ai.new _ (Nat.le_refl _)) (Nat.lt_succ_self _) (Nat.le_refl _) fun k hk=>?_;refine bB.trans ?_;rw[List.getElem?_map,List.getElem?_range hk];rfl
theorem Lh {h:Heap}{K:Value→Heap→Prop}(hK:∀ j h',ai h.n h h'→j<h'.n→h.n≤j→(∀ k,k<14→cellAt h' ⟨j,k,none⟩=some (.int .u64 (zB k)))→K (.slice (some ⟨j,0,none⟩) 14 14) h'):bT env (.func 129) [] h K:=by
 refine F129 rfl ?_;simp -dsimp only[↓WB,↓Xy,WP,ae,Nat.reduceEqDiff,Nat.reduceAdd];refine lf (l:=(List.range 14).map fun k=>.int .u64 (zB k)) ?_ ?_;·rfl
 simp -dsimp only[↓WB,↓Xy,WP,ae,Nat.reduceEqDiff,Nat.reduceAdd];refine hK _ _ (ai.new _ (Nat.le_refl _)) (Nat.lt_succ_self _) (Nat.le_refl _) fun k hk=>?_;refine bB.trans ?_;rw[List.getElem?_map,List.getElem?_range hk];rfl
def dC:List (List UInt8):=[[80,115],[82,105,110,103],[71,115],[67,111,110,116,101,120,116,115],[68,111,109,97,105,110,115],[78,111,100,101,115],[83,108,111,116,115],[82,101,102,105,108,108,115],[65,117,100,105,116],[83,108,105,99,101],[67,80,85],[80,101,114,105,111,100],[66,117,100,103,101,116],[69,97,99,104]]
theorem so {h:Heap}{K:Value→Heap→Prop}(hK:∀ j h',ai h.n h h'→j<h'.n→h.n≤j→(∀ k (hk:k<dC.length),cellAt h' ⟨j,k,none⟩=some (aq dC[k]))→K (.slice (some ⟨j,0,none⟩) 14 14) h'):bT env (.func 46) [] h K:=by
 refine F46 rfl ?_;simp -dsimp only[↓WB,↓W46,WP,ae,Nat.reduceEqDiff,Nat.reduceAdd];refine lf (l:=dC.map aq) ?_ ?_;·rfl
 simp -dsimp only[↓WB,↓W46,WP,ae,Nat.reduceEqDiff,Nat.reduceAdd];refine hK _ _ (ai.new _ (Nat.le_refl _)) (Nat.lt_succ_self _) (Nat.le_refl _) fun k hk=>?_;refine bB.trans ?_;rw[List.getElem?_map,List.getElem?_eq_getElem hk];rfl
theorem RW {B:Nat}{c:Nat→Int}{pa:Option Addr}{pn pc k:Nat}{h:Heap}{K:Value→Heap→Prop}(hk:k<14) (hK:∀ x h',ai h.n h h'→(x=0↔oM c k=true)→K (.int .i64 x) h') :
  bT env (.func 98) [.agg ⟨br c (.slice pa pn pc)⟩,.int .i64 k] h K:=by
 refine F98 rfl ?_
 simp -dsimp only[↓WB,↓Jq,WP,ae,Nat.reduceEqDiff,Nat.reduceAdd,kZ]
 have V:=dm.new h (br c (.slice pa pn pc)) 25
 have X:ai h.n h (af h (.cells (br c (.slice pa pn pc)) 25 true)):=ai.new _ (Nat.le_refl _)
 have hn1:(af h (.cells (br c (.slice pa pn pc)) 25 true)).n=h.n+1:=rfl
 generalize af h (.cells (br c (.slice pa pn pc)) 25 true)=h1 at V X hn1 ⊢
 have hl:=F4 hk
 refine Jj fun j2 h2 X2 hj2 hj2' hlo=>?_
 have n2:=X2.n
 have l1:=hlo k hk
 refine⟨n2,?_,?_⟩
 ·simp -dsimp only[↓WB,↓Jq,WP,ae,Nat.reduceEqDiff,Nat.reduceAdd]
 (with_reducible repeat' (first|refine y4 ?_|simp -dsimp only[↓WB,↓Jq,WP,ae,Nat.reduceEqDiff,Nat.reduceAdd,l1,Nat.mul_one,Nat.zero_add]))
 refine Lh fun j3 h3 X3 hj3 hj3' hhi=>?_
 have n3:=X3.n
 have l2:=hhi k hk
 have l1':=aI X3 hj2 l1
 refine⟨n3,?_,?_⟩
 ·simp -dsimp only[↓WB,↓Jq,WP,ae,Nat.reduceEqDiff,Nat.reduceAdd,l1',Nat.mul_one,Nat.zero_add];exact cZ _ _ _
 have V3:=(V.ext (X2.mono (Nat.le_refl _)) V.lt).ext X3 (by have:=V.lt;omega)
 have XX:=X.trans ((X2.mono (show h.n≤h1.n by omega)).trans (X3.mono (show h.n≤h2.n by omega)))
 have dv:=V3.cfg
 by_cases h10:k<10
 ·(with_reducible repeat' (first|refine y1 ?_|refine y4 ?_|simp -dsimp only[↓WB,↓Jq,WP,ae,Nat.reduceEqDiff,Nat.reduceAdd,l2,Nat.mul_one,Nat.zero_add,dv]));refine sZ fun j4 h4 X4 hj4 hs=>?_;have d4:=hs k h10;have w1:IntKind.wrap .i64 (yF k)=yF k:=wrap_i64 (by omega) (by omega);have w2:IntKind.wrap .i64 (zB k)=zB k:=wrap_i64 (by omega) (by omega);have XX4:=XX.trans (X4.mono (show h.n≤h3.n by omega));by_cases c1:c k<yF k;·(with_reducible repeat' (first|refine y1 ?_|refine y4 ?_|simp -dsimp only[↓WB,↓Jq,WP,ae,Nat.reduceEqDiff,Nat.reduceAdd,d4,Nat.mul_one,Nat.zero_add,w1,w2]));exact hK _ _ XX4 ⟨fun e=>(by cases e),fun e=>by simp only[oM,Bool.and_eq_true,decide_eq_true_eq]at e;omega⟩
  by_cases c2:zB k<c k;·(with_reducible repeat' (first|refine y1 ?_|refine y2 ?_|refine y4 ?_|simp -dsimp only[↓WB,↓Jq,WP,ae,Nat.reduceEqDiff,Nat.reduceAdd,d4,Nat.mul_one,Nat.zero_add,w1,w2]));exact hK _ _ XX4 ⟨fun e=>(by cases e),fun e=>by simp only[oM,Bool.and_eq_true,decide_eq_true_eq]at e;omega⟩
  (with_reducible repeat' (first|refine y2 ?_|refine y4 ?_|simp -dsimp only[↓WB,↓Jq,WP,ae,Nat.reduceEqDiff,Nat.reduceAdd,d4,Nat.mul_one,Nat.zero_add,w1,w2]));exact hK _ _ XX4 ⟨fun _=>by simp only[oM,Bool.and_eq_true,decide_eq_true_eq];omega,fun _=>rfl⟩
 ·(with_reducible repeat' (first|refine y2 ?_|refine y4 ?_|simp -dsimp only[↓WB,↓Jq,WP,ae,Nat.reduceEqDiff,Nat.reduceAdd,l2,Nat.mul_one,Nat.zero_add,dv]));refine sw fun j4 h4 X4 hj4 hs=>?_;have d4:=hs (k-10) (by omega);rw[show 10+(k-10)=k by omega]at d4;have w0:IntKind.wrap .i64 ((k:Int)-10)=((k-10:Nat):Int):=by rw[wrap_i64 (by omega) (by omega)];omega
  have XX4:=XX.trans (X4.mono (show h.n≤h3.n by omega));by_cases c1:c k<yF k;·(with_reducible repeat' (first|refine y1 ?_|refine y4 ?_|simp -dsimp only[↓WB,↓Jq,WP,ae,Nat.reduceEqDiff,Nat.reduceAdd,d4,Nat.mul_one,Nat.zero_add,w0]));exact hK _ _ XX4 ⟨fun e=>(by cases e),fun e=>by simp only[oM,Bool.and_eq_true,decide_eq_true_eq]at e;omega⟩
  by_cases c2:zB k<c k;·(with_reducible repeat' (first|refine y1 ?_|refine y2 ?_|refine y4 ?_|simp -dsimp only[↓WB,↓Jq,WP,ae,Nat.reduceEqDiff,Nat.reduceAdd,d4,Nat.mul_one,Nat.zero_add,w0]));exact hK _ _ XX4 ⟨fun e=>(by cases e),fun e=>by simp only[oM,Bool.and_eq_true,decide_eq_true_eq]at e;omega⟩
  (with_reducible repeat' (first|refine y2 ?_|refine y4 ?_|simp -dsimp only[↓WB,↓Jq,WP,ae,Nat.reduceEqDiff,Nat.reduceAdd,d4,Nat.mul_one,Nat.zero_add,w0]));exact hK _ _ XX4 ⟨fun _=>by simp only[oM,Bool.and_eq_true,decide_eq_true_eq];omega,fun _=>rfl⟩
theorem QJ {k:Nat}(hk:k<dC.length):dC[k]≠[]:=by
 have:dC.all (fun l=>!l.isEmpty)=true:=by decide
 have:=List.all_eq_true.1 this _ (List.getElem_mem hk);intro e;rw[e]at this;cases this
theorem Ac {B:Nat}{c:Nat→Int}{pv:Value}{P:List (List UInt8)}{h:Heap}{K:Value→Heap→Prop}(r:qk B h pv P) (hB:B≤h.n) (hP:P.length≤5000)
  (hK:∀ (nm:List UInt8) (x:Int) h',ai h.n h h'→kU c P=(if nm=[] then 0 else if x<0 then 2 else 17)→K (.tuple #[aq nm,.int .i64 x]) h'):bT env (.func 70) [.agg ⟨br c pv⟩] h K:=by
 obtain⟨pa,pc,rfl,_⟩:=id r
 refine F70 rfl ?_
 simp -dsimp only[↓WB,↓Ns,WP,ae,Nat.reduceEqDiff,Nat.reduceAdd,kZ]
 have V:=dm.new h (br c (.slice pa P.length pc)) 25
 have X:ai h.n h (af h (.cells (br c (.slice pa P.length pc)) 25 true)):=ai.new _ (Nat.le_refl _)
 have hn1:(af h (.cells (br c (.slice pa P.length pc)) 25 true)).n=h.n+1:=rfl
 generalize af h (.cells (br c (.slice pa P.length pc)) 25 true)=h1 at V X hn1 ⊢
 refine aE (fun m fr' h'=>∃ k:Nat,k≤14∧m=14-k∧ai h.n h h'∧dm h' h.n (br c (.slice pa P.length pc)) 25∧fr'.get 4=some (.int .i64 k)∧∀ i,i<k→oM c i=true) 14 ?_ (by omega) ?_
 ·exact⟨0,by omega,by omega,X,V,by simp[T.ah],fun i hi=>by omega⟩
 clear V X hn1
 rintro m fr2 h3 ⟨k,hk,rfl,X,V,f4,hin⟩ hag
 have e4:=aj f4
 have b1:=au (hag 1 rfl)
 have n3:=X.n
 have dv:=V.cfg
 by_cases aB:k<14
 ·(with_reducible repeat' (first|refine y1 ?_|simp -dsimp only[↓WB,↓Ns,WP,ae,Nat.reduceEqDiff,Nat.reduceAdd,↓e4,↓b1,dv]));refine RW (B:=B) aB fun x h4 X4 hx=>?_;have n4:=X4.n;have XX:=X.trans (X4.mono n3);by_cases h0:x=0;·subst h0;have hi:=hx.1 rfl;simp -dsimp only[↓WB,↓Ns,WP,ae,Nat.reduceEqDiff,Nat.reduceAdd,↓e4,↓b1];exact⟨14-(k+1),by omega,k+1,by omega,rfl,XX,V.ext X4 V.lt,by simp[T.ah,bf (show k≤4611686018427387904 by omega)],fun i hi'=>by
    by_cases e:i=k;·subst e;exact hi
    ·exact hin i (by omega)⟩
  ·(with_reducible repeat' (first|refine y2 ?_|simp -dsimp only[↓WB,↓Ns,WP,ae,Nat.reduceEqDiff,Nat.reduceAdd,↓e4,↓b1]));refine so fun j h5 X5 hj _ hnm=>?_;have hlt':k<dC.length:=aB;have d5:=hnm k hlt';unfold aq at d5;(with_reducible repeat' (first|refine y4 ?_|simp -dsimp only[↓WB,↓Ns,WP,ae,Nat.reduceEqDiff,Nat.reduceAdd,↓e4,↓b1,d5,Nat.mul_one,Nat.zero_add]));refine hK dC[k] (-1) _ (XX.trans (X5.mono (by omega))) ?_;rw[kU,if_neg (by rw[jr];intro hh;exact h0 (hx.2 (hh k aB))),if_neg (QJ hlt'),if_pos (by decide)]
 ·have k14:k=14:=by omega
  subst k14;have hcb:(List.range 14).all (oM c)=true:=jr.2 hin;have r3:=r.ext (X.mono hB);have fin1:kU c P=(if P.length<1∨16<P.length then 2 else if P.any (fun p=>decide (1024<p.length)) then 17 else 0):=by rw[kU,if_pos hcb]
  by_cases h1:P.length=0
  ·have h1':((P.length:Int)=0):=by omega
   (with_reducible repeat' (first|refine y2 ?_|simp -dsimp only[↓WB,↓Ns,WP,ae,Nat.reduceEqDiff,Nat.reduceAdd,↓e4,↓b1,dv,h1']));refine hK [80,114,111,103,114,97,109,115] (-1) _ X ?_;rw[fin1,if_pos (.inl (by omega)),if_neg (by simp),if_pos (by decide)]
  have h1':¬((P.length:Int)=0):=by omega
  by_cases h16:16<P.length;·(with_reducible repeat' (first|refine y1 ?_|refine y2 ?_|simp -dsimp only[↓WB,↓Ns,WP,ae,Nat.reduceEqDiff,Nat.reduceAdd,↓e4,↓b1,dv,h1']));refine hK [80,114,111,103,114,97,109,115] (-1) _ X ?_;rw[fin1,if_pos (.inr h16),if_neg (by simp),if_pos (by decide)]
  have fin2:kU c P=(if P.any (fun p=>decide (1024<p.length)) then 17 else 0):=by rw[fin1,if_neg (by omega)]
  (with_reducible repeat' (first|refine y2 ?_|simp -dsimp only[↓WB,↓Ns,WP,ae,Nat.reduceEqDiff,Nat.reduceAdd,↓e4,↓b1,dv,h1']));refine aE (fun m fr' h''=>∃ k:Nat,k≤P.length∧m=P.length-k∧h''=h3∧fr'.get 5=some (.int .i64 k)∧(∀ j (hj:j<P.length),j<k→P[j].length≤1024)) P.length ?_ (by omega) ?_;·exact⟨0,by omega,by omega,rfl,by simp[T.ah],fun j _ hj=>by omega⟩
  rintro m fr4 h'' ⟨k,hk,rfl,rfl,f5,hp⟩ hag2;have e5:=aj f5;have c1:=au (hag2 1 rfl);by_cases aB:k<P.length
  ·obtain⟨i,o,ua,uc,rfl,hi,hc,hu⟩:=r3.at_ aB;by_cases hl:1024<P[k].length;·(with_reducible repeat' (first|refine y1 ?_|refine y4 ?_|simp -dsimp only[↓WB,↓Ns,WP,ae,Nat.reduceEqDiff,Nat.reduceAdd,↓e5,↓c1,↓b1,dv,hc,Nat.mul_one]));refine hK [80,114,111,103,114,97,109,115] k _ X ?_;rw[fin2,if_pos (List.any_eq_true.2 ⟨P[k],List.getElem_mem _,decide_eq_true hl⟩),if_neg (by simp),if_neg (by omega)]
   ·(with_reducible repeat' (first|refine y1 ?_|refine y2 ?_|refine y4 ?_|simp -dsimp only[↓WB,↓Ns,WP,ae,Nat.reduceEqDiff,Nat.reduceAdd,↓e5,↓c1,↓b1,dv,hc,Nat.mul_one]));exact⟨P.length-(k+1),by omega,k+1,by omega,rfl,by simp[T.ah,bf (show k≤4611686018427387904 by omega)],fun j hj hjk=>by
     by_cases e:j=k;·subst e;omega
     ·exact hp j hj (by omega)⟩
  ·(with_reducible repeat' (first|refine y2 ?_|simp -dsimp only[↓WB,↓Ns,WP,ae,Nat.reduceEqDiff,Nat.reduceAdd,↓e5,↓c1,↓b1,dv]));refine hK [] (-1) _ X ?_;rw[fin2,if_neg (by intro hh;obtain⟨p,hm,hd⟩:=List.any_eq_true.1 hh;obtain⟨j,hj,rfl⟩:=List.getElem_of_mem hm;have:=hp j hj (by omega);have:=of_decide_eq_true hd;omega),if_pos rfl]
theorem Cj {B:Nat}{c:Nat→Int}{pv:Value}{P:List (List UInt8)}{h:Heap}{K:Value→Heap→Prop}(r:qk B h pv P) (hB:B≤h.n) (hP:P.length≤5000)
  (hK:∀ h',ai h.n h h'→K (.int .i64 (kU c P)) h'):bT env (.func 35) [.agg ⟨br c pv⟩] h K:=by
 obtain⟨pa,pc,rfl,_⟩:=id r
 refine F35 rfl ?_
 simp -dsimp only[↓WB,↓X9,WP,ae,Nat.reduceEqDiff,Nat.reduceAdd,kZ]
 have V:=dm.new h (br c (.slice pa P.length pc)) 25
 have X:ai h.n h (af h (.cells (br c (.slice pa P.length pc)) 25 true)):=ai.new _ (Nat.le_refl _)
 have hn1:(af h (.cells (br c (.slice pa P.length pc)) 25 true)).n=h.n+1:=rfl
 generalize af h (.cells (br c (.slice pa P.length pc)) 25 true)=h1 at V X hn1 ⊢
 have dv:=V.cfg
 simp -dsimp only[↓WB,↓X9,WP,ae,Nat.reduceEqDiff,Nat.reduceAdd,dv]
 refine Ac (r.ext (X.mono hB)) (by omega) hP fun nm x h2 X2 hm=>?_
 have XX:=X.trans (X2.mono (show h.n≤h1.n by omega))
 unfold aq
 rw[hm]at hK
 by_cases hn:nm=[]
 ·subst hn;rw[if_pos rfl]at hK;have e0:((⟨[].toArray⟩:ByteArray)=⟨⟨[]⟩⟩):=rfl;simp -dsimp only[↓WB,↓X9,WP,ae,Nat.reduceEqDiff,Nat.reduceAdd,e0];exact hK _ XX
 ·rw[if_neg hn]at hK;have e0:¬((⟨nm.toArray⟩:ByteArray)=⟨⟨[]⟩⟩):=fun e=>hn (str_inj.1 e);by_cases hx:x<0;·rw[if_pos hx]at hK;(with_reducible repeat' (first|refine y1 ?_|simp -dsimp only[↓WB,↓X9,WP,ae,Nat.reduceEqDiff,Nat.reduceAdd,e0]));exact hK _ XX
  ·rw[if_neg hx]at hK;(with_reducible repeat' (first|refine y2 ?_|simp -dsimp only[↓WB,↓X9,WP,ae,Nat.reduceEqDiff,Nat.reduceAdd,e0]));exact hK _ XX
theorem RX {h:Heap}{a:ba}:cellAt (af h (.cells a.cells 35 true)) ⟨h.n,0,none⟩=some (.int .i64 a.k)∧cellAt (af h (.cells a.cells 35 true)) ⟨h.n,1,none⟩=some (.int .i64 a.p)∧cellAt (af h (.cells a.cells 35 true)) ⟨h.n,2,none⟩=some (.int .i64 a.v)∧cellAt (af h (.cells a.cells 35 true)) ⟨h.n,3,none⟩=some (.int .i64 a.c)∧ax (af h (.cells a.cells 35 true)) ⟨h.n,0,none⟩ 4=some a.cells :=
 ⟨bB,bB,bB,bB,bA rfl⟩
theorem Tg {a:ba}:a.cells.all aF=true:=rfl
theorem KH {a:ba}{h:Heap}{K:Value→Heap→Prop}(hK:∀ h',ai h.n h h'→K (.bool (ft a)) h'):bT env (.func 39) [.agg ⟨a.cells⟩] h K:=by
 refine F39 rfl ?_;have X:ai h.n h (af h (.cells [.int .i64 a.k,.int .i64 a.p,.int .i64 a.v,.int .i64 a.c] 35 true)):=ai.new _ (Nat.le_refl _);simp only[ba.cells];by_cases h1:a.k=1
 · (with_reducible repeat' (first|refine y1 ?_|refine y6 ?_|simp -dsimp only[↓WB,↓W39,WP,ae,Nat.reduceEqDiff,Nat.reduceAdd]));have:ft a=true:=by simp[ft,h1]
   rw[this]at hK;exact hK _ X
 · by_cases h2:a.k=2∧a.p=0∧a.v=0∧a.c=0;· (with_reducible repeat' (first|refine y1 ?_|refine y2 ?_|refine y6 ?_|refine y9 ?_|simp -dsimp only[↓WB,↓W39,WP,ae,Nat.reduceEqDiff,Nat.reduceAdd]));all_goals first
       | omega
       | (have:ft a=true:=by simp[ft,h2]
          rw[this]at hK
          exact hK _ X)
   · have:ft a=false:=by
       cases hb:ft a with
       | false=>rfl
       | true=>simp only[ft,Bool.or_eq_true,Bool.and_eq_true,decide_eq_true_eq]at hb;omega
     rw[this]at hK;(with_reducible repeat' (first|refine y2 ?_|refine y6 ?_|refine y9 ?_|simp -dsimp only[↓WB,↓W39,WP,ae,Nat.reduceEqDiff,Nat.reduceAdd]));all_goals first
       | omega
       | exact hK _ X
theorem Jn {a:ba}{h:Heap}{K:Value→Heap→Prop}(hK:∀ h',ai h.n h h'→K (.bool (!ft a)) h'):bT env (.func 38) [.agg ⟨a.cells⟩] h K:=by refine F38 rfl ?_;simp -dsimp only[↓WB,↓W38,WP,ae,Nat.reduceEqDiff,Nat.reduceAdd,Tg];have d:=RX (h:=h) (a:=a);have X:ai h.n h (af h (.cells a.cells 35 true)):=ai.new _ (Nat.le_refl _);have n1:(af h (.cells a.cells 35 true)).n=h.n+1:=rfl;generalize af h (.cells a.cells 35 true)=h1 at d X n1 ⊢;simp -dsimp only[↓WB,↓W38,WP,ae,Nat.reduceEqDiff,Nat.reduceAdd,d];refine KH fun h2 X2=>?_;simp -dsimp only[↓WB,↓W38,WP,ae,Nat.reduceEqDiff,Nat.reduceAdd];exact hK _ (X.trans (X2.mono (by omega)))
theorem Fc {B:Nat}{v:Value}{A:List ba}{h:Heap}{K:Value→Heap→Prop}(r:qg B h v A) (hB:B≤h.n) (hA:A.length≤100000) (hK:∀ (x:Int) h',ai h.n h h'→(x<0↔A.all ft=true)→K (.int .i64 x) h') :
   bT env (.func 72) [v,.func (.func 38) #[] #[]] h K:=by
 obtain⟨pa,pc,rfl,_⟩:=id r
 refine F72 rfl ?_
 simp -dsimp only[↓WB,↓Ye,WP,ae,Nat.reduceEqDiff,Nat.reduceAdd]
 refine aE (fun m fr' h''=>∃ k:Nat,k≤A.length∧m=A.length-k∧ai h.n h h''∧fr'.get 8=some (.int .i64 k)∧(∀ j (hj:j<A.length),j<k→ft A[j]=true)) A.length ?_ (by omega) ?_
 · exact⟨0,by omega,by omega,ai.refl _ _,by simp[T.ah],fun j _ hj=>by omega⟩
 rintro m fr4 h2 ⟨k,hk,rfl,X,f8,hp⟩ hag
 have e8:=aj f8
 have b0:=au (hag 0 rfl)
 have b1:=au (hag 1 rfl)
 have b7:=au (hag 7 rfl)
 have n2:=X.n
 by_cases aB:k<A.length
 · obtain⟨i,o,rfl,hi,hc⟩:=(r.ext (X.mono hB)).at_ aB;(with_reducible repeat' (first|refine y1 ?_|refine y4 ?_|simp -dsimp only[↓WB,↓Ye,WP,ae,Nat.reduceEqDiff,Nat.reduceAdd,↓e8,↓b0,↓b1,↓b7,hc]));refine Jn fun h3 X3=>?_;have XX:=X.trans (X3.mono n2);cases hl:ft A[k]with
   | false =>simp -dsimp only[↓WB,↓Ye,WP,ae,Nat.reduceEqDiff,Nat.reduceAdd,↓e8,↓b0,↓b1,↓b7];exact hK _ _ XX ⟨fun _=>by omega,fun e=>by have:=List.all_eq_true.1 e _ (List.getElem_mem aB);rw[hl]at this;cases this⟩
   | true =>simp -dsimp only[↓WB,↓Ye,WP,ae,Nat.reduceEqDiff,Nat.reduceAdd,↓e8,↓b0,↓b1,↓b7];exact⟨A.length-(k+1),by omega,k+1,by omega,rfl,XX,by simp[T.ah,bf (show k≤4611686018427387904 by omega)],fun j hj hjk=>by
       by_cases e:j=k;· subst e;exact hl
       · exact hp j hj (by omega)⟩
 · (with_reducible repeat' (first|refine y2 ?_|simp -dsimp only[↓WB,↓Ye,WP,ae,Nat.reduceEqDiff,Nat.reduceAdd,↓e8,↓b0,↓b1,↓b7]));exact hK _ _ X ⟨fun _=>List.all_eq_true.2 fun x hx=>by obtain⟨j,hj,rfl⟩:=List.getElem_of_mem hx;exact hp j hj (by omega),fun _=>by omega⟩
theorem Q9 {B:Nat}{c:Nat→Int}{pv av:Value}{P:List (List UInt8)}{A:List ba}{h:Heap}{K:Value→Heap→Prop}(r:qk B h pv P) (ra:qg B h av A) (hB:B≤h.n) (hP:P.length≤5000) (hA:A.length≤100000)
  (hK:∀ h',ai h.n h h'→K (.int .i64 (iz c P A)) h'):bT env (.func 14) [.agg ⟨aV c pv av⟩] h K:=by
 obtain⟨pa,pc,rfl,_⟩:=id r
 obtain⟨aa,ac,rfl,_⟩:=id ra
 refine F14 rfl ?_
 simp -dsimp only[↓WB,↓W2,WP,ae,Nat.reduceEqDiff,Nat.reduceAdd,jm]
 have V:=dm.new h (aV c (.slice pa P.length pc) (.slice aa A.length ac)) 28
 have X:ai h.n h (af h (.cells (aV c (.slice pa P.length pc) (.slice aa A.length ac)) 28 true)):=ai.new _ (Nat.le_refl _)
 have hn1:(af h (.cells (aV c (.slice pa P.length pc) (.slice aa A.length ac)) 28 true)).n=h.n+1:=rfl
 generalize af h (.cells (aV c (.slice pa P.length pc) (.slice aa A.length ac)) 28 true)=h1 at V X hn1 ⊢
 have dv:=V.kW
 simp -dsimp only[↓WB,↓W2,WP,ae,Nat.reduceEqDiff,Nat.reduceAdd,dv]
 refine xF (r.ext (X.mono hB)) (by omega) hP fun h2 X2=>?_
 have n2:=X2.n
 have V2:=V.ext X2 (by omega)
 replace X:=X.trans (X2.mono (show h.n≤h1.n by omega))
 have dv2:=V2.kW
 by_cases hm:kU c P=0
 case neg =>
  have e:iz c P A=kU c P:=by rw[iz,if_pos hm]
  rw[e]at hK;simp -dsimp only[↓WB,↓W2,WP,ae,Nat.reduceEqDiff,Nat.reduceAdd,hm];exact hK _ X
 simp -dsimp only[↓WB,↓W2,WP,ae,Nat.reduceEqDiff,Nat.reduceAdd,dv2,hm]
 refine F37 rfl ?_
 simp -dsimp only[↓WB,↓W37,WP,ae,Nat.reduceEqDiff,Nat.reduceAdd]
 refine Fc (ra.ext (X.mono hB)) (by omega) hA fun x h3 X3 hx=>?_
 have n3:=X3.n
 have V3:=V2.ext X3 (by omega)
 replace X:=X.trans (X3.mono (show h.n≤h2.n by omega))
 have dv3:=V3.kW
 by_cases h0:x<0
 ·have e:iz c P A=0:=by rw[iz,if_neg (by omega),if_pos (hx.1 h0),if_neg (by omega)]
  rw[e]at hK;(with_reducible repeat' (first|refine y2 ?_|simp -dsimp only[↓WB,↓W37,WP,ae,Nat.reduceEqDiff,Nat.reduceAdd]));(with_reducible repeat' (first|refine y2 ?_|simp -dsimp only[↓WB,↓W2,WP,ae,Nat.reduceEqDiff,Nat.reduceAdd,dv3]));exact hK _ X
 ·have e:iz c P A=2:=by rw[iz,if_neg (by omega),if_neg (fun e=>h0 (hx.2 e))]
  rw[e]at hK;(with_reducible repeat' (first|refine y1 ?_|simp -dsimp only[↓WB,↓W37,WP,ae,Nat.reduceEqDiff,Nat.reduceAdd]));simp -dsimp only[↓WB,↓W2,WP,ae,Nat.reduceEqDiff,Nat.reduceAdd,dv3];exact hK _ X
theorem DV {B:Nat}{c:Nat→Int}{pv av:Value}{P:List (List UInt8)}{A:List ba}{h:Heap}{K:Value→Heap→Prop}(r:qk B h pv P) (ra:qg B h av A) (hB:B≤h.n) (hP:P.length≤5000) (hA:A.length≤100000)
   (hK:∀ h',ai h.n h h'→K (.int .i64 (iz c P A)) h'):bT env (.func 13) [.agg ⟨aV c pv av⟩] h K:=by
 obtain⟨pa,pc,rfl,_⟩:=id r
 obtain⟨aa,ac,rfl,_⟩:=id ra
 refine F13 rfl ?_
 simp -dsimp only[↓WB,↓U9,WP,ae,Nat.reduceEqDiff,Nat.reduceAdd,jm]
 have V:=dm.new h (aV c (.slice pa P.length pc) (.slice aa A.length ac)) 28
 have X:ai h.n h (af h (.cells (aV c (.slice pa P.length pc) (.slice aa A.length ac)) 28 true)):=ai.new _ (Nat.le_refl _)
 have hn1:(af h (.cells (aV c (.slice pa P.length pc) (.slice aa A.length ac)) 28 true)).n=h.n+1:=rfl
 generalize af h (.cells (aV c (.slice pa P.length pc) (.slice aa A.length ac)) 28 true)=h1 at V X hn1 ⊢
 have dv:=V.kW
 simp -dsimp only[↓WB,↓U9,WP,ae,Nat.reduceEqDiff,Nat.reduceAdd,dv]
 refine Cj (r.ext (X.mono hB)) (by omega) hP fun h2 X2=>?_
 have n2:=X2.n
 have V2:=V.ext X2 (by omega)
 replace X:=X.trans (X2.mono (show h.n≤h1.n by omega))
 by_cases hm:kU c P=0
 case neg =>
   have e:iz c P A=kU c P:=by rw[iz,if_pos hm]
   rw[e]at hK;simp -dsimp only[↓WB,↓U9,WP,ae,Nat.reduceEqDiff,Nat.reduceAdd,hm];exact hK _ X
 simp -dsimp only[↓WB,↓U9,WP,ae,Nat.reduceEqDiff,Nat.reduceAdd,hm]
 refine aE (fun m fr' h''=>∃ k:Nat,k≤A.length∧m=A.length-k∧ai h.n h h''∧dm h'' h.n (aV c (.slice pa P.length pc) (.slice aa A.length ac)) 28∧fr'.get 4=some (.int .i64 k)∧(∀ j (hj:j<A.length),j<k→ft A[j]=true)) A.length ?_ (by omega) ?_
 · exact⟨0,by omega,by omega,X,V2,by simp[T.ah],fun j _ hj=>by omega⟩
 clear V V2 X dv
 rintro m fr4 h2 ⟨k,hk,rfl,X,V,f4,hp⟩ hag
 have e4:=aj f4
 have b1:=au (hag 1 rfl)
 have n2:=X.n
 have dv:=V.kW
 by_cases aB:k<A.length
 · obtain⟨i,o,rfl,hi,hc⟩:=(ra.ext (X.mono hB)).at_ aB;have bad:∀ bk:fa,ft A[k]=false→K (.int .i64 2) (af h2 bk):=fun bk hb=>by
     have e:iz c P A=2:=by rw[iz,if_neg (by omega),if_neg (fun e=>by have:=List.all_eq_true.1 e _ (List.getElem_mem aB);rw[hb]at this;cases this)]
     rw[e]at hK;exact hK _ (X.trans (ai.new _ n2))
   have good:∀ (bk:fa),ft A[k]=true→ai h.n h (af h2 bk)∧dm (af h2 bk) h.n (aV c (.slice pa P.length pc) (.slice (some ⟨i,o,none⟩) A.length ac)) 28∧(∀ j (hj:j<A.length),j<k+1→ft A[j]=true):=fun bk hb =>
     ⟨X.trans (ai.new _ n2),V.ext (ai.new (B:=h2.n) _ (Nat.le_refl _)) V.lt,fun j hj hjk=>by
       by_cases e:j=k;· subst e;exact hb
       · exact hp j hj (by omega)⟩
   by_cases h1:A[k].k=1
   · have hb:ft A[k]=true:=by simp[ft,h1]
     (with_reducible repeat' (first|refine y1 ?_|refine y4 ?_|refine y7 ?_|simp -dsimp only[↓WB,↓U9,WP,ae,Nat.reduceEqDiff,Nat.reduceAdd,↓e4,↓b1,dv,hc]));obtain⟨g1,g2,g3⟩:=good _ hb;exact⟨A.length-(k+1),by omega,k+1,by omega,rfl,g1,g2,by simp[T.ah,bf (show k≤4611686018427387904 by omega)],g3⟩
   · by_cases h2':A[k].k=2∧A[k].p=0∧A[k].v=0∧A[k].c=0
     · have hb:ft A[k]=true:=by simp[ft,h2']
       (with_reducible repeat' (first|refine y1 ?_|refine y2 ?_|refine y4 ?_|refine y7 ?_|simp -dsimp only[↓WB,↓U9,WP,ae,Nat.reduceEqDiff,Nat.reduceAdd,↓e4,↓b1,dv,hc]));all_goals first
         | omega
         | (obtain⟨g1,g2,g3⟩:=good _ hb
            exact⟨A.length-(k+1),by omega,k+1,by omega,rfl,g1,g2,by simp[T.ah,bf (show k≤4611686018427387904 by omega)],g3⟩)
     · have hb:ft A[k]=false:=by
         cases hb:ft A[k]with
         | false=>rfl
         | true=>simp only[ft,Bool.or_eq_true,Bool.and_eq_true,decide_eq_true_eq]at hb;omega
       (with_reducible repeat' (first|refine y1 ?_|refine y2 ?_|refine y3 (fun _=>?_) (fun _=>?_)|refine y4 ?_|refine y7 ?_|simp -dsimp only[↓WB,↓U9,WP,ae,Nat.reduceEqDiff,Nat.reduceAdd,↓e4,↓b1,dv,hc]));all_goals first
         | omega
         | exact bad _ hb
 · have e:iz c P A=0:=by rw[iz,if_neg (by omega),if_pos (List.all_eq_true.2 fun x hx=>by obtain⟨j,hj,rfl⟩:=List.getElem_of_mem hx;exact hp j hj (by omega)),if_neg (by omega)]
   rw[e]at hK;(with_reducible repeat' (first|refine y2 ?_|simp -dsimp only[↓WB,↓U9,WP,ae,Nat.reduceEqDiff,Nat.reduceAdd,↓e4,↓b1,dv]));exact hK _ X
end Go.Proofs.YtohjaacnlmkhbaaGreatDoor
