/- THE PLAIN MACHINE's FUNCTIONS, walked (24). Conditions: none beyond each theorem's own. -/
import Derived.Test.YthjlppdnlahhoaaGreatP23
set_option linter.unusedSimpArgs false
set_option linter.unusedVariables false
namespace Go.Proofs.YthjlppdnlahhoaaGreat
open Go.Ev
open Pl
set_option maxRecDepth 100000
set_option maxHeartbeats 4000000
theorem Ma {c:Nat→Int}{a:Option Addr}{n cc:Nat}{h:ak}{K:Value→ak→Prop}
  (hK:∀ j h',aw h.n h h'→j<h'.n→(∀ k,k<10→cellAt h' (ad j k)=some (iv (c k)))→K (.slice (some ⟨j,0,none⟩) 10 10) h'):cy env (.func 106) [.agg ⟨bU c (.slice a n cc)⟩] h K:=by
 refine F106 rfl ?_
 simp only[bU]
 refine wk ?_
 refine lN (l:=[iv (c 0),iv (c 1),iv (c 2),iv (c 3),iv (c 4),iv (c 5),iv (c 6),iv (c 7),iv (c 8),iv (c 9)]) ?_ ?_
 ·rfl
 refine wk ?_
 refine hK _ _ ((aw.new _ a_).trans (aw.new _ (aL _))) (cK _) fun k hk=>?_
 refine(bI (h:=ai h _)).trans ?_
 rcases k with _|_|_|_|_|_|_|_|_|_|k<;>first|rfl|omega
theorem KT {c:Nat→Int}{a:Option Addr}{n cc:Nat}{h:ak}{K:Value→ak→Prop}
  (hK:∀ j h',aw h.n h h'→j<h'.n→(∀ k,k<4→cellAt h' (ad j k)=some (uv (c (10+k))))→K (.slice (some ⟨j,0,none⟩) 4 4) h'):cy env (.func 107) [.agg ⟨bU c (.slice a n cc)⟩] h K:=by
 refine F107 rfl ?_
 simp only[bU]
 refine wk ?_
 refine lN (l:=[uv (c 10),uv (c 11),uv (c 12),uv (c 13)]) ?_ ?_
 ·rfl
 refine wk ?_
 refine hK _ _ ((aw.new _ a_).trans (aw.new _ (aL _))) (cK _) fun k hk=>?_
 refine(bI (h:=ai h _)).trans ?_
 rcases k with _|_|_|_|k<;>first|rfl|omega
def ptT (k:Nat):Nat:=if k<10 then 231 else 232
theorem Dg {c:Nat→Int}{pv:Value}{k:Nat}(hk:k<14):(bU c pv)[k]?=some (.int (if k<10 then .i64 else .u64) (c k)):=by rcases k with _|_|_|_|_|_|_|_|_|_|_|_|_|_|k<;>first|rfl|omega
def Bp (i:Nat):Int:=[1,2,1,1,1,3,3,2,1,1,1,1,1,1].getD i 1
def By (i:Nat):Int:=[8,32,64,32,32,512,32,16,256,64,4294967296,4294967296,4294967296,4294967296].getD i 1
def xS (c:Nat→Int) (i:Nat):Bool:=decide (Bp i≤c i)&&decide (c i≤By i)
def qE (c:Nat→Int) (P:List (List UInt8)):Int :=
 if (List.range 14).all (xS c) then (if P.length<1∨16<P.length then 2 else if P.any (fun p=>decide (1024<p.length)) then 17 else 0) else 2
theorem Sg {i:Nat}(hi:i<14):0<Bp i∧Bp i≤By i∧By i≤4294967296:=by rcases i with _|_|_|_|_|_|_|_|_|_|_|_|_|_|i<;>first|decide|omega
theorem xw {c:Nat→Int}{k:Nat}(hk:k<14):(min (max (c k) (Bp k)) (By k)=c k)↔xS c k=true:=by have:=Sg hk;simp only[xS,aZ,decide_eq_true_eq];omega
theorem qJ {c:Nat→Int}:(List.range 14).all (xS c)=true↔∀ i,i<14→xS c i=true:=by simp[dX]
structure BndR (i:Nat) (l:List Value):Prop where
 len:l.length=56
 one:l.all aE=true
 row:∀ k,k<14→∃ nm:List UInt8,nm≠[]∧(l.drop (k*4)).take 4=[nC nm,.iface (ptT k) (pt i k),iv (Bp k),iv (By k)]
theorem EX {i:Nat}{h:ak}{K:Value→ak→Prop}(hK:∀ l h',aw h.n h h'→BndR i l→K (.agg ⟨l⟩) h'):cy env (.func 65) [pt i 0] h K:=by refine F65 rfl ?_;refine wk ?_;refine hK _ _ br ⟨rfl,rfl,fun k hk=>?_⟩;rcases k with _|_|_|_|_|_|_|_|_|_|_|_|_|_|k;all_goals first|exact⟨_,List.cons_ne_nil _ _,rfl⟩|omega
theorem Ba {x:Value}:∀ {cs:List Value}{k:Nat},k<cs.length→fV cs k [x]=some (cs.set k x)
 | [],k,h=>by simp at h
 | c::cs,0,_=>by rw[fV,bF,if_pos rfl];cases cs<;>rfl
 | c::cs,k+1,h=>by rw[fV,bF,if_neg ah];show (fV cs k [x]).map (c::·)=_;rw[Ba (by simpa using h)];rfl
theorem SP {c:Nat→Int}{pv:Value}{k:Nat}(hk:k<14) {x:Value}(hx:(bU c pv)[k]?=some x):(bU c pv).set k x=bU c pv:=by
 apply List.ext_getElem?;intro j;rw[AO];split;·rename_i e;subst e;rw[if_pos (by show k<15;omega),hx]
 ·rfl
theorem HA {i k:Nat}{c:Nat→Int}{pa:Option Addr}{pn pc:Nat}{lo hi:Int}{h:ak}{K:Value→ak→Prop}(b:iI h i (bU c (.slice pa pn pc)) 25) (hk:k<10) (hk14:k<14)
  (hK:K (.bool (decide (min (max (c k) lo) hi=c k))) { h with b:=h.b.set i (.cells ((bU c (.slice pa pn pc)).set k (iv (min (max (c k) lo) hi))) 25 true) }):cy env (.func 108) [pt i k,iv lo,iv hi] h K:=by
 refine F108 rfl ?_
 have c1:cellAt h (ad i k)=some (iv (c k)):=b.at_ (by rw[Dg hk14];simp only[hk,if_true])
 refine wk ?_
 refine fa (cs':=(bU c (.slice pa pn pc)).set k (iv (min (max (c k) lo) hi))) b.get rfl rfl (Ba (by show k<15;omega)) rfl ao ?_
 have b':iI { h with b:=h.b.set i (.cells ((bU c (.slice pa pn pc)).set k (iv (min (max (c k) lo) hi))) 25 true) } i ((bU c (.slice pa pn pc)).set k (iv (min (max (c k) lo) hi))) 25:=b.set
 have c2:=b'.at_ (j:=k) (v:=iv (min (max (c k) lo) hi)) (by rw[AO];simp only[if_true];rw[if_pos (by show k<15;omega)])
 by_cases he:min (max (c k) lo) hi=c k
 ·rw[decide_eq_true he]at hK;refine wk ?_;exact hK
 ·rw[decide_eq_false he]at hK;refine wk ?_;exact hK
theorem HE {i k:Nat}{c:Nat→Int}{pa:Option Addr}{pn pc:Nat}{lo hi:Int}{h:ak}{K:Value→ak→Prop}(b:iI h i (bU c (.slice pa pn pc)) 25) (hk:¬k<10) (hk14:k<14)
  (hK:K (.bool (decide (min (max (c k) lo) hi=c k))) { h with b:=h.b.set i (.cells ((bU c (.slice pa pn pc)).set k (uv (min (max (c k) lo) hi))) 25 true) }):cy env (.func 109) [pt i k,uv lo,uv hi] h K:=by
 refine F109 rfl ?_
 have c1:cellAt h (ad i k)=some (uv (c k)):=b.at_ (by rw[Dg hk14];simp only[hk,if_false])
 refine wk ?_
 refine fa (cs':=(bU c (.slice pa pn pc)).set k (uv (min (max (c k) lo) hi))) b.get rfl rfl (Ba (by show k<15;omega)) rfl ao ?_
 have b':iI { h with b:=h.b.set i (.cells ((bU c (.slice pa pn pc)).set k (uv (min (max (c k) lo) hi))) 25 true) } i ((bU c (.slice pa pn pc)).set k (uv (min (max (c k) lo) hi))) 25:=b.set
 have c2:=b'.at_ (j:=k) (v:=uv (min (max (c k) lo) hi)) (by rw[AO];simp only[if_true];rw[if_pos (by show k<15;omega)])
 by_cases he:min (max (c k) lo) hi=c k
 ·rw[decide_eq_true he]at hK;refine wk ?_;exact hK
 ·rw[decide_eq_false he]at hK;refine wk ?_;exact hK
theorem HZ {B i k:Nat}{c:Nat→Int}{pa:Option Addr}{pn pc:Nat}{nm:List UInt8}{h:ak}{K:Value→ak→Prop}(b:iI h i (bU c (.slice pa pn pc)) 25) (hBi:B≤i) (hk14:k<14)
  (hK:∀ h',aw B h h'→(∀ j,j<h.n→j≠i→h'.b.get j=h.b.get j)→(xS c k=true→iI h' i (bU c (.slice pa pn pc)) 25)→K (.bool (xS c k)) h'):cy env (.func 66) [.agg ⟨[nC nm,.iface (ptT k) (pt i k),iv (Bp k),iv (By k)]⟩] h K:=by
 have hl:=Sg hk14
 have fin:∀ (kd:IntKind) (h1:ak),aw h.n h h1→iI h1 i (bU c (.slice pa pn pc)) 25→(bU c (.slice pa pn pc))[k]?=some (.int kd (c k))→K (.bool (decide (min (max (c k) (Bp k)) (By k)=c k))) { h1 with b:=h1.b.set i (.cells ((bU c (.slice pa pn pc)).set k (.int kd (min (max (c k) (Bp k)) (By k)))) 25 true) }:=by
  intro kd h1 X b1 hc;have hd:decide (min (max (c k) (Bp k)) (By k)=c k)=xS c k:=by
   cases hb:xS c k with
   | true=>exact decide_eq_true ((xw hk14).2 hb)
   | false=>exact decide_eq_false fun e=>by rw[(xw hk14).1 e]at hb;cases hb
  rw[hd];refine hK _ ((X.mono (by have:=b.lt;omega)).trans (aw.set _ hBi)) (fun j hj hji=>by show (h1.b.set i _).get j=_;rw[T.aR _ _ (bV hji)];exact X.get j hj) fun hb=>?_;have e:=(xw (c:=c) hk14).2 hb;rw[e,SP hk14 hc];exact b1.set
 refine F66 rfl ?_
 by_cases h10:k<10
 ·simp only[ptT,h10,if_true];unfold nC;refine wk ?_;generalize hcs:iY.cells _ 185 true=bk;have X1:aw h.n h (ai h bk):=br;have c1:cellAt (ai h bk) ⟨h.n,1,none⟩=some (.iface 231 (pt i k)):=by rw[← hcs];exact bI
  have c2:cellAt (ai h bk) ⟨h.n,2,none⟩=some (iv (Bp k)):=by rw[← hcs];exact bI
  have c3:cellAt (ai h bk) ⟨h.n,3,none⟩=some (iv (By k)):=by rw[← hcs];exact bI
  have b1:=b.ext (aw.new (B:=h.n) bk a_) b.lt;generalize ai h bk=h1 at X1 c1 c2 c3 b1 ⊢;refine wk ?_;refine HA b1 h10 hk14 ?_;refine wk ?_;exact fin _ _ X1 b1 (by rw[Dg hk14,if_pos h10])
 ·simp only[ptT,h10,if_false];unfold nC;refine wk ?_;generalize hcs:iY.cells _ 185 true=bk;have X1:aw h.n h (ai h bk):=br;have c1:cellAt (ai h bk) ⟨h.n,1,none⟩=some (.iface 232 (pt i k)):=by rw[← hcs];exact bI
  have c2:cellAt (ai h bk) ⟨h.n,2,none⟩=some (iv (Bp k)):=by rw[← hcs];exact bI
  have c3:cellAt (ai h bk) ⟨h.n,3,none⟩=some (iv (By k)):=by rw[← hcs];exact bI
  have b1:=b.ext (aw.new (B:=h.n) bk a_) b.lt;generalize ai h bk=h1 at X1 c1 c2 c3 b1 ⊢;have w1:IntKind.wrap .u64 (Bp k)=Bp k:=wrap_u64 ah ah;have w2:IntKind.wrap .u64 (By k)=By k:=wrap_u64 ah ah;have ww:=mW (aN @w1 @w2);refine wk ?_;refine HE b1 h10 hk14 ?_;refine wk ?_;exact fin _ _ X1 b1 (by rw[Dg hk14,if_neg h10])
theorem ix186:Qq env 186 14 4=true:=c_
theorem Qb {u:Option Addr}{n c:Nat}{h:ak}{K:Value→ak→Prop}(hK:K (.bool (decide (1024<n))) h):cy env (.func 68) [.slice u n c] h K:=by
 refine F68 rfl ?_;by_cases h1:1024<n;·rw[decide_eq_true h1]at hK;refine wk ?_;exact hK
 ·rw[decide_eq_false h1]at hK;refine wk ?_;exact hK
theorem HT {B:Nat}{v:Value}{P:List (List UInt8)}{h:ak}{K:Value→ak→Prop}(r:Eo B h v P) (hP:P.length≤5000) (hK:∀ x:Int,(0≤x↔P.any (fun p=>decide (1024<p.length))=true)→K (iv x) h) :
  cy env (.func 67) [v,.func (.func 68) #[] #[]] h K:=by
 obtain⟨pa,pc,rfl,_⟩:=id r
 refine F67 rfl ?_
 refine wk ?_
 refine aP (fun m fr' h''=>∃ k:Nat,k≤P.length∧m=P.length-k∧h''=h∧fr'.get 8=some (iv k)∧(∀ j (hj:j<P.length),j<k→P[j].length≤1024)) P.length ?_ ah ?_
 ·exact⟨0,ah,ah,rfl,aA,fun j _ hj=>ah⟩
 rintro m fr4 h'' ⟨k,hk,rfl,rfl,f8,hp⟩ hag
 by_cases aT:k<P.length
 ·obtain⟨i,o,ua,uc,rfl,hi,hc,hu⟩:=r.at_ aT;have ww:=mW (aN @hc @bQ);refine wk ?_;refine Qb ?_;by_cases hl:1024<P[k].length;·rw[decide_eq_true hl];refine wk ?_;exact hK _ ⟨fun _=>sb.2 ⟨P[k],bG _,decide_eq_true hl⟩,fun _=>ah⟩
  ·rw[decide_eq_false hl];refine wk ?_;exact⟨P.length-(k+1),ah,k+1,ah,rfl,by simp[T.aj,bC (show k≤4611686018427387904 by omega)],fun j hj hjk=>by
    by_cases e:j=k;·subst e;omega
    ·exact hp j hj ah⟩
 ·refine wk ?_;exact hK _ ⟨fun h=>ah,fun h=>by obtain⟨p,hm,hd⟩:=sb.1 h;obtain⟨j,hj,rfl⟩:=eU hm;have:=hp j hj ah;have:=of_decide_eq_true hd;omega⟩
theorem Kv {B:Nat}{c:Nat→Int}{pv:Value}{P:List (List UInt8)}{h:ak}{K:Value→ak→Prop}(r:Eo B h pv P) (hB:B≤h.n) (hP:P.length≤5000)
   (hK:∀ (nm:List UInt8) (x:Int) h',aw h.n h h'→qE c P=(if 0≤x then 17 else if nm≠[] then 2 else 0)→K (.tuple #[nC nm,iv x]) h'):cy env (.func 35) [.agg ⟨bU c pv⟩] h K:=by
 obtain⟨pa,pc,rfl,_⟩:=id r
 refine F35 rfl ?_
 have ww:=mW @lu
 refine wk ?_
 have V:=iI.new h (bU c (.slice pa P.length pc)) 25
 obtain⟨h1,eh1⟩:=gz (ai h (.cells (bU c (.slice pa P.length pc)) 25 true))
 have X:=tW eh1
 have hn1:=qk eh1
 rw[eh1];try rw[eh1]at V
 refine EX fun l h2 X2 bl=>?_
 have n2:=X2.n
 replace V:=V.ext X2 ah
 replace X:=X.jI X2
 clear X2
 refine wk ?_
 refine aP (fun m fr' h'=>∃ k:Nat,k≤14∧m=14-k∧aw h.n h h'∧iI h' h.n (bU c (.slice pa P.length pc)) 25∧fr'.get 9=some (iv k)∧∀ i,i<k→xS c i=true) 14 ?_ ah ?_
 · exact⟨0,ah,ah,X,V,aA,fun i hi=>ah⟩
 clear V X
 rintro m fr2 h3 ⟨k,hk,rfl,X,V,f9,hin⟩ hag
 have n3:=X.n
 by_cases aT:k<14
 · obtain⟨nm,hnm,hrow⟩:=bl.row k aT;have hl:=bl.len;refine wk ?_;refine ix_arr ix186 aT ah ?_;rw[hrow];unfold nC;refine wk ?_;generalize hcs:iY.cells _ 185 true=bk;have X1:aw h.n h (ai h3 bk):=X.trans (aw.new _ n3);have c0:av (ai h3 bk) ⟨h3.n,0,none⟩ 4=some [nC nm,.iface (ptT k) (pt h.n k),iv (Bp k),iv (By k)]:=by rw[← hcs];exact aV rfl
   have b2:=V.ext (aw.new (B:=h3.n) bk a_) V.lt;have n4:(ai h3 bk).n=h3.n+1:=rfl;generalize ai h3 bk=h4 at X1 c0 b2 n4 ⊢;refine wk ?_;refine HZ b2 a_ aT fun h5 X5 f5 hb=>?_;have n5:=X5.n;cases hib:xS c k with
   | true =>
     refine wk ?_
     exact⟨14-(k+1),ah,k+1,ah,rfl,X1.trans X5,hb hib,by simp[T.aj,bC (show k≤4611686018427387904 by omega)],fun i hi=>by
       by_cases e:i=k;· subst e;exact hib
       · exact hin i ah⟩
   | false =>
     have d0:cellAt h5 (ad h3.n 0)=some (nC nm):=by
       have e0:cellAt h4 (ad h3.n 0)=some (nC nm):=by have:=dk c0 (j:=0) (v:=nC nm) rfl;simpa using this
       have hlow:h5.b.get h3.n=h4.b.get h3.n:=f5 h3.n ah (by have:=V.lt;omega);have l1:Nat.blt h3.n h4.n=true:=by rw[blt_eq];exact decide_eq_true ah
       have l2:Nat.blt h3.n h5.n=true:=by rw[blt_eq];exact decide_eq_true ah
       simp only[cellAt,av,hlow,l1,l2]at e0 ⊢;exact e0
     unfold nC at d0
     have ww:=ww.a @d0
     refine wk ?_
     refine hK nm (-1) _ (X1.trans X5) ?_
     rw[qE,if_neg (by rw[qJ];intro hh;rw[hh k aT]at hib;cases hib),if_neg ao,if_pos hnm]
 · have Ss:k=14:=ah;subst Ss;have hcb:(List.range 14).all (xS c)=true:=qJ.2 hin;have r3:=r.ext (X.mono hB);have dv:=V.cfg;have fin1:qE c P=(if P.length<1∨16<P.length then 2 else if P.any (fun p=>decide (1024<p.length)) then 17 else 0):=by rw[qE,if_pos hcb]
   by_cases h1:P.length<1;· have ww:=ww.a @dv;refine wk ?_;refine hK [80,114,111,103,114,97,109,115] (-1) _ X ?_;rw[fin1,if_pos (.inl h1),if_neg ao,if_pos an]
   by_cases h16:16<P.length;· have ww:=ww.a @dv;refine wk ?_;refine hK [80,114,111,103,114,97,109,115] (-1) _ X ?_;rw[fin1,if_pos (.inr h16),if_neg ao,if_pos an]
   have fin2:qE c P=(if P.any (fun p=>decide (1024<p.length)) then 17 else 0):=by rw[fin1,if_neg ah]
   have ww:=ww.a @dv;refine wk ?_;refine HT r3 hP fun x hx=>?_;by_cases h0:x<0;· refine wk ?_;refine hK [] (-1) _ X ?_;rw[fin2,if_neg (by rw[← hx];omega),if_neg ao,if_neg an]
   · refine wk ?_;refine hK [80,114,111,103,114,97,109,115] x _ X ?_;rw[fin2,if_pos (by rw[← hx];omega),if_pos ah]
theorem Bo {B:Nat}{c:Nat→Int}{pv:Value}{P:List (List UInt8)}{h:ak}{K:Value→ak→Prop}(r:Eo B h pv P) (hB:B≤h.n) (hP:P.length≤5000)
  (hK:∀ h',aw h.n h h'→K (iv (qE c P)) h'):cy env (.func 15) [.agg ⟨bU c pv⟩] h K:=by
 obtain⟨pa,pc,rfl,_⟩:=id r
 refine F15 rfl ?_
 have ww:=mW @lu
 refine wk ?_
 have V:=iI.new h (bU c (.slice pa P.length pc)) 25
 obtain⟨h1,eh1⟩:=gz (ai h (.cells (bU c (.slice pa P.length pc)) 25 true))
 have X:=tW eh1
 have hn1:=qk eh1
 rw[eh1];try rw[eh1]at V
 have dv:=V.cfg
 have ww:=ww.a @dv
 refine wk ?_
 refine Kv (r.ext (X.mono hB)) ah hP fun nm x h2 X2 hm=>?_
 have XX:=X.trans (X2.mono (show h.n≤h1.n by omega))
 unfold nC
 rw[hm]at hK
 by_cases hx:0≤x
 ·rw[if_pos hx]at hK;refine wk ?_;exact hK _ XX
 ·rw[if_neg hx]at hK;by_cases hn:nm=[];·subst hn;rw[if_neg an]at hK;have e0:((⟨[].toArray⟩:ByteArray)=⟨⟨[]⟩⟩):=rfl;have ww:=ww.a @e0;refine wk ?_;exact hK _ XX
  ·rw[if_pos hn]at hK;have e0:¬((⟨nm.toArray⟩:ByteArray)=⟨⟨[]⟩⟩):=fun e=>hn (str_inj.1 e);have ww:=ww.a @e0;refine wk ?_;exact hK _ XX
theorem Kt {h:ak}{K:Value→ak→Prop}(hK:∀ j h',aw h.n h h'→j<h'.n→h.n≤j→(∀ k,k<14→cellAt h' (ad j k)=some (uv (Bp k)))→K (.slice (some ⟨j,0,none⟩) 14 14) h'):cy env (.func 104) [] h K:=by
 refine F104 rfl ?_;refine wk ?_;refine lN (l:=(List.range 14).map fun k=>uv (Bp k)) ?_ ?_;·rfl
 refine wk ?_;refine hK _ _ br (cK _) a_ fun k hk=>?_;refine bI.trans ?_;rw[ie,AF hk];rfl
theorem P0 {h:ak}{K:Value→ak→Prop}(hK:∀ j h',aw h.n h h'→j<h'.n→h.n≤j→(∀ k,k<14→cellAt h' (ad j k)=some (uv (By k)))→K (.slice (some ⟨j,0,none⟩) 14 14) h'):cy env (.func 105) [] h K:=by
 refine F105 rfl ?_;refine wk ?_;refine lN (l:=(List.range 14).map fun k=>uv (By k)) ?_ ?_;·rfl
 refine wk ?_;refine hK _ _ br (cK _) a_ fun k hk=>?_;refine bI.trans ?_;rw[ie,AF hk];rfl
def lS:List (List UInt8):=[[80,115],[82,105,110,103],[71,115],[67,111,110,116,101,120,116,115],[68,111,109,97,105,110,115],[78,111,100,101,115],[83,108,111,116,115],[82,101,102,105,108,108,115],[65,117,100,105,116],[83,108,105,99,101],[67,80,85],[80,101,114,105,111,100],[66,117,100,103,101,116],[69,97,99,104]]
theorem LU {h:ak}{K:Value→ak→Prop}(hK:∀ j h',aw h.n h h'→j<h'.n→h.n≤j→(∀ k (hk:k<lS.length),cellAt h' (ad j k)=some (nC lS[k]))→K (.slice (some ⟨j,0,none⟩) 14 14) h'):cy env (.func 64) [] h K:=by
 refine F64 rfl ?_;refine wk ?_;refine lN (l:=lS.map nC) ?_ ?_;·rfl
 refine wk ?_;refine hK _ _ br (cK _) a_ fun k hk=>?_;refine bI.trans ?_;rw[ie,bw hk];rfl
theorem Wp {B:Nat}{c:Nat→Int}{pa:Option Addr}{pn pc k:Nat}{h:ak}{K:Value→ak→Prop}(hk:k<14) (hK:∀ x h',aw h.n h h'→(x=0↔xS c k=true)→K (iv x) h') :
  cy env (.func 63) [.agg ⟨bU c (.slice pa pn pc)⟩,iv k] h K:=by
 refine F63 rfl ?_
 have ww:=mW @lu
 refine wk ?_
 have V:=iI.new h (bU c (.slice pa pn pc)) 25
 obtain⟨h1,eh1⟩:=gz (ai h (.cells (bU c (.slice pa pn pc)) 25 true))
 have X:=tW eh1
 have hn1:=qk eh1
 rw[eh1];try rw[eh1]at V
 have hl:=Sg hk
 refine Kt fun j2 h2 X2 hj2 hj2' hlo=>?_
 have n2:=X2.n
 have l1:=hlo k hk
 refine⟨n2,?_,?_⟩
 ·exact wkE
 have ww:=ww.a (aN (aN @l1 @bQ) @cb)
 refine wk ?_
 refine P0 fun j3 h3 X3 hj3 hj3' hhi=>?_
 have n3:=X3.n
 have l2:=hhi k hk
 have l1':=aD X3 hj2 l1
 refine⟨n3,?_,?_⟩
 ·exact wkE
 have V3:=(V.ext (X2.mono a_) V.lt).ext X3 (by have:=V.lt;omega)
 have XX:=X.trans ((X2.mono (show h.n≤h1.n by omega)).trans (X3.mono (show h.n≤h2.n by omega)))
 have dv:=V3.cfg
 by_cases h10:k<10
 ·have ww:=ww.a (aN @l2 @dv);refine wk ?_;refine Ma fun j4 h4 X4 hj4 hs=>?_;have d4:=hs k h10;have w1:IntKind.wrap .i64 (Bp k)=Bp k:=wrap_i64 ah ah;have w2:IntKind.wrap .i64 (By k)=By k:=wrap_i64 ah ah;have XX4:=XX.trans (X4.mono (show h.n≤h3.n by omega));by_cases c1:c k<Bp k;·have ww:=ww.a (aN (aN @d4 @w1) @w2);refine wk ?_;exact hK _ _ XX4 ⟨fun e=>(by cases e),fun e=>by simp only[xS,aZ,decide_eq_true_eq]at e;omega⟩
  by_cases c2:By k<c k;·have ww:=ww.a (aN (aN @d4 @w1) @w2);refine wk ?_;exact hK _ _ XX4 ⟨fun e=>(by cases e),fun e=>by simp only[xS,aZ,decide_eq_true_eq]at e;omega⟩
  have ww:=ww.a (aN (aN @d4 @w1) @w2);refine wk ?_;exact hK _ _ XX4 ⟨fun _=>by simp only[xS,aZ,decide_eq_true_eq];omega,fun _=>rfl⟩
 ·have ww:=ww.a (aN @l2 @dv);refine wk ?_;refine KT fun j4 h4 X4 hj4 hs=>?_;have d4:=hs (k-10) ah;rw[show 10+(k-10)=k by omega]at d4;have w0:IntKind.wrap .i64 ((k:Int)-10)=((k-10:Nat):Int):=by rw[wrap_i64 ah ah];omega
  have XX4:=XX.trans (X4.mono (show h.n≤h3.n by omega));by_cases c1:c k<Bp k;·have ww:=ww.a (aN @d4 @w0);refine wk ?_;exact hK _ _ XX4 ⟨fun e=>(by cases e),fun e=>by simp only[xS,aZ,decide_eq_true_eq]at e;omega⟩
  by_cases c2:By k<c k;·have ww:=ww.a (aN @d4 @w0);refine wk ?_;exact hK _ _ XX4 ⟨fun e=>(by cases e),fun e=>by simp only[xS,aZ,decide_eq_true_eq]at e;omega⟩
  have ww:=ww.a (aN @d4 @w0);refine wk ?_;exact hK _ _ XX4 ⟨fun _=>by simp only[xS,aZ,decide_eq_true_eq];omega,fun _=>rfl⟩
theorem Sn {k:Nat}(hk:k<lS.length):lS[k]≠[]:=by have:lS.all (fun l=>!l.isEmpty)=true:=ao;have:=dX.1 this _ (bG hk);intro e;rw[e]at this;cases this
theorem Dr {B:Nat}{c:Nat→Int}{pv:Value}{P:List (List UInt8)}{h:ak}{K:Value→ak→Prop}(r:Eo B h pv P) (hB:B≤h.n) (hP:P.length≤5000)
  (hK:∀ (nm:List UInt8) (x:Int) h',aw h.n h h'→qE c P=(if nm=[] then 0 else if x<0 then 2 else 17)→K (.tuple #[nC nm,iv x]) h'):cy env (.func 34) [.agg ⟨bU c pv⟩] h K:=by
 obtain⟨pa,pc,rfl,_⟩:=id r
 refine F34 rfl ?_
 have ww:=mW @lu
 refine wk ?_
 have V:=iI.new h (bU c (.slice pa P.length pc)) 25
 obtain⟨h1,eh1⟩:=gz (ai h (.cells (bU c (.slice pa P.length pc)) 25 true))
 have X:=tW eh1
 have hn1:=qk eh1
 rw[eh1];try rw[eh1]at V
 refine aP (fun m fr' h'=>∃ k:Nat,k≤14∧m=14-k∧aw h.n h h'∧iI h' h.n (bU c (.slice pa P.length pc)) 25∧fr'.get 4=some (iv k)∧∀ i,i<k→xS c i=true) 14 ?_ ah ?_
 ·exact⟨0,ah,ah,X,V,aA,fun i hi=>ah⟩
 clear V X hn1
 rintro m fr2 h3 ⟨k,hk,rfl,X,V,f4,hin⟩ hag
 have b1:=jP (hag 1 rfl)
 have n3:=X.n
 have dv:=V.cfg
 by_cases aT:k<14
 ·have ww:=ww.a @dv;refine wk ?_;refine Wp (B:=B) aT fun x h4 X4 hx=>?_;have n4:=X4.n;have XX:=X.trans (X4.mono n3);by_cases h0:x=0;·subst h0;have hi:=hx.1 rfl;refine wk ?_;exact⟨14-(k+1),ah,k+1,ah,rfl,XX,V.ext X4 V.lt,by simp[T.aj,bC (show k≤4611686018427387904 by omega)],fun i hi'=>by
    by_cases e:i=k;·subst e;exact hi
    ·exact hin i ah⟩
  ·refine wk ?_;refine LU fun j h5 X5 hj _ hnm=>?_;have hlt':k<lS.length:=aT;have d5:=hnm k hlt';unfold nC at d5;have ww:=ww.a (aN (aN @d5 @bQ) @cb);refine wk ?_;refine hK lS[k] (-1) _ (XX.jI X5) ?_;rw[qE,if_neg (by rw[qJ];intro hh;exact h0 (hx.2 (hh k aT))),if_neg (Sn hlt'),if_pos ao]
 ·have Ss:k=14:=ah;subst Ss;have hcb:(List.range 14).all (xS c)=true:=qJ.2 hin;have r3:=r.ext (X.mono hB);have fin1:qE c P=(if P.length<1∨16<P.length then 2 else if P.any (fun p=>decide (1024<p.length)) then 17 else 0):=by rw[qE,if_pos hcb]
  by_cases h1:P.length=0;·have h1':((P.length:Int)=0):=ah;have ww:=ww.a (aN @dv @h1');refine wk ?_;refine hK [80,114,111,103,114,97,109,115] (-1) _ X ?_;rw[fin1,if_pos (.inl ah),if_neg an,if_pos ao]
  have h1':¬((P.length:Int)=0):=ah;by_cases h16:16<P.length;·have ww:=ww.a (aN @dv @h1');refine wk ?_;refine hK [80,114,111,103,114,97,109,115] (-1) _ X ?_;rw[fin1,if_pos (.inr h16),if_neg an,if_pos ao]
  have fin2:qE c P=(if P.any (fun p=>decide (1024<p.length)) then 17 else 0):=by rw[fin1,if_neg ah]
  have ww:=ww.a (aN @dv @h1');refine wk ?_;refine aP (fun m fr' h''=>∃ k:Nat,k≤P.length∧m=P.length-k∧h''=h3∧fr'.get 5=some (iv k)∧(∀ j (hj:j<P.length),j<k→P[j].length≤1024)) P.length ?_ ah ?_;·exact⟨0,ah,ah,rfl,aA,fun j _ hj=>ah⟩
  rintro m fr4 h'' ⟨k,hk,rfl,rfl,f5,hp⟩ hag2;have e5:=bf f5;have c1:=jP (hag2 1 rfl);by_cases aT:k<P.length
  ·obtain⟨i,o,ua,uc,rfl,hi,hc,hu⟩:=r3.at_ aT;by_cases hl:1024<P[k].length;·(repeat' (first|(with_reducible show gV _ (rg _ _) _ _ _;first|with_reducible refine Ef ?_)|(with_reducible show lW _ _ _;first|with_reducible refine CJ ?_|with_reducible refine CS ?_|with_reducible refine wN (fun _=>?_) (fun _=>?_))|(with_reducible show _∧_;first|with_reducible refine CU ?_|with_reducible refine CN ?_|with_reducible refine Ea ?_)|(with_reducible show jQ _ _ _ _ _;first|with_reducible refine C1 ?_)|(with_reducible show vX _ _ _ _ _ _ _;first|with_reducible refine C9 ?_)|(with_reducible show yb _ _ _ _;first|with_reducible refine Du ?_)|(with_reducible show lU _ _ _ _;first|with_reducible refine C0 ?_)|(with_reducible show eR _ _ _;first|with_reducible refine Dd ?_|with_reducible refine Ei ?_)|(with_reducible show de (cellAt _ _) _;first|with_reducible refine Cz ?_|with_reducible refine C_ ?_|with_reducible refine DZ ?_)|(with_reducible show de (av _ _ _) _;first|with_reducible refine BZ ?_|with_reducible refine D1 ?_)|simp -dsimp only[↓ww.o,↓WB,WP,WS,bE,Nat.reduceEqDiff,Nat.reduceAdd]|simp -dsimp only[↓WB,WP,WS,bE,Nat.reduceEqDiff,Nat.reduceAdd,↓e5,↓c1,↓b1,dv,hc,Nat.mul_one]|(with_reducible show dJ _ _ _ _ _;refine DU ?_)|simp -dsimp (disch:=(first|with_reducible assumption|(with_reducible refine hag _ ?_;rfl)|(with_reducible show _<_;omega))) only [CP,DX,CI,D7]|simp -dsimp (disch:=(first|with_reducible assumption|(with_reducible refine hag _ ?_;rfl)|(with_reducible show _<_;omega))) only [Dz,cL,p_,List.getElem?_cons_zero,List.getElem?_cons_succ]|simp -dsimp (disch:=(first|with_reducible assumption|(with_reducible show _<_;omega)|(with_reducible show GetElem?.getElem? _ _=_;with_unfolding_all rfl)|(with_reducible show List.length _=_;with_unfolding_all rfl))) only [DM,qp]|simp -dsimp (disch:=(conv=>lhs;cbv)) only [Dl]));refine hK [80,114,111,103,114,97,109,115] k _ X ?_;rw[fin2,if_pos (sb.2 ⟨P[k],bG _,decide_eq_true hl⟩),if_neg an,if_neg ah]
   ·(repeat' (first|(with_reducible show gV _ (rg _ _) _ _ _;first|with_reducible refine Ef ?_)|(with_reducible show lW _ _ _;first|with_reducible refine CJ ?_|with_reducible refine CS ?_|with_reducible refine wN (fun _=>?_) (fun _=>?_))|(with_reducible show _∧_;first|with_reducible refine CU ?_|with_reducible refine CN ?_|with_reducible refine Ea ?_)|(with_reducible show jQ _ _ _ _ _;first|with_reducible refine C1 ?_)|(with_reducible show vX _ _ _ _ _ _ _;first|with_reducible refine C9 ?_)|(with_reducible show yb _ _ _ _;first|with_reducible refine Du ?_)|(with_reducible show lU _ _ _ _;first|with_reducible refine C0 ?_)|(with_reducible show eR _ _ _;first|with_reducible refine Dd ?_|with_reducible refine Ei ?_)|(with_reducible show de (cellAt _ _) _;first|with_reducible refine Cz ?_|with_reducible refine C_ ?_|with_reducible refine DZ ?_)|(with_reducible show de (av _ _ _) _;first|with_reducible refine BZ ?_|with_reducible refine D1 ?_)|simp -dsimp only[↓ww.o,↓WB,WP,WS,bE,Nat.reduceEqDiff,Nat.reduceAdd]|simp -dsimp only[↓WB,WP,WS,bE,Nat.reduceEqDiff,Nat.reduceAdd,↓e5,↓c1,↓b1,dv,hc,Nat.mul_one]|(with_reducible show dJ _ _ _ _ _;refine DU ?_)|simp -dsimp (disch:=(first|with_reducible assumption|(with_reducible refine hag _ ?_;rfl)|(with_reducible show _<_;omega))) only [CP,DX,CI,D7]|simp -dsimp (disch:=(first|with_reducible assumption|(with_reducible refine hag _ ?_;rfl)|(with_reducible show _<_;omega))) only [Dz,cL,p_,List.getElem?_cons_zero,List.getElem?_cons_succ]|simp -dsimp (disch:=(first|with_reducible assumption|(with_reducible show _<_;omega)|(with_reducible show GetElem?.getElem? _ _=_;with_unfolding_all rfl)|(with_reducible show List.length _=_;with_unfolding_all rfl))) only [DM,qp]|simp -dsimp (disch:=(conv=>lhs;cbv)) only [Dl]));exact⟨P.length-(k+1),ah,k+1,ah,rfl,by simp[T.aj,bC (show k≤4611686018427387904 by omega)],fun j hj hjk=>by
     by_cases e:j=k;·subst e;omega
     ·exact hp j hj ah⟩
  ·(repeat' (first|(with_reducible show gV _ (rg _ _) _ _ _;first|with_reducible refine Ef ?_)|(with_reducible show lW _ _ _;first|with_reducible refine CJ ?_|with_reducible refine CS ?_|with_reducible refine wN (fun _=>?_) (fun _=>?_))|(with_reducible show _∧_;first|with_reducible refine CU ?_|with_reducible refine CN ?_|with_reducible refine Ea ?_)|(with_reducible show jQ _ _ _ _ _;first|with_reducible refine C1 ?_)|(with_reducible show vX _ _ _ _ _ _ _;first|with_reducible refine C9 ?_)|(with_reducible show yb _ _ _ _;first|with_reducible refine Du ?_)|(with_reducible show lU _ _ _ _;first|with_reducible refine C0 ?_)|(with_reducible show eR _ _ _;first|with_reducible refine Dd ?_|with_reducible refine Ei ?_)|(with_reducible show de (cellAt _ _) _;first|with_reducible refine Cz ?_|with_reducible refine C_ ?_|with_reducible refine DZ ?_)|(with_reducible show de (av _ _ _) _;first|with_reducible refine BZ ?_|with_reducible refine D1 ?_)|simp -dsimp only[↓ww.o,↓WB,WP,WS,bE,Nat.reduceEqDiff,Nat.reduceAdd]|simp -dsimp only[↓WB,WP,WS,bE,Nat.reduceEqDiff,Nat.reduceAdd,↓e5,↓c1,↓b1,dv]|(with_reducible show dJ _ _ _ _ _;refine DU ?_)|simp -dsimp (disch:=(first|with_reducible assumption|(with_reducible refine hag _ ?_;rfl)|(with_reducible show _<_;omega))) only [CP,DX,CI,D7]|simp -dsimp (disch:=(first|with_reducible assumption|(with_reducible refine hag _ ?_;rfl)|(with_reducible show _<_;omega))) only [Dz,cL,p_,List.getElem?_cons_zero,List.getElem?_cons_succ]|simp -dsimp (disch:=(first|with_reducible assumption|(with_reducible show _<_;omega)|(with_reducible show GetElem?.getElem? _ _=_;with_unfolding_all rfl)|(with_reducible show List.length _=_;with_unfolding_all rfl))) only [DM,qp]|simp -dsimp (disch:=(conv=>lhs;cbv)) only [Dl]));refine hK [] (-1) _ X ?_;rw[fin2,if_neg (by intro hh;obtain⟨p,hm,hd⟩:=sb.1 hh;obtain⟨j,hj,rfl⟩:=eU hm;have:=hp j hj ah;have:=of_decide_eq_true hd;omega),if_pos rfl]
theorem Ey {B:Nat}{c:Nat→Int}{pv:Value}{P:List (List UInt8)}{h:ak}{K:Value→ak→Prop}(r:Eo B h pv P) (hB:B≤h.n) (hP:P.length≤5000)
  (hK:∀ h',aw h.n h h'→K (iv (qE c P)) h'):cy env (.func 13) [.agg ⟨bU c pv⟩] h K:=by
 obtain⟨pa,pc,rfl,_⟩:=id r
 refine F13 rfl ?_
 have ww:=mW @lu
 refine wk ?_
 have V:=iI.new h (bU c (.slice pa P.length pc)) 25
 obtain⟨h1,eh1⟩:=gz (ai h (.cells (bU c (.slice pa P.length pc)) 25 true))
 have X:=tW eh1
 have hn1:=qk eh1
 rw[eh1];try rw[eh1]at V
 have dv:=V.cfg
 have ww:=ww.a @dv
 refine wk ?_
 refine Dr (r.ext (X.mono hB)) ah hP fun nm x h2 X2 hm=>?_
 have XX:=X.trans (X2.mono (show h.n≤h1.n by omega))
 unfold nC
 rw[hm]at hK
 by_cases hn:nm=[]
 ·subst hn;rw[if_pos rfl]at hK;have e0:((⟨[].toArray⟩:ByteArray)=⟨⟨[]⟩⟩):=rfl;have ww:=ww.a @e0;refine wk ?_;exact hK _ XX
 ·rw[if_neg hn]at hK;have e0:¬((⟨nm.toArray⟩:ByteArray)=⟨⟨[]⟩⟩):=fun e=>hn (str_inj.1 e);by_cases hx:x<0;·rw[if_pos hx]at hK;have ww:=ww.a @e0;refine wk ?_;exact hK _ XX
  ·rw[if_neg hx]at hK;have ww:=ww.a @e0;refine wk ?_;exact hK _ XX
theorem vb {e:TypeId}{zs:List Value}{k k':IntKind}{l c:Int}{h:ak}{K:Value→ak→Prop}:IK e zs (.int k l) (.int k' c) h K=((0≤l∧l≤c∧c<1000000)∧K (.slice (some ⟨h.n,0,none⟩) l.toNat c.toNat) (ai h (.cells (rep c.toNat zs) e true))):=rfl
theorem r9 (z:List Value):∀ n,rep n z=(List.replicate n z).flatten
 | 0=>rfl
 | n+1=>by rw[Ar,mG,← r9 z n];rfl
def yG (n k:Nat) (z o:List Value):List (List Value):=List.replicate k o++List.replicate (n-k) z
def lA (n k:Nat):List Nat:=(List.range k).map fun i=>n-1-i
theorem DD {n q:Nat}{zh v:Value}{zt:List Value}(hq:q<n):fV (yG n q (zh::zt) (v::zt)).flatten (q*(zt.length+1)) [v]=some (yG n (q+1) (zh::zt) (v::zt)).flatten:=by
 have e1:((List.replicate q (v::zt)).flatten).length=q*(zt.length+1):=by rw[gU (sz:=zt.length+1) _ (fun r hr=>by rw[List.eq_of_mem_replicate hr];rfl),iU]
 have h:=pb [v] (List.replicate q (v::zt)).flatten [zh] (zt++(List.replicate (n-(q+1)) (zh::zt)).flatten) rfl;rw[e1]at h;have e2:(yG n q (zh::zt) (v::zt)).flatten=(List.replicate q (v::zt)).flatten++([zh]++(zt++(List.replicate (n-(q+1)) (zh::zt)).flatten)):=by rw[yG,jA,show n-q=(n-(q+1))+1 by omega,Ar,mG];simp
 have e3:(yG n (q+1) (zh::zt) (v::zt)).flatten=(List.replicate q (v::zt)).flatten++([v]++(zt++(List.replicate (n-(q+1)) (zh::zt)).flatten)):=by rw[yG,jA,List.replicate_succ',jA];simp
 rw[e2,e3];exact h
theorem Bg {n k:Nat}:(lA n k).map bZ++[bZ (n-1-k)]=(lA n (k+1)).map bZ:=by simp[lA,List.range_succ]
theorem mk_74 {fr:Go.Ev.Fr}{h:ak}{K:Value→ak→Prop}{x y:Operand}:fY env (.makeSlice 74 x y) fr h K=dM env fr x fun a=>dM env fr y fun b=>IK 125 [uv 0,.bool false,iv 0,.bool false,iv 0,uv 0,iv 0,uv 0,.int .u8 0,iv 0,iv 0,uv 0,uv 0,uv 0,uv 0,uv 0,uv 0,uv 0,uv 0,iv 0,uv 0] a b h K:=k_ c_
theorem FW {n:Nat}{h:ak}{K:Value→ak→Prop}(hn:n≤1000)
  (hK:∀ vF h',aw h.n h h'→h.n+1<h'.n→h'.b.get (h.n+1)=some (.cells (List.replicate n [uv 1,.bool false,iv 0,.bool false,iv 0,uv 0,iv 0,uv 0,.int .u8 0,iv 0,iv 0,uv 0,uv 0,uv 0,uv 0,uv 0,uv 0,uv 0,uv 0,iv 0,uv 0]).flatten 125 true)→bT (h.n+2) h' 3 vF n ((lA n n).map bZ)→K (.agg ⟨[.slice (some ⟨h.n+1,0,none⟩) n n,vF]⟩) h'):cy env (.func 17) [iv n] h K:=by
 refine F17 rfl ?_
 obtain⟨h1,e1,G1,G2,n1,X⟩:=C4 h (.cells [nS,nS] 76 true) (.cells (rep n [uv 0,.bool false,iv 0,.bool false,iv 0,uv 0,iv 0,uv 0,.int .u8 0,iv 0,iv 0,uv 0,uv 0,uv 0,uv 0,uv 0,uv 0,uv 0,uv 0,iv 0,uv 0]) 125 true)
 have ww:=mW (aN @mk_74 @vb)
 refine wk ?_
 rw[e1]
 clear e1
 refine aM (off:=0) (l:=[.slice (some ⟨h.n+1,0,none⟩) n n]) (cs':=[.slice (some ⟨h.n+1,0,none⟩) n n,nS]) G1 rfl rfl rfl rfl ao ?_
 obtain⟨h2,eh2⟩:=gz (aO h1 h.n (.cells [.slice (some ⟨h.n+1,0,none⟩) n n,nS] 76 true))
 have W1:=rS eh2
 have W2:h2.b.get (h.n+1)=some (.cells (yG n 0 [uv 0,.bool false,iv 0,.bool false,iv 0,uv 0,iv 0,uv 0,.int .u8 0,iv 0,iv 0,uv 0,uv 0,uv 0,uv 0,uv 0,uv 0,uv 0,uv 0,iv 0,uv 0] [uv 1,.bool false,iv 0,.bool false,iv 0,uv 0,iv 0,uv 0,.int .u8 0,iv 0,iv 0,uv 0,uv 0,uv 0,uv 0,uv 0,uv 0,uv 0,uv 0,iv 0,uv 0]).flatten 125 true):=eh2▸((aC ah).trans (by rw[G2,r9];simp[yG]))
 have WX:aw h.n h h2:=eh2▸(X.trans (aw.set _ a_))
 have Wn:h2.n=h.n+2:=eh2▸n1
 rw[eh2]
 clear X G1 G2 n1
 have c0:=ay (off:=0) (show h.n<h2.n by omega) W1 rfl
 have ww:=mW OL
 refine wk ?_
 refine aP (fun m fr' h'=>∃ (q:Nat) (vF:Value),q≤n∧m=n-q∧fr'.get 10=some (iv q)∧aw h.n h h'∧h.n+1<h'.n∧h'.b.get h.n=some (.cells [.slice (some ⟨h.n+1,0,none⟩) n n,vF] 76 true)∧h'.b.get (h.n+1)=some (.cells (yG n q [uv 0,.bool false,iv 0,.bool false,iv 0,uv 0,iv 0,uv 0,.int .u8 0,iv 0,iv 0,uv 0,uv 0,uv 0,uv 0,uv 0,uv 0,uv 0,uv 0,iv 0,uv 0] [uv 1,.bool false,iv 0,.bool false,iv 0,uv 0,iv 0,uv 0,.int .u8 0,iv 0,iv 0,uv 0,uv 0,uv 0,uv 0,uv 0,uv 0,uv 0,uv 0,iv 0,uv 0]).flatten 125 true)∧bT (h.n+2) h' 3 vF q ((lA n q).map bZ)∧(q=0→vF=nS)) n ?_ ah ?_
 ·exact⟨0,_,ah,ah,aA,WX,ah,W1,W2,.nil,fun _=>rfl⟩
 clear W1 W2 WX Wn c0
 rintro m fr2 h3 ⟨q,vF,hq,rfl,f10,X3,n3,G1,G2,O,z0⟩ hag
 have c0:=ay (off:=0) (show h.n<h3.n by omega) G1 rfl
 by_cases aT:q<n
 ·have lq:(q:Int)<(n:Int):=ah;have wq:=rU q;have w1:IntKind.wrap .i64 ((n:Int)-1)=(n:Int)-1:=wrap_i64 ah ah;have w2:IntKind.wrap .i64 ((n:Int)-1-(q:Int))=((n-1-q:Nat):Int):=by rw[wrap_i64 ah ah];omega
  obtain⟨va,vc,rfl⟩:=il O;have ww:=ww.a @lq;refine wk ?_;refine aM (off:=q*21) (cs':=(yG n (q+1) [uv 0,.bool false,iv 0,.bool false,iv 0,uv 0,iv 0,uv 0,.int .u8 0,iv 0,iv 0,uv 0,uv 0,uv 0,uv 0,uv 0,uv 0,uv 0,uv 0,iv 0,uv 0] [uv 1,.bool false,iv 0,.bool false,iv 0,uv 0,iv 0,uv 0,.int .u8 0,iv 0,iv 0,uv 0,uv 0,uv 0,uv 0,uv 0,uv 0,uv 0,uv 0,iv 0,uv 0]).flatten) G2 rfl rfl (DD aT) rfl ao ?_;obtain⟨h4,eh4⟩:=gz (aO h3 (h.n+1) (.cells (yG n (q+1) [uv 0,.bool false,iv 0,.bool false,iv 0,uv 0,iv 0,uv 0,.int .u8 0,iv 0,iv 0,uv 0,uv 0,uv 0,uv 0,uv 0,uv 0,uv 0,uv 0,iv 0,uv 0] [uv 1,.bool false,iv 0,.bool false,iv 0,uv 0,iv 0,uv 0,.int .u8 0,iv 0,iv 0,uv 0,uv 0,uv 0,uv 0,uv 0,uv 0,uv 0,uv 0,iv 0,uv 0]).flatten 125 true));have V1:h4.b.get h.n=_:=eh4▸((aC ah).trans G1);have V2:=rS eh4;have VO:bT (h.n+2) h4 3 (.slice va q vc) q ((lA n q).map bZ):=eh4▸(fi O ah);have VX:aw h.n h h4:=eh4▸(X3.trans (aw.set _ ah));have Vn:=sW eh4;rw[eh4];clear G1 G2 O c0;have hhn:h.n+2≤h4.n:=ah;have ww:=ww.a (aN @w1 @w2);refine wk ?_;refine vo (new:=[iv ((n-1-q:Nat):Int)]) VO hhn (by simp[lA]) ah rfl rfl ao rfl fun v5 h5 o5 x5 n5 _=>?_;have g1:=x5.cY V1;have g2:=x5.cY V2;obtain⟨ua,uc,rfl⟩:=il o5;have e5:(lA n q).map bZ++[iv ((n-1-q:Nat):Int)]=(lA n (q+1)).map bZ:=Bg;rw[e5]at o5;refine wk ?_;refine aM (off:=1) (l:=[.slice ua (q+1) uc]) (cs':=[.slice (some ⟨h.n+1,0,none⟩) n n,.slice ua (q+1) uc]) g1 rfl rfl rfl rfl ao ?_;have ww:=ww.a @wq;refine wk ?_;exact⟨n-(q+1),ah,q+1,.slice ua (q+1) uc,ah,rfl,aA,(VX.trans (x5.mono ah)).trans (aw.set _ a_),(by show h.n+1<h5.n;omega),aF,(aC ah).trans g2,fi o5 ah,fun e=>ah⟩
 ·obtain rfl:q=n:=ah;obtain⟨va,vc,rfl⟩:=il O;have rv:=aq (off:=0) (n:=2) (show h.n<h3.n by omega) G1 rfl rfl;refine wk ?_;refine aM (off:=0) (l:=[.slice (some ⟨h.n+1,0,none⟩) q q,.slice va q vc]) (cs':=[.slice (some ⟨h.n+1,0,none⟩) q q,.slice va q vc]) G1 rfl rfl rfl rfl ao ?_;have rw':av (aO h3 h.n (.cells [.slice (some ⟨h.n+1,0,none⟩) q q,.slice va q vc] 76 true)) ⟨h.n,0,none⟩ 2=some [.slice (some ⟨h.n+1,0,none⟩) q q,.slice va q vc]:=aq (by show h.n<h3.n;omega) aF rfl rfl;refine wk ?_;exact hK _ _ (X3.trans (aw.set _ a_)) n3 ((aC ah).trans (by rw[G2];simp[yG])) (fi O ah)
theorem mk_82 {fr:Go.Ev.Fr}{h:ak}{K:Value→ak→Prop}{x y:Operand}:fY env (.makeSlice 82 x y) fr h K=dM env fr x fun a=>dM env fr y fun b=>IK 127 [uv 0,.bool false,uv 0,uv 0,nS,iv 0] a b h K:=k_ c_
theorem F1 {n:Nat}{h:ak}{K:Value→ak→Prop}(hn:n≤1000)
  (hK:∀ vF h',aw h.n h h'→h.n+1<h'.n→h'.b.get (h.n+1)=some (.cells (List.replicate n [uv 1,.bool false,uv 0,uv 0,nS,iv 0]).flatten 127 true)→bT (h.n+2) h' 3 vF n ((lA n n).map bZ)→K (.agg ⟨[.slice (some ⟨h.n+1,0,none⟩) n n,vF]⟩) h'):cy env (.func 18) [iv n] h K:=by
 refine F18 rfl ?_
 obtain⟨h1,e1,G1,G2,n1,X⟩:=C4 h (.cells [nS,nS] 84 true) (.cells (rep n [uv 0,.bool false,uv 0,uv 0,nS,iv 0]) 127 true)
 have ww:=mW (aN @mk_82 @vb)
 refine wk ?_
 rw[e1]
 clear e1
 refine aM (off:=0) (l:=[.slice (some ⟨h.n+1,0,none⟩) n n]) (cs':=[.slice (some ⟨h.n+1,0,none⟩) n n,nS]) G1 rfl rfl rfl rfl ao ?_
 obtain⟨h2,eh2⟩:=gz (aO h1 h.n (.cells [.slice (some ⟨h.n+1,0,none⟩) n n,nS] 84 true))
 have W1:=rS eh2
 have W2:h2.b.get (h.n+1)=some (.cells (yG n 0 [uv 0,.bool false,uv 0,uv 0,nS,iv 0] [uv 1,.bool false,uv 0,uv 0,nS,iv 0]).flatten 127 true):=eh2▸((aC ah).trans (by rw[G2,r9];simp[yG]))
 have WX:aw h.n h h2:=eh2▸(X.trans (aw.set _ a_))
 have Wn:h2.n=h.n+2:=eh2▸n1
 rw[eh2]
 clear X G1 G2 n1
 have c0:=ay (off:=0) (show h.n<h2.n by omega) W1 rfl
 have ww:=mW Rx
 refine wk ?_
 refine aP (fun m fr' h'=>∃ (q:Nat) (vF:Value),q≤n∧m=n-q∧fr'.get 10=some (iv q)∧aw h.n h h'∧h.n+1<h'.n∧h'.b.get h.n=some (.cells [.slice (some ⟨h.n+1,0,none⟩) n n,vF] 84 true)∧h'.b.get (h.n+1)=some (.cells (yG n q [uv 0,.bool false,uv 0,uv 0,nS,iv 0] [uv 1,.bool false,uv 0,uv 0,nS,iv 0]).flatten 127 true)∧bT (h.n+2) h' 3 vF q ((lA n q).map bZ)∧(q=0→vF=nS)) n ?_ ah ?_
 ·exact⟨0,_,ah,ah,aA,WX,ah,W1,W2,.nil,fun _=>rfl⟩
 clear W1 W2 WX Wn c0
 rintro m fr2 h3 ⟨q,vF,hq,rfl,f10,X3,n3,G1,G2,O,z0⟩ hag
 have c0:=ay (off:=0) (show h.n<h3.n by omega) G1 rfl
 by_cases aT:q<n
 ·have lq:(q:Int)<(n:Int):=ah;have wq:=rU q;have w1:IntKind.wrap .i64 ((n:Int)-1)=(n:Int)-1:=wrap_i64 ah ah;have w2:IntKind.wrap .i64 ((n:Int)-1-(q:Int))=((n-1-q:Nat):Int):=by rw[wrap_i64 ah ah];omega
  obtain⟨va,vc,rfl⟩:=il O;have ww:=ww.a @lq;refine wk ?_;refine aM (off:=q*6) (cs':=(yG n (q+1) [uv 0,.bool false,uv 0,uv 0,nS,iv 0] [uv 1,.bool false,uv 0,uv 0,nS,iv 0]).flatten) G2 rfl rfl (DD aT) rfl ao ?_;obtain⟨h4,eh4⟩:=gz (aO h3 (h.n+1) (.cells (yG n (q+1) [uv 0,.bool false,uv 0,uv 0,nS,iv 0] [uv 1,.bool false,uv 0,uv 0,nS,iv 0]).flatten 127 true));have V1:h4.b.get h.n=_:=eh4▸((aC ah).trans G1);have V2:=rS eh4;have VO:bT (h.n+2) h4 3 (.slice va q vc) q ((lA n q).map bZ):=eh4▸(fi O ah);have VX:aw h.n h h4:=eh4▸(X3.trans (aw.set _ ah));have Vn:=sW eh4;rw[eh4];clear G1 G2 O c0;have hhn:h.n+2≤h4.n:=ah;have ww:=ww.a (aN @w1 @w2);refine wk ?_;refine vo (new:=[iv ((n-1-q:Nat):Int)]) VO hhn (by simp[lA]) ah rfl rfl ao rfl fun v5 h5 o5 x5 n5 _=>?_;have g1:=x5.cY V1;have g2:=x5.cY V2;obtain⟨ua,uc,rfl⟩:=il o5;have e5:(lA n q).map bZ++[iv ((n-1-q:Nat):Int)]=(lA n (q+1)).map bZ:=Bg;rw[e5]at o5;refine wk ?_;refine aM (off:=1) (l:=[.slice ua (q+1) uc]) (cs':=[.slice (some ⟨h.n+1,0,none⟩) n n,.slice ua (q+1) uc]) g1 rfl rfl rfl rfl ao ?_;have ww:=ww.a @wq;refine wk ?_;exact⟨n-(q+1),ah,q+1,.slice ua (q+1) uc,ah,rfl,aA,(VX.trans (x5.mono ah)).trans (aw.set _ a_),(by show h.n+1<h5.n;omega),aF,(aC ah).trans g2,fi o5 ah,fun e=>ah⟩
 ·obtain rfl:q=n:=ah;obtain⟨va,vc,rfl⟩:=il O;have rv:=aq (off:=0) (n:=2) (show h.n<h3.n by omega) G1 rfl rfl;refine wk ?_;refine aM (off:=0) (l:=[.slice (some ⟨h.n+1,0,none⟩) q q,.slice va q vc]) (cs':=[.slice (some ⟨h.n+1,0,none⟩) q q,.slice va q vc]) G1 rfl rfl rfl rfl ao ?_;have rw':av (aO h3 h.n (.cells [.slice (some ⟨h.n+1,0,none⟩) q q,.slice va q vc] 84 true)) ⟨h.n,0,none⟩ 2=some [.slice (some ⟨h.n+1,0,none⟩) q q,.slice va q vc]:=aq (by show h.n<h3.n;omega) aF rfl rfl;refine wk ?_;exact hK _ _ (X3.trans (aw.set _ a_)) n3 ((aC ah).trans (by rw[G2];simp[yG])) (fi O ah)
theorem mk_89 {fr:Go.Ev.Fr}{h:ak}{K:Value→ak→Prop}{x y:Operand}:fY env (.makeSlice 89 x y) fr h K=dM env fr x fun a=>dM env fr y fun b=>IK 129 [uv 0,.bool false,iv 0,uv 0,iv 0,uv 0,uv 0,iv 0,uv 0] a b h K:=k_ c_
theorem Fq {n:Nat}{h:ak}{K:Value→ak→Prop}(hn:n≤1000)
  (hK:∀ vF h',aw h.n h h'→h.n+1<h'.n→h'.b.get (h.n+1)=some (.cells (List.replicate n [uv 1,.bool false,iv 0,uv 0,iv 0,uv 0,uv 0,iv 0,uv 0]).flatten 129 true)→bT (h.n+2) h' 3 vF n ((lA n n).map bZ)→K (.agg ⟨[.slice (some ⟨h.n+1,0,none⟩) n n,vF]⟩) h'):cy env (.func 19) [iv n] h K:=by
 refine F19 rfl ?_
 obtain⟨h1,e1,G1,G2,n1,X⟩:=C4 h (.cells [nS,nS] 91 true) (.cells (rep n [uv 0,.bool false,iv 0,uv 0,iv 0,uv 0,uv 0,iv 0,uv 0]) 129 true)
 have ww:=mW (aN @mk_89 @vb)
 refine wk ?_
 rw[e1]
 clear e1
 refine aM (off:=0) (l:=[.slice (some ⟨h.n+1,0,none⟩) n n]) (cs':=[.slice (some ⟨h.n+1,0,none⟩) n n,nS]) G1 rfl rfl rfl rfl ao ?_
 obtain⟨h2,eh2⟩:=gz (aO h1 h.n (.cells [.slice (some ⟨h.n+1,0,none⟩) n n,nS] 91 true))
 have W1:=rS eh2
 have W2:h2.b.get (h.n+1)=some (.cells (yG n 0 [uv 0,.bool false,iv 0,uv 0,iv 0,uv 0,uv 0,iv 0,uv 0] [uv 1,.bool false,iv 0,uv 0,iv 0,uv 0,uv 0,iv 0,uv 0]).flatten 129 true):=eh2▸((aC ah).trans (by rw[G2,r9];simp[yG]))
 have WX:aw h.n h h2:=eh2▸(X.trans (aw.set _ a_))
 have Wn:h2.n=h.n+2:=eh2▸n1
 rw[eh2]
 clear X G1 G2 n1
 have c0:=ay (off:=0) (show h.n<h2.n by omega) W1 rfl
 have ww:=mW Nn
 refine wk ?_
 refine aP (fun m fr' h'=>∃ (q:Nat) (vF:Value),q≤n∧m=n-q∧fr'.get 10=some (iv q)∧aw h.n h h'∧h.n+1<h'.n∧h'.b.get h.n=some (.cells [.slice (some ⟨h.n+1,0,none⟩) n n,vF] 91 true)∧h'.b.get (h.n+1)=some (.cells (yG n q [uv 0,.bool false,iv 0,uv 0,iv 0,uv 0,uv 0,iv 0,uv 0] [uv 1,.bool false,iv 0,uv 0,iv 0,uv 0,uv 0,iv 0,uv 0]).flatten 129 true)∧bT (h.n+2) h' 3 vF q ((lA n q).map bZ)∧(q=0→vF=nS)) n ?_ ah ?_
 ·exact⟨0,_,ah,ah,aA,WX,ah,W1,W2,.nil,fun _=>rfl⟩
 clear W1 W2 WX Wn c0
 rintro m fr2 h3 ⟨q,vF,hq,rfl,f10,X3,n3,G1,G2,O,z0⟩ hag
 have c0:=ay (off:=0) (show h.n<h3.n by omega) G1 rfl
 by_cases aT:q<n
 ·have lq:(q:Int)<(n:Int):=ah;have wq:=rU q;have w1:IntKind.wrap .i64 ((n:Int)-1)=(n:Int)-1:=wrap_i64 ah ah;have w2:IntKind.wrap .i64 ((n:Int)-1-(q:Int))=((n-1-q:Nat):Int):=by rw[wrap_i64 ah ah];omega
  obtain⟨va,vc,rfl⟩:=il O;have ww:=ww.a @lq;refine wk ?_;refine aM (off:=q*9) (cs':=(yG n (q+1) [uv 0,.bool false,iv 0,uv 0,iv 0,uv 0,uv 0,iv 0,uv 0] [uv 1,.bool false,iv 0,uv 0,iv 0,uv 0,uv 0,iv 0,uv 0]).flatten) G2 rfl rfl (DD aT) rfl ao ?_;obtain⟨h4,eh4⟩:=gz (aO h3 (h.n+1) (.cells (yG n (q+1) [uv 0,.bool false,iv 0,uv 0,iv 0,uv 0,uv 0,iv 0,uv 0] [uv 1,.bool false,iv 0,uv 0,iv 0,uv 0,uv 0,iv 0,uv 0]).flatten 129 true));have V1:h4.b.get h.n=_:=eh4▸((aC ah).trans G1);have V2:=rS eh4;have VO:bT (h.n+2) h4 3 (.slice va q vc) q ((lA n q).map bZ):=eh4▸(fi O ah);have VX:aw h.n h h4:=eh4▸(X3.trans (aw.set _ ah));have Vn:=sW eh4;rw[eh4];clear G1 G2 O c0;have hhn:h.n+2≤h4.n:=ah;have ww:=ww.a (aN @w1 @w2);refine wk ?_;refine vo (new:=[iv ((n-1-q:Nat):Int)]) VO hhn (by simp[lA]) ah rfl rfl ao rfl fun v5 h5 o5 x5 n5 _=>?_;have g1:=x5.cY V1;have g2:=x5.cY V2;obtain⟨ua,uc,rfl⟩:=il o5;have e5:(lA n q).map bZ++[iv ((n-1-q:Nat):Int)]=(lA n (q+1)).map bZ:=Bg;rw[e5]at o5;refine wk ?_;refine aM (off:=1) (l:=[.slice ua (q+1) uc]) (cs':=[.slice (some ⟨h.n+1,0,none⟩) n n,.slice ua (q+1) uc]) g1 rfl rfl rfl rfl ao ?_;have ww:=ww.a @wq;refine wk ?_;exact⟨n-(q+1),ah,q+1,.slice ua (q+1) uc,ah,rfl,aA,(VX.trans (x5.mono ah)).trans (aw.set _ a_),(by show h.n+1<h5.n;omega),aF,(aC ah).trans g2,fi o5 ah,fun e=>ah⟩
 ·obtain rfl:q=n:=ah;obtain⟨va,vc,rfl⟩:=il O;have rv:=aq (off:=0) (n:=2) (show h.n<h3.n by omega) G1 rfl rfl;refine wk ?_;refine aM (off:=0) (l:=[.slice (some ⟨h.n+1,0,none⟩) q q,.slice va q vc]) (cs':=[.slice (some ⟨h.n+1,0,none⟩) q q,.slice va q vc]) G1 rfl rfl rfl rfl ao ?_;have rw':av (aO h3 h.n (.cells [.slice (some ⟨h.n+1,0,none⟩) q q,.slice va q vc] 91 true)) ⟨h.n,0,none⟩ 2=some [.slice (some ⟨h.n+1,0,none⟩) q q,.slice va q vc]:=aq (by show h.n<h3.n;omega) aF rfl rfl;refine wk ?_;exact hK _ _ (X3.trans (aw.set _ a_)) n3 ((aC ah).trans (by rw[G2];simp[yG])) (fi O ah)
end Go.Proofs.YthjlppdnlahhoaaGreat
