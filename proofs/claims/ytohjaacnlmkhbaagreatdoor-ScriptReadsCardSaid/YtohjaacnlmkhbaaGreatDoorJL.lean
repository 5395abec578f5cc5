/- PROGRAMS READ, the document's side, walked. Conditions: none beyond each theorem's own. -/
import Derived.Test.YtohjaacnlmkhbaaGreatDoorXT
import Derived.Test.YtohjaacnlmkhbaaGreatDoorIA
import Derived.Test.YtohjaacnlmkhbaaGreatDoorJF
import Derived.Test.YtohjaacnlmkhbaaGreatDoorJA
import Derived.Test.YtohjaacnlmkhbaaGreatDoorIL
set_option linter.unusedSimpArgs false
set_option linter.unusedVariables false
namespace Go.Proofs.YtohjaacnlmkhbaaGreatDoor
open Go.Ev
set_option maxRecDepth 100000
set_option maxHeartbeats 1000000
theorem MD {p l:List UInt8}{ls rest:List (List UInt8)}(h:aZ 10 (c_ p)=ls++l::rest) (hr:rest≠[]):l=fk (chunk p ls.length)∧1≤(chunk p ls.length).length∧(chunk p ls.length).length≤4∧(ls.flatMap bw).length=4*ls.length:=by
 rw[iX]at h;obtain⟨r',y,rfl⟩:∃ r' y,rest=r'++[y]:=⟨rest.dropLast,rest.getLast hr,(List.dropLast_concat_getLast hr).symm⟩;have h2:bp p=ls++l::r':=by rw[show ls++l::(r'++[y])=(ls++l::r')++[y] by simp]at h;exact(List.append_inj' h rfl).1
 have hlen:ls.length<(p.length+3) / 4:=by have:=congrArg List.length h2;unfold bp at this;simp at this;omega
 have hk:∀ k,k<(p.length+3) / 4→(bp p)[k]?=some (fk (chunk p k)):=by intro k hk;unfold bp;rw[List.getElem?_map,List.getElem?_range hk];rfl
 have e1:=hk ls.length hlen;rw[h2,List.getElem?_append_right (Nat.le_refl _),Nat.sub_self]at e1;have e2:ls=(List.range ls.length).map fun k=>fk (chunk p k):=by
  refine List.ext_getElem? fun k=>?_;by_cases hkl:k<ls.length;·have:=hk k (by omega);rw[h2,List.getElem?_append_left hkl]at this;rw[this,List.getElem?_map,List.getElem?_range hkl];rfl
  ·rw[List.getElem?_eq_none (by omega),List.getElem?_eq_none (by simp;omega)]
 have cl:=fq p ls.length;refine⟨by simpa using e1,by omega,by omega,?_⟩;have e3:ls.flatMap bw=p.take (4*ls.length):=by
  rw[← pX p ls.length];conv=>lhs;rw[e2,List.flatMap_map]
  simp only[nO]
 rw[e3,List.length_take];omega
theorem J_ {s:List UInt8}{h:Heap}{K:Value→Heap→Prop}(hs:s.length≤5000)
  (hK1:∀ v p h',bn h.n h' 5 v p.length (p.map aw)→p.length≤1024→c_ p=s→ai h.n h h'→K (.tuple #[v,.int .i64 0]) h')
  (hK2:∀ e h',e≠0→(∀ p,p.length≤1024→s≠c_ p)→ai h.n h h'→K (.tuple #[.slice none 0 0,.int .i64 e]) h'):bT env (.func 54) [aq s] h K:=by
 refine F54 rfl ?_
 unfold aq
 simp -dsimp only[↓WB,↓D0,WP,ae,Nat.reduceEqDiff,Nat.reduceAdd]
 refine aE (fun m fr' h'=>∃ i a u ls,i≤s.length∧a≤i∧m=s.length-i∧ai h.n h h'∧fr'.get 6=some (.int .i64 (i:Nat))∧fr'.get 5=some (.int .i64 (a:Nat))∧fr'.get 4=some u∧bn h.n h' 5 u (ls.flatMap bw).length ((ls.flatMap bw).map aw)∧ls.length≤i∧(ls.flatMap bw).length≤4*ls.length∧aZ 10 s=ls++aZ 10 (s.drop a)∧(10:UInt8)∉(s.drop a).take (i-a)) s.length ?_ (by omega) ?_
 ·exact⟨0,0,_,[],by omega,by omega,rfl,ai.refl _ _,by simp[T.ah],by simp[T.ah],by simp only[T.ah];rfl,bn.nil,by simp,by simp,by simp,by simp⟩
 rintro m fr2 h2 ⟨i,a,u,ls,hi,ha,rfl,X2,f6,f5,f4,O2,hl,hb,hsp,hno⟩ hag
 have e6:=aj f6
 have e5:=aj f5
 have e4:=aj f4
 have b0:=au (hag 0 rfl)
 have n2:=X2.n
 have wi:IntKind.wrap .i64 ((i:Int)+1)=((i+1:Nat):Int):=by rw[wrap_i64 (by omega) (by omega)];omega
 obtain⟨ua,uc,rfl⟩:=gm O2
 by_cases aB:i<s.length
 ·have ix:∀ {J:Value→Prop},J (.int .u8 (s[i].toNat:Int))→Ah env 9 (.string ⟨s.toArray⟩) (.int .i64 (i:Int)) J:=fun q=>iO iV aB q;by_cases hc:s[i]=10
  ·have hsa:=zK ha aB hc hno;rw[hc]at ix;have o_:((10:UInt8).toNat:Int)=10:=rfl;have hll:((s.drop a).take (i-a)).length≤500000:=by rw[List.length_take,List.length_drop];omega
   have hs3:aZ 10 s=ls++(s.drop a).take (i-a)::aZ 10 (s.drop (i+1)):=by rw[hsp,hsa]
   have no:∀ h',ai h2.n h2 h'→(∀ p,p.length≤1024→s≠c_ p)→K (.tuple #[.slice none 0 0,.int .i64 16]) h':=fun h' X hh=>hK2 16 h' (by decide) hh (X2.trans (X.mono n2));have at_:=fun p (e:s=c_ p)=>MD (p:=p) (by rw[← e];exact hs3) (lT 10 _);(with_reducible repeat' (first|refine y1 ?_|simp -dsimp only[↓WB,↓D0,WP,ae,Nat.reduceEqDiff,Nat.reduceAdd,↓e6,↓e5,↓e4,↓b0,ak]));refine ix ?_;simp -dsimp only[↓WB,↓D0,WP,ae,Nat.reduceEqDiff,Nat.reduceAdd,↓e6,↓e5,↓e4,↓b0,o_];refine ig iV ha (by omega) ?_;rw[jY];generalize (s.drop a).take (i-a)=l at hll hs3 at_;simp -dsimp only[↓WB,↓D0,WP,ae,Nat.reduceEqDiff,Nat.reduceAdd,↓e6,↓e5,↓e4,↓b0];refine Ov (l:=l) hll (fun v h3 r3 r4 X3=>?_) (fun h3 hq X3=>?_)
   ·have n3:=X3.n;have O3:=O2.ext X3 (Nat.le_refl _);obtain⟨ra,rc,rfl,_⟩:=id r3;have tm:∀ n:Nat,((n:Int)).tmod 4=((n%4:Nat):Int):=fun n=>rfl;by_cases h4:(ls.flatMap bw).length%4=0
    ·have h4':(((ls.flatMap bw).length%4:Nat):Int)=0:=by omega
     (with_reducible repeat' (first|refine y5 ?_|simp -dsimp only[↓WB,↓D0,WP,ae,Nat.reduceEqDiff,Nat.reduceAdd,↓e6,↓e5,↓e4,↓b0,tm,h4',eq_self]));refine bn.app O3 r3 (by omega) (by omega) fun v' h5 O5 X5=>?_;simp -dsimp only[↓WB,↓D0,WP,ae,Nat.reduceEqDiff,Nat.reduceAdd,↓e6,↓e5,↓e4,↓b0,wi];refine⟨s.length-(i+1),by omega,i+1,i+1,v',ls++[l],by omega,by omega,rfl,(X2.trans (X3.mono n2)).trans X5,by simp[T.ah],by simp[T.ah],by simp[T.ah],?_,by simp;omega,?_,?_,by simp⟩;·rw[List.flatMap_append];simpa using O5
     ·rw[List.flatMap_append,List.length_append,List.length_append];simp only[List.flatMap_cons,List.flatMap_nil,List.append_nil,List.length_cons,List.length_nil];omega
     ·rw[hs3];simp
    ·have h4':¬(((ls.flatMap bw).length%4:Nat):Int)=0:=by omega
     (with_reducible repeat' (first|refine y5 ?_|simp -dsimp only[↓WB,↓D0,WP,ae,Nat.reduceEqDiff,Nat.reduceAdd,↓e6,↓e5,↓e4,↓b0,tm,h4']));refine no _ X3 fun p _ e=>?_;have:=(at_ p e).2.2.2;omega
   ·simp -dsimp only[↓WB,↓D0,WP,ae,Nat.reduceEqDiff,Nat.reduceAdd,↓e6,↓e5,↓e4,↓b0];refine no _ X3 fun p _ e=>?_;have:=at_ p e;exact hq _ this.2.1 this.2.2.1 this.1
  ·have hci:¬((s[i].toNat:Int)=10):=fun e=>hc (UInt8.toNat_inj.1 (by show s[i].toNat=10;omega));have hts:=fj ha aB;generalize s[i]=x at ix hc hci hts;(with_reducible repeat' (first|refine y1 ?_|simp -dsimp only[↓WB,↓D0,WP,ae,Nat.reduceEqDiff,Nat.reduceAdd,↓e6,↓e5,↓e4,↓b0,ak]));refine ix ?_;simp -dsimp only[↓WB,↓D0,WP,ae,Nat.reduceEqDiff,Nat.reduceAdd,↓e6,↓e5,↓e4,↓b0,hci,wi];refine⟨s.length-(i+1),by omega,i+1,a,_,ls,by omega,by omega,rfl,X2,by simp[T.ah],by simp[T.ah,f5],by simp[T.ah,f4],O2,by omega,hb,hsp,?_⟩;rw[hts];intro hm;rcases List.mem_append.1 hm with hm|hm;·exact hno hm
   ·rw[List.mem_singleton]at hm;exact hc hm.symm
 ·have hie:i=s.length:=by omega
  subst hie;have hno':(10:UInt8)∉s.drop a:=by rw[List.take_of_length_le (by rw[List.length_drop];omega)]at hno;exact hno
  rw[lP hno']at hsp;have last:∀ p,s=c_ p→s.drop a=[]∧ls=bp p:=by intro p e;have h1:=hsp;rw[e,iX]at h1;have h2:=List.append_inj' h1 rfl;rw[e];exact⟨(List.cons.inj h2.2).1.symm,h2.1.symm⟩
  have lastp:∀ p,s=c_ p→ls.flatMap bw=p:=by intro p e;rw[(last p e).2];have:=mP p;unfold rH at this;rw[iX,List.flatMap_append]at this;simpa[bw]using this
  by_cases hal:a=s.length
  ·subst hal;have rO:=nu.own O2;generalize ls.flatMap bw=out at *
   (with_reducible repeat' (first|refine y2 ?_|simp -dsimp only[↓WB,↓D0,WP,ae,Nat.reduceEqDiff,Nat.reduceAdd,↓e6,↓e5,↓e4,↓b0,ak]));refine tJ (p:=out) rO (Nat.le_refl _) (by omega) fun h3 X3=>?_;have n3:=X3.n;have O3:=O2.ext X3 (Nat.le_refl _);unfold aq;by_cases ht:c_ out=s
   ·have q:((⟨(c_ out).toArray⟩:ByteArray)=⟨s.toArray⟩)=True:=eq_true (by rw[ht]);by_cases h1024:out.length≤1024
    ·have hq:¬(1024:Int)<(out.length:Int):=by omega
     simp -dsimp only[↓WB,↓D0,WP,ae,Nat.reduceEqDiff,Nat.reduceAdd,↓e6,↓e5,↓e4,↓b0,ak,q,hq];exact hK1 _ out _ O3 h1024 ht (X2.trans (X3.mono n2))
    ·have hq:(1024:Int)<(out.length:Int):=by omega
     simp -dsimp only[↓WB,↓D0,WP,ae,Nat.reduceEqDiff,Nat.reduceAdd,↓e6,↓e5,↓e4,↓b0,ak,q,hq];refine hK2 17 _ (by decide) (fun p hp e=>?_) (X2.trans (X3.mono n2));rw[lastp p e]at h1024;exact h1024 hp
   ·have q:((⟨(c_ out).toArray⟩:ByteArray)=⟨s.toArray⟩)=False:=eq_false fun e=>ht (str_inj.1 e);simp -dsimp only[↓WB,↓D0,WP,ae,Nat.reduceEqDiff,Nat.reduceAdd,↓e6,↓e5,↓e4,↓b0,ak,q];refine hK2 16 _ (by decide) (fun p hp e=>ht ?_) (X2.trans (X3.mono n2));rw[lastp p e];exact e.symm
  ·have hq:¬((a:Int)=(s.length:Int)):=by omega
   (with_reducible repeat' (first|refine y2 ?_|simp -dsimp only[↓WB,↓D0,WP,ae,Nat.reduceEqDiff,Nat.reduceAdd,↓e6,↓e5,↓e4,↓b0,ak,hq]));refine hK2 16 _ (by decide) (fun p hp e=>?_) X2;have:=congrArg List.length (last p e).1;rw[List.length_drop,List.length_nil]at this;omega
def NI (ls:List (List UInt8)):Prop:=∀ r,ls.head?≠some (32::r)
theorem Pb:NI []:=fun r h=>by cases h
theorem qS {l:List UInt8}{ls:List (List UInt8)}(h:∀ r,l≠32::r):NI (l::ls):=fun r e=>h r (Option.some.inj e)
theorem A2 (a:ba):(∀ r,de a≠32::r)∧de a≠dM:=by
 by_cases h:a.k=2;·rw[jh h];exact⟨fun r e=>by revert e;simp[gy],by decide⟩
 ·rw[jv h];constructor;·intro r e;simp[jZ]at e
  ·intro e;simp[jZ,dM]at e
theorem RS (A:List ba):NI (A.map de):=by
 cases A with
 | nil=>exact Pb
 | cons a A=>exact qS (A2 a).1
theorem DH (P:List (List UInt8)) (A:List ba):NI (P.flatMap ct++A.map de):=by
 cases P with
 | nil=>exact RS A
 | cons p P=>exact qS (by intro r e;simp[dM]at e)
theorem wO:∀ {D D' X X':List (List UInt8)},D.map (32::·)++X=D'.map (32::·)++X'→NI X→NI X'→D=D'∧X=X'
 | [],[],_,_,h,_,_=>⟨rfl,h⟩
 | [],d::D',X,X',h,n,_=>by exfalso;simp only[List.map_nil,List.nil_append,List.map_cons,List.cons_append]at h;exact n d (by rw[h];rfl)
 | d::D,[],X,X',h,_,n=>by exfalso;simp only[List.map_nil,List.nil_append,List.map_cons,List.cons_append]at h;exact n d (by rw[← h];rfl)
 | d::D,d'::D',X,X',h,n,n'=>by simp only[List.map_cons,List.cons_append,List.cons.injEq,true_and]at h;obtain⟨h1,h2⟩:=wO h.2 n n';exact⟨by rw[h.1,h1],h2⟩
theorem E7 {p q:List UInt8}(h:bp p=bp q):p=q:=by rw[← mP p,← mP q];unfold c_;rw[h]
theorem sB:∀ {P P':List (List UInt8)}{rest:List (List UInt8)}{A:List ba},P.flatMap ct++rest=P'.flatMap ct++A.map de→(P≠[]→NI rest)→∃ P1,P'=P++P1∧rest=P1.flatMap ct++A.map de
 | [],P',rest,A,h,_=>⟨P',rfl,h⟩
 | p::P,[],rest,A,h,_=>by
   exfalso;cases A with
   | nil=>simp[ct]at h
   | cons a A =>
     simp only[List.flatMap_cons,ct,List.cons_append,List.flatMap_nil,List.nil_append,List.map_cons,List.cons.injEq]at h
     exact(A2 a).2 h.1.symm
 | p::P,p'::P',rest,A,h,n=>by
   simp only[List.flatMap_cons,ct,List.cons_append,List.cons.injEq,true_and,List.append_assoc]at h;have nx:NI (P.flatMap ct++rest):=by
     cases P with
     | nil=>exact n (by simp)
     | cons q P=>exact qS (by intro r e;simp[dM]at e)
   obtain⟨h1,h2⟩:=wO h nx (DH P' A);obtain⟨P1,e1,e2⟩:=sB h2 (fun _=>n (by simp));exact⟨P1,by rw[E7 h1,e1];rfl,e2⟩
theorem HP {D rest:List (List UInt8)}{P1:List (List UInt8)}{A:List ba}(h:dM::(D.map (32::·)++rest)=P1.flatMap ct++A.map de) (n:NI rest):∃ p P2,P1=p::P2∧bp p=D:=by
 cases P1 with
 | nil =>
   exfalso
   cases A with
   | nil=>simp at h
   | cons a A =>
     simp only[List.flatMap_nil,List.nil_append,List.map_cons,List.cons.injEq]at h
     exact(A2 a).2 h.1.symm
 | cons p P2 =>
   simp only[List.flatMap_cons,ct,List.cons_append,List.cons.injEq,true_and,List.append_assoc]at h
   exact⟨p,P2,rfl,(wO h n (DH P2 A)).1.symm⟩
theorem HW {ls:List (List UInt8)}{P1:List (List UInt8)}{A:List ba}(h:ls=P1.flatMap ct++A.map de) (n:ls.head?≠some dM):P1=[]∧ls=A.map de:=by
 cases P1 with
 | nil=>exact⟨rfl,h⟩
 | cons p P2=>exact absurd (by rw[h];rfl) n
theorem xD {D E:List (List UInt8)}(h:D.flatMap cL=E.flatMap cL) (hD:∀ l∈D,(10:UInt8)∉l) (hE:∀ l∈E,(10:UInt8)∉l):D=E:=by have h1:=mz hD;rw[h,mz hE]at h1;exact(List.append_inj' h1 rfl).1.symm
theorem Lr {a b:ba}(ha:xA a∧ft a=true) (hb:xA b∧ft b=true) (h:de a=de b):a=b:=by
 by_cases hc:de a=gy
 ·have two:∀ {x:ba},ft x=true→de x=gy→x=⟨2,0,0,0⟩:=by
   intro x hx e;rcases Bh hx with h1|h1;·exfalso;rw[jv (by omega)]at e;simp[jZ,gy]at e
   ·exact h1
  rw[two ha.2 hc,two hb.2 (h▸hc)]
 ·obtain⟨k1,s1⟩:=uU ha.2 hc;obtain⟨k2,s2⟩:=uU hb.2 (h▸hc);rw[h,s2]at s1;simp only[List.cons.injEq,and_true,true_and]at s1;obtain⟨⟨a1,a2⟩,⟨a3,a4⟩,a5,a6⟩:=ha.1;obtain⟨⟨b1,b2⟩,⟨b3,b4⟩,b5,b6⟩:=hb.1;have e1:=nL s1.1 b1 b2 a1 a2;have e2:=nL s1.2.1 b3 b4 a3 a4;have e3:=nL s1.2.2 b5 b6 a5 a6;cases a;cases b;simp_all
theorem BH:∀ {A A':List ba},Rk A→Rk A'→A.map de=A'.map de→A=A'
 | [],[],_,_,_=>rfl
 | [],_::_,_,_,h=>by simp at h
 | _::_,[],_,_,h=>by simp at h
 | a::A,b::A',o,o',h=>by simp only[List.map_cons,List.cons.injEq]at h;rw[Lr (o a List.mem_cons_self) (o' b List.mem_cons_self) h.1,BH (fun x hx=>o x (List.mem_cons_of_mem _ hx)) (fun x hx=>o' x (List.mem_cons_of_mem _ hx)) h.2]
theorem Bq {c:Nat→Int}{P:List (List UInt8)}{A:List ba}(g:Good c P A):Rk A:=fun a ha=>⟨g.ok a ha,List.all_eq_true.1 g.a a ha⟩
theorem xR {t:List UInt8}{c:Nat→Int}{P:List (List UInt8)}{A:List ba}(h:aZ 10 t=cO c P A++[[]]):t=cU c P A:=by rw[← lZ 10 t,h,← l6,lZ]
theorem HX (c:Nat→Int) (X:List (List UInt8)) {k:Nat}(hk:k<14):((List.range 14).map (dh c)++X)[k]?=some (dh c k):=by rw[List.getElem?_append_left (by simpa using hk),List.getElem?_map,List.getElem?_range hk];rfl
theorem Iz {c d:Nat→Int}{k:Nat}(hk:k<14) (h:dh c k=dh d k) (c0 : -9223372036854775808≤c k) (c1:c k≤9223372036854775807) (d0 : -9223372036854775808≤d k) (d1:d k≤9223372036854775807):c k=d k:=by have:=kl (c:=c) hk;rw[h,kl hk]at this;simp only[List.cons.injEq,and_true,true_and]at this;exact(nL this d0 d1 c0 c1).symm
set_option maxHeartbeats 2000000
def zN:List Value:=aV (fun _=>0) (.slice none 0 0) (.slice none 0 0)
def y0:Value:=.agg ⟨zN⟩
structure Cn (h0 H:Heap) (nb sb:Nat) (c:Nat→Int) (pv av:Value):Prop where
 x:ai h0.n h0 H
 r:dm H h0.n zN 28
 n:dm H nb zN 28
 s:dm H sb (aV c pv av) 28
 rn:h0.n<nb
 ns:nb<sb
theorem Cn.ext {h0 H H':Heap}{nb sb:Nat}{c:Nat→Int}{pv av:Value}(o:Cn h0 H nb sb c pv av) (X:ai H.n H H'):Cn h0 H' nb sb c pv av :=
 ⟨o.x.trans (X.mono o.x.n),o.r.ext X o.r.lt,o.n.ext X o.n.lt,o.s.ext X o.s.lt,o.rn,o.ns⟩
theorem Cn.set {h0 H:Heap}{nb sb:Nat}{c c':Nat→Int}{pv av pv' av':Value}(o:Cn h0 H nb sb c pv av):Cn h0 { H with b:=H.b.set sb (.cells (aV c' pv' av') 28 true) } nb sb c' pv' av' :=
 ⟨o.x.trans (ai.set _ (by have:=o.rn;have:=o.ns;omega)),o.r.setOther (by have:=o.rn;have:=o.ns;omega),o.n.setOther (by have:=o.ns;omega),o.s.set,o.rn,o.ns⟩
theorem NJ:zN.all aF=true:=rfl
theorem Jg {t:List UInt8}{c:Nat→Int}{P ls:List (List UInt8)}{h0 H:Heap}{nb sb:Nat}{pv v:Value}{fr:Fr}{K:Value→Heap→Prop}(o:Cn h0 H nb sb c pv (.slice none 0 0)) (oP:iS (sb+1) H pv P) (R:ph H.n H v ls)
  (g2:fr.get 2=some (.pointer (some ⟨h0.n,0,none⟩))) (g6:fr.get 6=some (.pointer (some ⟨nb,0,none⟩))) (g8:fr.get 8=some (.pointer (some ⟨sb,0,none⟩))) (g4:fr.get 4=some v)
  (hls:ls.length≤5000) (hll:∀ l∈ls,l.length≤500000) (hP:P.length≤5000)
  (hT:∀ A,ls=A.map de→t=cU c P A) (hF:∀ c' P' A',Good c' P' A'→t=cU c' P' A'→(∀ k,k<14→c' k=c k)∧P'=P∧ls=A'.map de)
  (hK1:∀ A av h',Good c P A→A.length≤100000→t=cU c P A→qk h'.n h' pv P→qg h'.n h' av A→(∀ n,aW n pv pv=true)→(∀ n,aW n av av=true)→ai h0.n h0 h'→K (.tuple #[.agg ⟨aV c pv av⟩,.int .i64 0]) h')
  (hK2:∀ h',(∀ c P A,Good c P A→A.length≤100000→t≠cU c P A)→ai h0.n h0 h'→K (.tuple #[y0,.int .i64 16]) h'):Ad.wp env 161 none fr H (eY env [.cell 2 28,.tmp 3] K):=by
 have e2:=aj g2
 have e6:=aj g6
 have e8:=aj g8
 have e4:=aj g4
 obtain⟨pa,pc,rfl⟩:=oP.val
 have fail:∀ (fr':Fr) (H':Heap),Cn h0 H' nb sb c (.slice pa P.length pc) (.slice none 0 0)∨(∃ av,Cn h0 H' nb sb c (.slice pa P.length pc) av)→(∀ c P A,Good c P A→A.length≤100000→t≠cU c P A)→fr'.get 2=some (.pointer (some ⟨h0.n,0,none⟩))→fr'.get 6=some (.pointer (some ⟨nb,0,none⟩))→N1.wp env 161 none fr' H' (ue (GC.wp env 161 none Pm) (eY env [.cell 2 28,.tmp 3] K)):=by
  intro fr' H' o' hno p2 p6;have o'':∃ av,Cn h0 H' nb sb c (.slice pa P.length pc) av:=by rcases o' with o'|o';exact⟨_,o'⟩;exact o'
  obtain⟨av,o'⟩:=o'';have k2:=aj p2;have k6:=aj p6;have d6:=o'.n.kW.1;simp -dsimp only[↓WB,↓I8,WP,ae,Nat.reduceEqDiff,Nat.reduceAdd,↓k2,↓k6,d6];refine bN (off:=0) (cs':=zN) o'.r.get rfl rfl rfl rfl (by decide) ?_;have B:=o'.r.set (cs':=zN);have X:ai h0.n h0 { H' with b:=H'.b.set h0.n (.cells zN 28 true) }:=o'.x.trans (ai.set _ (Nat.le_refl _));generalize ({ H' with b:=H'.b.set h0.n (.cells zN 28 true) }:Heap)=H2 at B X ⊢;have d2:=B.kW.1;simp -dsimp only[↓WB,↓I8,WP,ae,Nat.reduceEqDiff,Nat.reduceAdd,↓k2,↓k6,d2];exact hK2 _ hno X
 simp -dsimp only[↓WB,↓cQ,↓bg,↓cV,↓cS,↓bo,↓cT,↓aK,↓cR,↓a7,↓bF,↓aS,↓bJ,↓bO,↓bH,↓aT,↓bG,↓aX,↓bI,↓aR,↓bE,WP,ae,Nat.reduceEqDiff,Nat.reduceAdd,↓e4]
 refine EC R (Nat.le_refl _) (by omega) hll (fun A av h1 oA eA O1 a0 X1=>?_) (fun h1 hno X1=>?_)
 ·have n1:=X1.n;have o1:=o.ext X1;have oP1:=oP.ext X1 (Nat.le_refl _);obtain⟨aa,ac,rfl⟩:=gm O1;simp -dsimp only[↓WB,↓cQ,↓bg,↓cV,↓cS,↓bo,↓cT,↓aK,↓cR,↓a7,↓bF,↓aS,↓bJ,↓bO,↓bH,↓aT,↓bG,↓aX,↓bI,↓aR,↓bE,WP,ae,Nat.reduceEqDiff,Nat.reduceAdd,↓e2,↓e6,↓e8,↓e4];refine bN (off:=15) (cs':=aV c (.slice pa P.length pc) (.slice aa A.length ac)) o1.s.get rfl rfl rfl rfl (by decide) ?_;have o2:=o1.set (c':=c) (pv':=.slice pa P.length pc) (av':=.slice aa A.length ac);have hs0:h0.n<sb:=by have:=o.rn;have:=o.ns;omega
  have hsl:sb<H.n:=o.s.lt;have O2:bn H.n { h1 with b:=h1.b.set sb (.cells (aV c (.slice pa P.length pc) (.slice aa A.length ac)) 28 true) } 35 (.slice aa A.length ac) A.length (A.map ba.cells).flatten:=fu O1 hsl;have oP2:iS (sb+1) { h1 with b:=h1.b.set sb (.cells (aV c (.slice pa P.length pc) (.slice aa A.length ac)) 28 true) } (.slice pa P.length pc) P:=oP1.Ao (Nat.lt_succ_self _);generalize ({ h1 with b:=h1.b.set sb (.cells (aV c (.slice pa P.length pc) (.slice aa A.length ac)) 28 true) }:Heap)=h2 at o2 O2 oP2 ⊢;have hAl:A.length≤5000:=by have:=congrArg List.length eA;rw[List.length_map]at this;omega
  have ds:=o2.s.kW;simp -dsimp only[↓WB,↓I8,WP,ae,Nat.reduceEqDiff,Nat.reduceAdd,↓e2,↓e6,↓e8,ds.1];refine DV (B:=h2.n) (c:=c) (P:=P) (A:=A) oP2.rd (qg.own O2) (Nat.le_refl _) hP (by omega) fun h3 X3=>?_;have n3:=X3.n;have o3:=o2.ext X3;by_cases hm:iz c P A=0
  ·have hg:Good c P A:=G2 hm (fun a ha=>(oA a ha).1);have q:((iz c P A:Int)=0)=True:=eq_true hm;have ds3:=o3.s.kW.1;simp -dsimp only[↓WB,↓I8,WP,ae,Nat.reduceEqDiff,Nat.reduceAdd,↓e2,↓e6,↓e8,q,ds3];refine bN (off:=0) (cs':=aV c (.slice pa P.length pc) (.slice aa A.length ac)) o3.r.get rfl rfl rfl rfl (by decide) ?_;have B:=o3.r.set (cs':=aV c (.slice pa P.length pc) (.slice aa A.length ac));have X4:ai h0.n h0 { h3 with b:=h3.b.set h0.n (.cells (aV c (.slice pa P.length pc) (.slice aa A.length ac)) 28 true) }:=o3.x.trans (ai.set _ (Nat.le_refl _));have hs0:h0.n<sb:=by have:=o.rn;have:=o.ns;omega
   have O4:bn H.n { h3 with b:=h3.b.set h0.n (.cells (aV c (.slice pa P.length pc) (.slice aa A.length ac)) 28 true) } 35 (.slice aa A.length ac) A.length (A.map ba.cells).flatten:=fu (O2.ext X3 (Nat.le_refl _)) (by omega);have oP4:iS (sb+1) { h3 with b:=h3.b.set h0.n (.cells (aV c (.slice pa P.length pc) (.slice aa A.length ac)) 28 true) } (.slice pa P.length pc) P:=(oP2.ext X3 (Nat.le_refl _)).Ao (by omega);generalize ({ h3 with b:=h3.b.set h0.n (.cells (aV c (.slice pa P.length pc) (.slice aa A.length ac)) 28 true) }:Heap)=h4 at B X4 O4 oP4 ⊢;have d2:=B.kW.1;simp -dsimp only[↓WB,↓I8,WP,ae,Nat.reduceEqDiff,Nat.reduceAdd,↓e2,↓e6,↓e8,d2];exact hK1 A _ h4 hg (by omega) (hT A eA) oP4.rd (qg.own O4) (fun n=>oP4.same) (fun n=>rB O4) X4
  ·have q:((iz c P A:Int)=0)=False:=eq_false hm;simp -dsimp only[↓WB,↓cQ,↓cV,↓bc,↓cS,↓bo,↓cT,↓aK,↓cR,↓a7,↓bF,↓aS,↓bJ,↓bO,↓bH,↓aT,↓bG,↓aX,↓bI,↓aR,↓bE,WP,ae,Nat.reduceEqDiff,Nat.reduceAdd,↓e2,↓e6,↓e8,q];refine fail _ _ (.inr ⟨_,o3⟩) (fun c' P' A' g hA' e=>hm ?_) (by simp[T.ah,g2]) (by simp[T.ah,g6]);obtain⟨f1,f2,f3⟩:=hF c' P' A' g e;have:A=A':=BH oA (Bq g) (by rw[← eA,← f3]);subst this f2;rw[wD (d:=c') (fun k hk=>(f1 k hk).symm)];exact Cc g hA'
 ·have n1:=X1.n;have o1:=o.ext X1;simp -dsimp only[↓WB,↓cQ,↓cV,↓bc,↓cS,↓bo,↓cT,↓aK,↓cR,↓a7,↓bF,↓aS,↓bJ,↓bO,↓bH,↓aT,↓bG,↓aX,↓bI,↓aR,↓bE,WP,ae,Nat.reduceEqDiff,Nat.reduceAdd,↓e2,↓e6,↓e8,↓e4];refine bN (off:=15) (cs':=aV c (.slice pa P.length pc) (.slice none 0 0)) o1.s.get rfl rfl rfl rfl (by decide) ?_;have o2:=o1.set (c':=c) (pv':=.slice pa P.length pc) (av':=.slice none 0 0);generalize ({ h1 with b:=h1.b.set sb (.cells (aV c (.slice pa P.length pc) (.slice none 0 0)) 28 true) }:Heap)=h2 at o2 ⊢;simp -dsimp only[↓WB,↓cQ,↓cV,↓bc,↓cS,↓bo,↓cT,↓aK,↓cR,↓a7,↓bF,↓aS,↓bJ,↓bO,↓bH,↓aT,↓bG,↓aX,↓bI,↓aR,↓bE,WP,ae,Nat.reduceEqDiff,Nat.reduceAdd,↓e2,↓e6,↓e8];refine fail _ _ (.inl o2) (fun c' P' A' g hA' e=>hno A' (Bq g) (hF c' P' A' g e).2.2) (by simp[T.ah,g2]) (by simp[T.ah,g6])
def qZ (ls:List (List UInt8)):Nat:=(ls.map fun l=>l.length+1).sum
theorem z7 (a b:List (List UInt8)):qZ (a++b)=qZ a+qZ b:=by simp[qZ]
theorem jt (l:List UInt8) (b:List (List UInt8)):qZ (l::b)=l.length+1+qZ b:=by simp[qZ]
theorem vr:∀ D:List (List UInt8),(D.flatMap cL).length=qZ D
 | []=>rfl
 | d::D=>by rw[List.flatMap_cons,List.length_append,vr D,jt,jy]
theorem Ar:∀ D:List (List UInt8),qZ D≤qZ (D.map (32::·))
 | []=>Nat.le_refl _
 | d::D=>by rw[List.map_cons,jt,jt,List.length_cons];have:=Ar D;omega
theorem qM:∀ D:List (List UInt8),D.length≤qZ D
 | []=>Nat.le_refl _
 | d::D=>by rw[jt,List.length_cons];have:=qM D;omega
theorem Ae:∀ {D:List (List UInt8)}{l:List UInt8},l∈D→l.length≤qZ D
 | d::D,l,h=>by
   rw[jt];rcases List.mem_cons.1 h with rfl|h;· omega
   · have:=Ae h;omega
theorem Sq {B B':Nat}{h:Heap}{e:TypeId}{v:Value}{n:Nat}{cs:List Value}(o:bn B' h e v n cs) (hb:B≤B'):bn B h e v n cs:=by
 cases o with
 | nil=>exact .nil
 | emp i hi=>exact .emp i hi
 | row i n cs h1 h2 h3=>exact .row i n cs (by omega) h2 h3
theorem Ys {x:UInt8}{r:List UInt8}{J:Value→Prop}(q:J (.int .u8 (x.toNat:Int))):Ah env 9 (.string ⟨(x::r).toArray⟩) (.int .i64 0) J:=NU q
theorem Wj {ls:List (List UInt8)}{va:Option Addr}{vc:Nat}{fr:Fr}{H:Heap}{Q:Ex→Fr→Heap→Prop}(R:ph H.n H (.slice va ls.length vc) ls) (hsz:qZ ls≤5000) (hp:ls.head?=some dM)
   (g4:fr.get 4=some (.slice va ls.length vc)) (g13:fr.get 13=some (.string ⟨⟨[]⟩⟩)) (g14:fr.get 14=some (.int .i64 1))
   (hQ:∀ (fr':Fr) (D:List (List UInt8)),ls=dM::(D.map (32::·)++ls.drop (D.length+1))→NI (ls.drop (D.length+1))→D.length+1≤ls.length→(∀ t,t≤12→fr'.get t=fr.get t)→fr'.get 13=some (aq (D.flatMap cL))→fr'.get 14=some (.int .i64 ((D.length+1:Nat):Int))→Q .normal fr' H):FL.wp env 161 none fr H (iM 4 Q):=by
 have e4:=aj g4
 have hlen:=qM ls
 have hpos:1≤ls.length:=by cases ls with|nil=>cases hp|cons l ls=>simp
 simp -dsimp only[↓WB,↓I8,WP,ae,Nat.reduceEqDiff,Nat.reduceAdd,↓e4]
 refine aE (fun m fr' h'=>∃ D:List (List UInt8),D.length+1≤ls.length∧m=ls.length-(D.length+1)∧ai H.n H h'∧h'.n=h'.n∧h'=H∧ls=dM::(D.map (32::·)++ls.drop (D.length+1))∧(∀ t,t≤12→fr'.get t=fr.get t)∧fr'.get 13=some (aq (D.flatMap cL))∧fr'.get 14=some (.int .i64 ((D.length+1:Nat):Int))) (ls.length-1) ?_ (by omega) ?_
 · refine⟨[],by simpa using hpos,rfl,ai.refl _ _,rfl,rfl,?_,fun t _=>rfl,g13,g14⟩;cases ls with
   | nil=>cases hp
   | cons l ls=>simp at hp;rw[hp];rfl
 rintro m fr2 h2 ⟨D,hD,rfl,_,_,rfl,hls,hfr,f13,f14⟩ hag
 have T8:=aj f13
 have QV:=aj f14
 have b4:=aj ((hfr 4 (by decide)).trans g4)
 unfold aq at T8
 have dsz:(D.flatMap cL).length+qZ (ls.drop (D.length+1))+8≤qZ ls:=by rw[vr];have:=Ar D;have e:=congrArg qZ hls;rw[jt,z7]at e;have:dM.length=7:=rfl;omega
 by_cases aB:D.length+1<ls.length
 · obtain⟨_,ri,ro,rfl,dc⟩:=R.at_ aB;have hdr:ls.drop (D.length+1)=ls[D.length+1]::ls.drop (D.length+1+1):=List.drop_eq_getElem_cons aB;generalize ls[D.length+1]=w at dc hdr;unfold aq at dc;have stop:NI (ls.drop (D.length+1))→∀ fr',(∀ t,t≤14→fr'.get t=fr2.get t)→Q .normal fr' h2:=fun hn fr' q=>hQ fr' D hls hn hD (fun t ht=>(q t (by omega)).trans (hfr t ht)) ((q 13 (by omega)).trans f13) ((q 14 (by omega)).trans f14);cases w with
   | nil =>have z:(([]:List UInt8).length:Int)=0:=rfl;(with_reducible repeat' (first|refine y1 ?_|refine y2 ?_|refine y4 ?_|simp -dsimp only[↓WB,↓I8,WP,ae,Nat.reduceEqDiff,Nat.reduceAdd,↓T8,↓QV,↓b4,Nat.mul_one,dc,ak,z]));exact stop (by rw[hdr];exact qS (by simp)) _ (fun t ht=>by (repeat (rw[T.ar _ _ (by omega)])))
   | cons x r =>
     have z:(0:Int)<((x::r).length:Int):=by simp only[List.length_cons];omega
     by_cases hx:x=32
     · subst hx;have e32:((32:UInt8).toNat:Int)=32:=rfl;have w1:IntKind.wrap .i64 (((D.length+1:Nat):Int)+1)=((D.length+1+1:Nat):Int):=by rw[wrap_i64 (by omega) (by omega)];omega
       have hszw:qZ (ls.drop (D.length+1))=(32::r).length+1+qZ (ls.drop (D.length+1+1)):=by rw[hdr,jt]
       rw[List.length_cons]at hszw;(with_reducible repeat' (first|refine y1 ?_|refine y4 ?_|simp -dsimp only[↓WB,↓I8,WP,ae,Nat.reduceEqDiff,Nat.reduceAdd,↓T8,↓QV,↓b4,Nat.mul_one,dc,ak,z]));refine Ys ?_;(with_reducible repeat' (first|refine y4 ?_|simp -dsimp only[↓WB,↓I8,WP,ae,Nat.reduceEqDiff,Nat.reduceAdd,↓T8,↓QV,↓b4,Nat.mul_one,dc,ak,z,e32]));refine pL (lo:=1) iV (by simp) ?_;have hd1:(32::r).drop 1=r:=rfl;rw[hd1];have s10:(⟨⟨[10]⟩⟩:ByteArray).size=1:=rfl;(with_reducible repeat' (first|refine y5 ?_|simp -dsimp only[↓WB,↓I8,WP,ae,Nat.reduceEqDiff,Nat.reduceAdd,↓T8,↓QV,↓b4,Nat.mul_one,dc,aY,ak,List.length_append,s10,Hr,w1]));refine⟨ls.length-((D++[r]).length+1),by simp;omega,D++[r],by simp;omega,rfl,ai.refl _ _,?_,?_,?_,?_⟩
       · have hl1:(D++[r]).length=D.length+1:=by simp
         conv=>lhs;rw[hls,hdr]
         rw[hl1];simp
       · intro t ht;repeat (rw[T.ar _ _ (by omega)])
         exact hfr t ht
       · have:(D++[r]).flatMap cL=D.flatMap cL++r++[10]:=by simp[cL]
         rw[this];simp[T.ah,aq]
       · simp[T.ah]
     · have hxi:¬((x.toNat:Int)=32):=fun e=>hx (UInt8.toNat_inj.1 (by show x.toNat=32;omega));(with_reducible repeat' (first|refine y1 ?_|refine y4 ?_|simp -dsimp only[↓WB,↓I8,WP,ae,Nat.reduceEqDiff,Nat.reduceAdd,↓T8,↓QV,↓b4,Nat.mul_one,dc,ak,z]));refine Ys ?_;simp -dsimp only[↓WB,↓I8,WP,ae,Nat.reduceEqDiff,Nat.reduceAdd,↓T8,↓QV,↓b4,Nat.mul_one,dc,ak,z,hxi];exact stop (by rw[hdr];exact qS (fun r' e=>hx (List.cons.inj e).1)) _ (fun t ht=>by (repeat (rw[T.ar _ _ (by omega)])))
 · have hn:NI (ls.drop (D.length+1)):=by rw[List.drop_eq_nil_of_le (by omega)];exact Pb
   (with_reducible repeat' (first|refine y2 ?_|simp -dsimp only[↓WB,↓I8,WP,ae,Nat.reduceEqDiff,Nat.reduceAdd,↓T8,↓QV,↓b4]));exact hQ _ D hls hn hD (fun t ht=>by (repeat (rw[T.ar _ _ (by omega)]));exact hfr t ht) (by simp[T.ah,f13]) (by simp[T.ah,f14])
theorem zl {t:List UInt8}{c c':Nat→Int}{P' ls:List (List UInt8)}{A':List ba}(hE:aZ 10 t=(List.range 14).map (dh c)++ls++[[]]) (bd:∀ k,k<14→-9223372036854775808≤c k∧c k≤9223372036854775807) (g:Good c' P' A') (e:t=cU c' P' A'):(∀ k,k<14→c' k=c k)∧ls=P'.flatMap ct++A'.map de:=by
 rw[e,l6]at hE;have h1:=(List.append_inj' hE rfl).1;unfold cO at h1;rw[List.append_assoc]at h1;have hl:((List.range 14).map (dh c')).length=((List.range 14).map (dh c)).length:=by simp
 obtain⟨h2,h3⟩:=List.append_inj h1 hl;refine⟨fun k hk=>?_,h3.symm⟩;have h4:=congrArg (fun l=>l[k]?) h2;simp only[List.getElem?_map,List.getElem?_range hk,Option.map_some,Option.some.injEq]at h4;have b:=sf hk (g.c k hk);have:=bd k hk;exact Iz hk h4 (by omega) (by omega) this.1 this.2
theorem Cn.ext' {h0 H H':Heap}{nb sb:Nat}{c:Nat→Int}{pv av:Value}(o:Cn h0 H nb sb c pv av) (X:ai (sb+1) H H'):Cn h0 H' nb sb c pv av :=
 ⟨o.x.trans (X.mono (by have:=o.rn;have:=o.ns;omega)),o.r.ext X (by have:=o.rn;have:=o.ns;omega),o.n.ext X (by have:=o.ns;omega),o.s.ext X (Nat.lt_succ_self _),o.rn,o.ns⟩
theorem Ez {t:List UInt8}{c:Nat→Int}{ls:List (List UInt8)}{h0 H:Heap}{nb sb:Nat}{v:Value}{fr:Fr}{K:Value→Heap→Prop}(o:Cn h0 H nb sb c (.slice none 0 0) (.slice none 0 0)) (R:ph nb H v ls)
   (g2:fr.get 2=some (.pointer (some ⟨h0.n,0,none⟩))) (g6:fr.get 6=some (.pointer (some ⟨nb,0,none⟩))) (g8:fr.get 8=some (.pointer (some ⟨sb,0,none⟩))) (g4:fr.get 4=some v)
   (hsz:qZ ls≤5000) (h10:∀ l∈ls,(10:UInt8)∉l) (bd:∀ k,k<14→-9223372036854775808≤c k∧c k≤9223372036854775807) (hE:aZ 10 t=(List.range 14).map (dh c)++ls++[[]])
   (hK1:∀ P A pv av h',Good c P A→A.length≤100000→t=cU c P A→qk h'.n h' pv P→qg h'.n h' av A→(∀ n,aW n pv pv=true)→(∀ n,aW n av av=true)→ai h0.n h0 h'→K (.tuple #[.agg ⟨aV c pv av⟩,.int .i64 0]) h')
   (hK2:∀ h',(∀ c P A,Good c P A→A.length≤100000→t≠cU c P A)→ai h0.n h0 h'→K (.tuple #[y0,.int .i64 16]) h'):Eu.wp env 161 none fr H (eY env [.cell 2 28,.tmp 3] K):=by
 have hlen:=qM ls
 simp -dsimp only[↓WB,↓cQ,↓bg,↓cV,↓bc,↓cS,↓cT,↓aK,↓cR,↓a7,↓bF,↓aS,↓bJ,↓bO,↓bH,↓aT,↓bG,↓aX,↓bI,↓aR,↓bE,WP,ae,Nat.reduceEqDiff,Nat.reduceAdd]
 refine aE (fun m fr' h'=>∃ P pv v' ls',m=ls'.length∧Cn h0 h' nb sb c pv (.slice none 0 0)∧iS (sb+1) h' pv P∧ph nb h' v' ls'∧fr'.get 4=some v'∧ls=P.flatMap ct++ls'∧(P≠[]→NI ls')∧qZ ls'≤5000∧P.length+ls'.length≤5000) ls.length ?_ (by omega) ?_
 · exact⟨[],_,v,ls,rfl,o,iS.nil _ _,R,g4,rfl,fun h=>absurd rfl h,hsz,by simp;omega⟩
 rintro m fr2 h2 ⟨P,pv,v',ls',rfl,o2,oP2,R2,f4,hls,hni,hsz2,hPl⟩ hag
 have e4:=aj f4
 have p2:fr2.get 2=some (.pointer (some ⟨h0.n,0,none⟩)):=(hag 2 rfl).trans g2
 have p6:fr2.get 6=some (.pointer (some ⟨nb,0,none⟩)):=(hag 6 rfl).trans g6
 have p8:fr2.get 8=some (.pointer (some ⟨sb,0,none⟩)):=(hag 8 rfl).trans g8
 have e2:=aj p2
 have e6:=aj p6
 have e8:=aj p8
 have hlen2:=qM ls'
 have h10':∀ l∈ls',(10:UInt8)∉l:=fun l hl=>h10 l (by rw[hls];exact List.mem_append_right _ hl)
 obtain⟨va,vc,rfl⟩:=R2.val
 obtain⟨pa,pc,rfl⟩:=oP2.val
 have done:ls'.head?≠some dM→∀ fr',fr'.get 4=some (.slice va ls'.length vc)→fr'.get 2=some (.pointer (some ⟨h0.n,0,none⟩))→fr'.get 6=some (.pointer (some ⟨nb,0,none⟩))→fr'.get 8=some (.pointer (some ⟨sb,0,none⟩))→Ad.wp env 161 none fr' h2 (eY env [.cell 2 28,.tmp 3] K):=by
   intro hh fr' q4 q2 q6 q8;refine Jg (t:=t) (c:=c) (P:=P) (ls:=ls') o2 oP2 (R2.mono (Nat.le_of_lt o2.n.lt)) q2 q6 q8 q4 (by omega) (fun l hl=>by have:=Ae hl;omega) (by omega) (fun A e=>?_) (fun c' P' A' g e=>?_) (fun A av h' a b d e f g i j=>hK1 P A _ av h' a b d e f g i j) hK2;· refine xR ?_;rw[hE,hls,e];unfold cO;simp only[List.append_assoc]
   · obtain⟨f1,f2⟩:=zl hE bd g e;obtain⟨P1,u1,u2⟩:=sB (hls.symm.trans f2) hni;obtain⟨w1,w2⟩:=HW u2 hh;subst w1;exact⟨f1,by rw[u1,List.append_nil],w2⟩
 cases hl:ls' with
 | nil =>
   subst hl
   have z:((([]:List (List UInt8)).length:Nat):Int)=0:=rfl
   (with_reducible repeat' (first|refine y2 ?_|simp -dsimp only[↓WB,↓cQ,↓bg,↓cV,↓bc,↓cS,↓cT,↓aK,↓cR,↓a7,↓bF,↓aS,↓bJ,↓bO,↓bH,↓aT,↓bG,↓aX,↓bI,↓aR,↓bE,WP,ae,Nat.reduceEqDiff,Nat.reduceAdd,↓e4,z]))
   exact done (by simp) _ (by simp[T.ah,f4]) (by simp[T.ah,p2]) (by simp[T.ah,p6]) (by simp[T.ah,p8])
 | cons l0 lr =>
   have hne:ls'≠[]:=by rw[hl];simp
   have hlp:0<ls'.length:=List.length_pos_iff.2 hne
   obtain⟨_,ri,ro,rfl,d0⟩:=R2.at_ hlp
   have d0':cellAt h2 ⟨ri,ro,none⟩=some (.string ⟨l0.toArray⟩):=by have:=d0;simp only[hl,List.getElem_cons_zero,Nat.add_zero]at this;exact this
   rw[← hl]
   have z:(0:Int)<(ls'.length:Int):=by omega
   by_cases hp:l0=dM
   · have q0:((⟨l0.toArray⟩:ByteArray)=⟨⟨[112,114,111,103,114,97,109]⟩⟩)=True:=eq_true (by rw[hp];rfl);(with_reducible repeat' (first|refine y5 ?_|simp -dsimp only[↓WB,↓cQ,↓bg,↓cV,↓bc,↓cS,↓cT,↓cR,↓bF,↓aS,↓bJ,↓bO,↓bH,↓aT,↓bG,↓aX,↓bI,↓aR,↓bE,WP,ae,Nat.reduceEqDiff,Nat.reduceAdd,↓e4,Nat.zero_mul,Nat.add_zero,Nat.mul_one,d0',q0,z]));refine Wj (ls:=ls') (va:=some ⟨ri,ro,none⟩) (vc:=vc) (R2.mono (Nat.le_of_lt o2.n.lt)) hsz2 (by rw[hl,hp];rfl) (by simp[T.ah,f4]) (by simp[T.ah]) (by simp[T.ah]) fun fr3 D q1 q2 q3 q4 q5 q6=>?_;have r2:fr3.get 2=some (.pointer (some ⟨h0.n,0,none⟩)):=(q4 2 (by decide)).trans (by simp[T.ah,p2]);have r6:fr3.get 6=some (.pointer (some ⟨nb,0,none⟩)):=(q4 6 (by decide)).trans (by simp[T.ah,p6]);have r8:fr3.get 8=some (.pointer (some ⟨sb,0,none⟩)):=(q4 8 (by decide)).trans (by simp[T.ah,p8]);have r4:fr3.get 4=some (.slice (some ⟨ri,ro,none⟩) ls'.length vc):=(q4 4 (by decide)).trans (by simp[T.ah,f4]);have k2:=aj r2;have k6:=aj r6;have k8:=aj r8;have k4:=aj r4;have k13:=aj q5;have k14:=aj q6;have hDsz:(D.flatMap cL).length+qZ (ls'.drop (D.length+1))≤qZ ls':=by rw[vr];have:=Ar D;have e:=congrArg qZ q1;rw[jt,z7]at e;omega
     have hD10:∀ d∈D,(10:UInt8)∉d:=by intro d hd hm;refine h10' (32::d) ?_ (List.mem_cons_of_mem _ hm);rw[q1];exact List.mem_cons_of_mem _ (List.mem_append_left _ (List.mem_map_of_mem hd))
     simp -dsimp only[↓WB,↓cQ,↓bg,↓cV,↓bc,↓cS,↓cT,↓aK,↓cR,↓bF,↓aS,↓bJ,↓bO,↓bH,↓aT,↓bG,↓aX,↓bI,↓aR,↓bE,WP,ae,Nat.reduceEqDiff,Nat.reduceAdd,↓k2,↓k6,↓k8,↓k4,↓k13,↓k14];refine J_ (s:=D.flatMap cL) (by omega) (fun u p h3 O3 hp3 ht X3=>?_) (fun e h3 he hno X3=>?_)
     · have n3:=X3.n;have o3:=o2.ext X3;have oP3:=oP2.ext X3 (Nat.le_refl _);have R3:=R2.ext (X3.mono (Nat.le_of_lt o2.n.lt));have hDp:D=bp p:=xD ht.symm hD10 (fun l hl=>nX hl);have hsl:sb<h2.n:=o2.s.lt;obtain⟨ua,uc,rfl⟩:=gm O3;have ds:=o3.s.kW;(with_reducible repeat' (first|refine y8 ?_|simp -dsimp only[↓WB,↓cQ,↓bg,↓cV,↓bc,↓cS,↓cT,↓aK,↓cR,↓bF,↓aS,↓bJ,↓bO,↓bH,↓aT,↓bG,↓aX,↓bI,↓aR,↓bE,WP,ae,Nat.reduceEqDiff,Nat.reduceAdd,↓k2,↓k6,↓k8,↓k4,↓k13,↓k14,ds.2.2.1]));refine iS.app (u:=.slice ua p.length uc) oP3 (Sq O3 (by omega)) (by omega) (by omega) rfl rfl fun v5 h5 oP5 X5 n5=>?_;have o5:=o3.ext' X5;have hns:=o2.ns;have R5:=R3.ext (X5.mono (by omega));obtain⟨pa5,pc5,rfl⟩:=oP5.val;simp -dsimp only[↓WB,↓cQ,↓bg,↓cV,↓bc,↓cS,↓cT,↓aK,↓cR,↓bF,↓aS,↓bJ,↓bO,↓bH,↓aT,↓bG,↓aX,↓bI,↓aR,↓bE,WP,ae,Nat.reduceEqDiff,Nat.reduceAdd,↓k2,↓k6,↓k8,↓k4,↓k13,↓k14];refine bN (off:=14) (cs':=aV c (.slice pa5 (P++[p]).length pc5) (.slice none 0 0)) o5.s.get rfl rfl rfl rfl (by decide) ?_;have o6:=o5.set (c':=c) (pv':=.slice pa5 (P++[p]).length pc5) (av':=.slice none 0 0);have oP6:iS (sb+1) { h5 with b:=h5.b.set sb (.cells (aV c (.slice pa5 (P++[p]).length pc5) (.slice none 0 0)) 28 true) } (.slice pa5 (P++[p]).length pc5) (P++[p]):=oP5.Ao (Nat.lt_succ_self _);have R6:ph nb { h5 with b:=h5.b.set sb (.cells (aV c (.slice pa5 (P++[p]).length pc5) (.slice none 0 0)) 28 true) } (.slice (some ⟨ri,ro,none⟩) ls'.length vc) ls':=R5.ext (ai.set _ (by omega));generalize ({ h5 with b:=h5.b.set sb (.cells (aV c (.slice pa5 (P++[p]).length pc5) (.slice none 0 0)) 28 true) }:Heap)=h6 at o6 oP6 R6 ⊢;simp -dsimp only[↓WB,↓cQ,↓bg,↓cV,↓bc,↓cS,↓cT,↓aK,↓cR,↓bF,↓aS,↓bJ,↓bO,↓bH,↓aT,↓bG,↓aX,↓bI,↓aR,↓bE,WP,ae,Nat.reduceEqDiff,Nat.reduceAdd,↓k2,↓k6,↓k8,↓k4,↓k13,↓k14];refine ph.cut R6 (lo:=D.length+1) q3 hne fun v7 R7=>?_;simp -dsimp only[↓WB,↓cQ,↓bg,↓cV,↓bc,↓cS,↓cT,↓aK,↓cR,↓bF,↓aS,↓bJ,↓bO,↓bH,↓aT,↓bG,↓aX,↓bI,↓aR,↓bE,WP,ae,Nat.reduceEqDiff,Nat.reduceAdd,↓k2,↓k6,↓k8,↓k4,↓k13,↓k14];have hdl:(ls'.drop (D.length+1)).length=ls'.length-(D.length+1):=List.length_drop;refine⟨(ls'.drop (D.length+1)).length,by omega,P++[p],_,v7,ls'.drop (D.length+1),rfl,o6,oP6,R7,by simp[T.ah],?_,fun _=>q2,by omega,by simp;omega⟩;rw[hls,List.flatMap_append];conv=>lhs;rw[q1]
       simp[ct,hDp]
     · have q:((e:Int)=0)=False:=eq_false he;have o3:=o2.ext X3;have d6:=o3.n.kW.1;simp -dsimp only[↓WB,↓cQ,↓bg,↓cV,↓bc,↓cS,↓cT,↓aK,↓cR,↓bF,↓aS,↓bJ,↓bO,↓bH,↓aT,↓bG,↓aX,↓bI,↓aR,↓bE,WP,ae,Nat.reduceEqDiff,Nat.reduceAdd,↓k2,↓k6,↓k8,↓k4,↓k13,↓k14,q,d6];refine bN (off:=0) (cs':=zN) o3.r.get rfl rfl rfl rfl (by decide) ?_;have B:=o3.r.set (cs':=zN);have X:ai h0.n h0 { h3 with b:=h3.b.set h0.n (.cells zN 28 true) }:=o3.x.trans (ai.set _ (Nat.le_refl _));generalize ({ h3 with b:=h3.b.set h0.n (.cells zN 28 true) }:Heap)=H2 at B X ⊢;have d2:=B.kW.1;simp -dsimp only[↓WB,↓cQ,↓bg,↓cV,↓bc,↓cS,↓cT,↓aK,↓cR,↓bF,↓aS,↓bJ,↓bO,↓bH,↓aT,↓bG,↓aX,↓bI,↓aR,↓bE,WP,ae,Nat.reduceEqDiff,Nat.reduceAdd,↓k2,↓k6,↓k8,↓k4,↓k13,↓k14,d2];refine hK2 _ (fun c' P' A' g hA' e'=>?_) X;obtain⟨f1,f2⟩:=zl hE bd g e';obtain⟨P1,u1,u2⟩:=sB (hls.symm.trans f2) hni;rw[q1]at u2;obtain⟨p,P2,w1,w2⟩:=HP u2 q2;refine hno p (g.p p (by rw[u1,w1];simp)) ?_;rw[← w2];rfl
   · have q0:((⟨l0.toArray⟩:ByteArray)=⟨⟨[112,114,111,103,114,97,109]⟩⟩)=False:=eq_false fun e=>hp (str_inj.1 e);(with_reducible repeat' (first|refine y5 ?_|simp -dsimp only[↓WB,↓cQ,↓bg,↓cV,↓bc,↓cS,↓cT,↓aK,↓cR,↓a7,↓bF,↓aS,↓bJ,↓bO,↓bH,↓aT,↓bG,↓aX,↓bI,↓aR,↓bE,WP,ae,Nat.reduceEqDiff,Nat.reduceAdd,↓e4,Nat.zero_mul,Nat.add_zero,Nat.mul_one,d0',q0,z]));exact done (by rw[hl];exact fun e=>hp (Option.some.inj e)) _ (by simp[T.ah,f4]) (by simp[T.ah,p2]) (by simp[T.ah,p6]) (by simp[T.ah,p8])
end Go.Proofs.YtohjaacnlmkhbaaGreatDoor
