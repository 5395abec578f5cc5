/- NUMBERS READ, the document's side, walked. Conditions: none beyond each theorem's own. -/
import Derived.Test.YtohjaacnlmkhbaaGreatDoorYQ
import Derived.Test.YtohjaacnlmkhbaaGreatDoorIL
import Derived.Test.YtohjaacnlmkhbaaGreatDoorPU
set_option linter.unusedSimpArgs false
set_option linter.unusedVariables false
namespace Go.Proofs.YtohjaacnlmkhbaaGreatDoor
open Go.Ev
set_option maxRecDepth 100000
set_option maxHeartbeats 1000000
theorem nS:∀ (k u:Nat),u<10 ^ (k+1)→Lib.nDigits u≤k+1
 | 0,u,h=>by rw[Lib.nDigits_small (by omega)];omega
 | k+1,u,h=>by
   by_cases h1:u<10;· rw[Lib.nDigits_small h1];omega
   · have:=nS k (u / 10) (by rw[Nat.pow_succ]at h;omega);rw[Lib.nDigits,dif_neg h1];omega
theorem Fw {n:Int}(h0 : -9223372036854775808≤n) (h1:n≤9223372036854775807):(Lib.itoa n).length≤20:=by
 by_cases hneg:n<0;·obtain⟨u,rfl⟩:∃ u:Nat,n = -(u:Int):=⟨n.natAbs,by omega⟩;rw[Lib.itoa_neg u (by omega),List.length_cons,Lib.decDigits_length];have:=nS 18 u (by omega);omega
 ·obtain⟨u,rfl⟩:∃ u:Nat,n=u:=⟨n.toNat,by omega⟩;rw[Lib.itoa_nonneg,Lib.decDigits_length];have:=nS 18 u (by omega);omega
def DQ (s:List UInt8) (a:Nat):Prop:=∀ m:Int,-9223372036854775808≤m→m≤9223372036854775807→s=Lib.itoa m→∃ u:Nat,s.drop a=Lib.decDigits u∧m=if a=1 then -(u:Int) else u
theorem wq {s:List UInt8}(h:∀ r,s≠45::r):DQ s 0:=by
 intro m _ _ e;unfold Lib.itoa at e;split at e;·exact absurd e (h _)
 ·exact⟨m.toNat,by simpa using e,by rw[if_neg (by decide)];omega⟩
theorem Ma {r:List UInt8}:DQ (45::r) 1:=by
 intro m _ _ e;unfold Lib.itoa at e;split at e;·exact⟨m.natAbs,by simpa using e,by rw[if_pos rfl];omega⟩
 ·exfalso;have:=eX _ _ (Nat.le_refl _) 45 (by rw[← e];exact List.mem_cons_self);revert this;decide
theorem xy {x:UInt8}(h1:48≤x.toNat) (h2:x.toNat≤57):Lib.digitVal x=some (x.toNat-48):=by unfold Lib.digitVal;rw[if_pos ⟨h1,h2⟩]
theorem qC {l:List UInt8}{x:UInt8}{n:Nat}(h:Lib.decFrom 0 l=some n) (h1:48≤x.toNat) (h2:x.toNat≤57):Lib.decFrom 0 (l++[x])=some (n*10+(x.toNat-48)):=by rw[iF,h,Option.bind_some];simp only[Lib.decFrom,xy h1 h2]
theorem YU {x:UInt8}(h1:48≤x.toNat) (h2:x.toNat≤57):IntKind.wrap .u8 ((x.toNat:Int)-48)=((x.toNat-48:Nat):Int):=by rw[wrap_u8 (by omega) (by omega)];omega
theorem C' {s:List UInt8}{a n:Nat}(hn:DQ s a) (hd:Lib.decFrom 0 (s.drop a)=some n) {m:Int}(m1 : -9223372036854775808≤m) (m2:m≤9223372036854775807) (e:s=Lib.itoa m):m=if a=1 then -(n:Int) else n:=by obtain⟨u,h1,h2⟩:=hn m m1 m2 e;rw[h1,gq u u (Nat.le_refl _)]at hd;cases hd;exact h2
theorem my {a:Nat}{s:List UInt8}{fr:Fr}{h:Heap}{K:Value→Heap→Prop}(hs:s.length≤500000) (ha:a=0∨a=1) (hal:a≤s.length) (hn:DQ s a) (g0:fr.get 0=some (.string ⟨s.toArray⟩)) (g4:fr.get 4=some (.int .i64 (a:Nat)))
  (hK:∀ (n:Int) (b:Bool) h',ai h.n h h'→-9223372036854775808≤n→n≤9223372036854775807→(b=true→s=Lib.itoa n)→(∀ m:Int,-9223372036854775808≤m→m≤9223372036854775807→s=Lib.itoa m→n=m∧b=true)→K (.tuple #[.int .i64 n,.bool b]) h'):Ew.wp env 75 none fr h (eY env [.tmp 2,.tmp 3] K):=by
 have e0:=aj g0
 have e4:=aj g4
 have no:(∀ m:Int,-9223372036854775808≤m→m≤9223372036854775807→s≠Lib.itoa m)→K (.tuple #[.int .i64 0,.bool false]) h:=fun hh=>hK 0 false h (ai.refl _ _) (by omega) (by omega) (by simp) (fun m m1 m2 e=>absurd e (hh m m1 m2))
 by_cases h1:a=s.length
 ·have h1':((a:Nat):Int)=(s.length:Int):=by omega
  simp -dsimp only[↓WB,↓xz,WP,ae,Nat.reduceEqDiff,Nat.reduceAdd,↓e0,↓e4,ak,h1',eq_self];refine no fun m m1 m2 e=>?_;obtain⟨u,h2,_⟩:=hn m m1 m2 e;rw[h1,List.drop_length]at h2;exact gD u h2.symm
 have h1':¬((a:Nat):Int)=(s.length:Int):=by omega
 by_cases h20:20<s.length
 ·have h20':(20:Int)<(s.length:Int):=by omega
  simp -dsimp only[↓WB,↓xz,WP,ae,Nat.reduceEqDiff,Nat.reduceAdd,↓e0,↓e4,ak,h1',h20'];refine no fun m m1 m2 e=>?_;obtain⟨u,h2,h3⟩:=hn m m1 m2 e;have hu:u≤9223372036854775808:=by split at h3<;>omega
  have l1:=Fw m1 m2;rw[← e]at l1;omega
 have h20':¬(20:Int)<(s.length:Int):=by omega
 simp -dsimp only[↓WB,↓xz,WP,ae,Nat.reduceEqDiff,Nat.reduceAdd,↓e0,↓e4,ak,h1',h20']
 refine aE (fun m fr' h'=>∃ i n:Nat,a≤i∧i≤s.length∧m=s.length-i∧h'=h∧fr'.get 6=some (.int .i64 (i:Nat))∧fr'.get 5=some (.int .u64 (n:Nat))∧Lib.decFrom 0 ((s.drop a).take (i-a))=some n∧n≤10000000000000000009) (s.length-a) ?_ (by omega) ?_
 ·exact⟨a,0,Nat.le_refl _,hal,rfl,rfl,by simp[T.ah,g4],by simp[T.ah],by simp[Lib.decFrom],by omega⟩
 rintro m fr2 h2 ⟨i,n,hai,hi,rfl,rfl,f6,f5,hd,hnb⟩ hag
 have e6:=aj f6
 have e5:=aj f5
 have b0:=au (hag 0 rfl)
 have b4:=au (hag 4 rfl)
 by_cases aB:i<s.length
 ·have ix:∀ {J:Value→Prop},J (.int .u8 (s[i].toNat:Int))→Ah env 9 (.string ⟨s.toArray⟩) (.int .i64 (i:Int)) J:=fun q=>iO iV aB q;have hmem:s[i]∈s.drop a:=by
   have:s[i]=(s.drop a)[i-a]'(by rw[List.length_drop];omega):=by rw[List.getElem_drop];congr 1;omega
   rw[this];exact List.getElem_mem _
  have hts:=fj hai aB;have hx8:=s[i].toNat_lt;generalize s[i]=x at ix hmem hts hx8;have notd:¬(48≤x.toNat∧x.toNat≤57)→∀ m:Int,-9223372036854775808≤m→m≤9223372036854775807→s≠Lib.itoa m:=by intro hx m m1 m2 e;obtain⟨u,q1,_⟩:=hn m m1 m2 e;rw[q1]at hmem;exact hx (eX _ _ (Nat.le_refl _) x hmem)
  by_cases x1:x.toNat<48;·(with_reducible repeat' (first|refine y1 ?_|simp -dsimp only[↓WB,↓xz,WP,ae,Nat.reduceEqDiff,Nat.reduceAdd,↓e6,↓e5,↓e0,↓e4,↓b0,↓b4,ak]));refine ix ?_;(with_reducible repeat' (first|refine y1 ?_|simp -dsimp only[↓WB,↓xz,WP,ae,Nat.reduceEqDiff,Nat.reduceAdd,↓e6,↓e5,↓e0,↓e4,↓b0,↓b4]));exact no (notd (by omega))
  by_cases x2:57<x.toNat;·(with_reducible repeat' (first|refine y1 ?_|simp -dsimp only[↓WB,↓xz,WP,ae,Nat.reduceEqDiff,Nat.reduceAdd,↓e6,↓e5,↓e0,↓e4,↓b0,↓b4,ak]));refine ix ?_;(with_reducible repeat' (first|refine y2 ?_|simp -dsimp only[↓WB,↓xz,WP,ae,Nat.reduceEqDiff,Nat.reduceAdd,↓e6,↓e5,↓e0,↓e4,↓b0,↓b4]));refine ix ?_;(with_reducible repeat' (first|refine y1 ?_|simp -dsimp only[↓WB,↓xz,WP,ae,Nat.reduceEqDiff,Nat.reduceAdd,↓e6,↓e5,↓e0,↓e4,↓b0,↓b4]));exact no (notd (by omega))
  have hd2:=qC (x:=x) hd (by omega) (by omega);rw[← hts]at hd2;by_cases h18:1000000000000000000<n
  ·(with_reducible repeat' (first|refine y1 ?_|simp -dsimp only[↓WB,↓xz,WP,ae,Nat.reduceEqDiff,Nat.reduceAdd,↓e6,↓e5,↓e0,↓e4,↓b0,↓b4,ak]));refine ix ?_;(with_reducible repeat' (first|refine y2 ?_|simp -dsimp only[↓WB,↓xz,WP,ae,Nat.reduceEqDiff,Nat.reduceAdd,↓e6,↓e5,↓e0,↓e4,↓b0,↓b4]));refine ix ?_;(with_reducible repeat' (first|refine y1 ?_|refine y2 ?_|simp -dsimp only[↓WB,↓xz,WP,ae,Nat.reduceEqDiff,Nat.reduceAdd,↓e6,↓e5,↓e0,↓e4,↓b0,↓b4]));refine no fun m m1 m2 e=>?_;obtain⟨u,q1,q2⟩:=hn m m1 m2 e;have hu:u≤9223372036854775808:=by split at q2<;>omega
   have:=jQ (l:=s.drop a) (by rw[q1];exact gq u u (Nat.le_refl _)) hd2;omega
  have w1:=YU (x:=x) (by omega) (by omega);have w2:IntKind.wrap .u64 (10*(n:Int))=((10*n:Nat):Int):=by rw[wrap_u64 (by omega) (by omega)];omega
  have w3:IntKind.wrap .u64 ((x.toNat-48:Nat):Int)=((x.toNat-48:Nat):Int):=wrap_u64 (by omega) (by omega);have w4:IntKind.wrap .u64 (((10*n:Nat):Int)+((x.toNat-48:Nat):Int))=((n*10+(x.toNat-48):Nat):Int):=by rw[wrap_u64 (by omega) (by omega)];omega
  have w5:IntKind.wrap .i64 ((i:Int)+1)=((i+1:Nat):Int):=by rw[wrap_i64 (by omega) (by omega)];omega
  (with_reducible repeat' (first|refine y1 ?_|simp -dsimp only[↓WB,↓xz,WP,ae,Nat.reduceEqDiff,Nat.reduceAdd,↓e6,↓e5,↓e0,↓e4,↓b0,↓b4,ak]));refine ix ?_;(with_reducible repeat' (first|refine y2 ?_|simp -dsimp only[↓WB,↓xz,WP,ae,Nat.reduceEqDiff,Nat.reduceAdd,↓e6,↓e5,↓e0,↓e4,↓b0,↓b4]));refine ix ?_;(with_reducible repeat' (first|refine y2 ?_|simp -dsimp only[↓WB,↓xz,WP,ae,Nat.reduceEqDiff,Nat.reduceAdd,↓e6,↓e5,↓e0,↓e4,↓b0,↓b4]));refine ix ?_;simp -dsimp only[↓WB,↓xz,WP,ae,Nat.reduceEqDiff,Nat.reduceAdd,↓e6,↓e5,↓e0,↓e4,↓b0,↓b4,w1,w2,w3,w4,w5];clear w1 w2 w3 w4 w5;have hb3:n*10+(x.toNat-48)≤10000000000000000009:=by omega
  generalize n*10+(x.toNat-48)=n3 at hd2 hb3 ⊢;exact⟨s.length-(i+1),by omega,i+1,n3,by omega,by omega,rfl,by simp[T.ah],by simp[T.ah],hd2,hb3⟩
 ·have hie:i=s.length:=by omega
  subst hie;rw[List.take_of_length_le (by rw[List.length_drop];omega)]at hd;have val:=fun {m:Int} m1 m2 e=>C' hn hd (m:=m) m1 m2 e;by_cases big:9223372036854775808<n;·(with_reducible repeat' (first|refine y1 ?_|refine y2 ?_|simp -dsimp only[↓WB,↓xz,WP,ae,Nat.reduceEqDiff,Nat.reduceAdd,↓e6,↓e5,↓e0,↓e4,↓b0,↓b4,ak]));refine no fun m m1 m2 e=>?_;have:=val m1 m2 e;split at this<;>omega
  have fin:∀ (v:Int),-9223372036854775808≤v→v≤9223372036854775807→(v=if a=1 then -(n:Int) else n)→∀ (b:Bool) h',ai h2.n h2 h'→(b=true→s=Lib.itoa v)→(s=Lib.itoa v→b=true)→K (.tuple #[.int .i64 v,.bool b]) h' :=
   fun v v1 v2 hv b h' X hb1 hb2=>hK v b h' X v1 v2 hb1 (fun m m1 m2 e=>by
    have:=val m1 m2 e;have hvm:v=m:=by rw[hv,this]
    exact⟨hvm,hb2 (by rw[hvm];exact e)⟩)
  have str:∀ l:List UInt8,(⟨l.toArray⟩:ByteArray)=⟨s.toArray⟩→s=l:=fun l e=>by simpa using (congrArg (fun x:ByteArray=>x.data.toList) e).symm
  rcases ha with rfl|rfl
  ·by_cases big2:9223372036854775807<n;·(with_reducible repeat' (first|refine y1 ?_|refine y2 ?_|simp -dsimp only[↓WB,↓xz,WP,ae,Nat.reduceEqDiff,Nat.reduceAdd,↓e6,↓e5,↓e0,↓e4,↓b0,↓b4,ak]));refine no fun m m1 m2 e=>?_;have:=val m1 m2 e;rw[if_neg (by decide)]at this;omega
   have w1:IntKind.wrap .i64 (n:Int)=n:=wrap_i64 (by omega) (by omega);(with_reducible repeat' (first|refine y1 ?_|refine y2 ?_|simp -dsimp only[↓WB,↓xz,WP,ae,Nat.reduceEqDiff,Nat.reduceAdd,↓e6,↓e5,↓e0,↓e4,↓b0,↓b4,ak,w1]));refine j_ (by omega) (by omega) fun h3 X3=>?_;unfold aq;(with_reducible repeat' (first|refine y3 (fun _=>?_) (fun _=>?_)|simp -dsimp only[↓WB,↓xz,WP,ae,Nat.reduceEqDiff,Nat.reduceAdd,↓e6,↓e5,↓e0,↓e4,↓b0,↓b4,ak,w1]));·rename_i hq;exact fin n (by omega) (by omega) rfl true h3 X3 (fun _=>str _ hq) (fun _=>rfl)
   ·rename_i hq;exact fin n (by omega) (by omega) rfl false h3 X3 (by simp) (fun e=>absurd (by rw[e]) hq)
  ·have w1:IntKind.wrap .i64 (0-IntKind.wrap .i64 (n:Int)) = -(n:Int):=by rw[IntKind.wrap_i64,IntKind.wrap_i64];omega
   (with_reducible repeat' (first|refine y1 ?_|refine y2 ?_|simp -dsimp only[↓WB,↓xz,WP,ae,Nat.reduceEqDiff,Nat.reduceAdd,↓e6,↓e5,↓e0,↓e4,↓b0,↓b4,ak,w1]));refine j_ (by omega) (by omega) fun h3 X3=>?_;unfold aq;(with_reducible repeat' (first|refine y3 (fun _=>?_) (fun _=>?_)|simp -dsimp only[↓WB,↓xz,WP,ae,Nat.reduceEqDiff,Nat.reduceAdd,↓e6,↓e5,↓e0,↓e4,↓b0,↓b4,ak,w1]));·rename_i hq;exact fin (-(n:Int)) (by omega) (by omega) rfl true h3 X3 (fun _=>str _ hq) (fun _=>rfl)
   ·rename_i hq;exact fin (-(n:Int)) (by omega) (by omega) rfl false h3 X3 (by simp) (fun e=>absurd (by rw[e]) hq)
theorem NU {x:UInt8}{r:List UInt8}{J:Value→Prop}(q:J (.int .u8 (x.toNat:Int))):Ah env 9 (.string ⟨(x::r).toArray⟩) (.int .i64 0) J:=by have:=iO (E:=env) (k:=.i64) (i:=0) (l:=x::r) (K:=J) iV (by simp) q;exact this
theorem k_ {s:List UInt8}{h:Heap}{K:Value→Heap→Prop}(hs:s.length≤500000)
   (hK:∀ (n:Int) (b:Bool) h',ai h.n h h'→-9223372036854775808≤n→n≤9223372036854775807→(b=true→s=Lib.itoa n)→(∀ m:Int,-9223372036854775808≤m→m≤9223372036854775807→s=Lib.itoa m→n=m∧b=true)→K (.tuple #[.int .i64 n,.bool b]) h'):bT env (.func 52) [aq s] h K:=by
 refine F52 rfl ?_
 unfold aq
 cases s with
 | nil =>
   have z:([]:List UInt8).length=0:=rfl
   (with_reducible repeat' (first|refine y2 ?_|simp -dsimp only[↓WB,↓zf,↓x7,WP,ae,Nat.reduceEqDiff,Nat.reduceAdd,ak,z]))
   exact my (a:=0) (s:=[]) hs (.inl rfl) (Nat.le_refl _) (wq (by simp)) (by simp[T.ah]) (by simp[T.ah]) hK
 | cons x r =>
   have z:(0:Int)<((x::r).length:Int):=by simp only[List.length_cons];omega
   by_cases hx:x=45
   · subst hx;have e45:((45:UInt8).toNat:Int)=45:=rfl;(with_reducible repeat' (first|refine y1 ?_|simp -dsimp only[↓WB,↓zf,↓x7,WP,ae,Nat.reduceEqDiff,Nat.reduceAdd,ak,z]));refine NU ?_;simp -dsimp only[↓WB,↓zf,↓x7,WP,ae,Nat.reduceEqDiff,Nat.reduceAdd,ak,z,e45];exact my (a:=1) hs (.inr rfl) (by simp) Ma (by simp[T.ah]) (by simp[T.ah]) hK
   · have hxi:¬((x.toNat:Int)=45):=fun e=>hx (UInt8.toNat_inj.1 (by show x.toNat=45;omega));(with_reducible repeat' (first|refine y1 ?_|simp -dsimp only[↓WB,↓zf,↓x7,WP,ae,Nat.reduceEqDiff,Nat.reduceAdd,ak,z]));refine NU ?_;simp -dsimp only[↓WB,↓zf,↓x7,WP,ae,Nat.reduceEqDiff,Nat.reduceAdd,ak,z,hxi];exact my (a:=0) hs (.inl rfl) (by simp) (wq (by rintro r' ⟨⟩;exact hx rfl)) (by simp[T.ah]) (by simp[T.ah]) hK
theorem WS:DQ [45] 0:=by
 intro m _ _ e;exfalso;unfold Lib.itoa at e;split at e;·rw[List.cons.injEq]at e;exact gD _ e.2.symm
 ·have:=eX _ _ (Nat.le_refl _) 45 (by rw[← e];exact List.mem_cons_self);revert this;decide
theorem Ix {n:Int}(h0 : -99999≤n) (h1:n≤99999):(Lib.itoa n).length≤8:=by
 by_cases hneg:n<0;·obtain⟨u,rfl⟩:∃ u:Nat,n = -(u:Int):=⟨n.natAbs,by omega⟩;rw[Lib.itoa_neg u (by omega),List.length_cons,Lib.decDigits_length];have:=nS 4 u (by omega);omega
 ·obtain⟨u,rfl⟩:∃ u:Nat,n=u:=⟨n.toNat,by omega⟩;rw[Lib.itoa_nonneg,Lib.decDigits_length];have:=nS 4 u (by omega);omega
theorem SW {k:Nat}(h:k≤8):10 ^ k≤100000000:=Nat.pow_le_pow_right (by decide) h
theorem mG {a:Nat}{s:List UInt8}{fr:Fr}{h:Heap}{K:Value→Heap→Prop}(hs:s.length≤500000) (ha:a=0∨a=1) (hal:a≤s.length) (hn:DQ s a) (g0:fr.get 0=some (.string ⟨s.toArray⟩)) (g4:fr.get 4=some (.int .i64 0)) (g5:fr.get 5=some (.int .i64 (a:Nat)))
  (hK:∀ (n:Int) (b:Bool) h',ai h.n h h'→-100000000≤n→n≤100000000→(b=true→s=Lib.itoa n)→(∀ m:Int,-99999≤m→m≤99999→s=Lib.itoa m→n=m∧b=true)→K (.tuple #[.int .i64 n,.bool b]) h'):Ba.wp env 58 none fr h (eY env [.tmp 2,.tmp 3] K):=by
 have e0:=aj g0
 have e4:=aj g4
 have e5:=aj g5
 have no:(∀ m:Int,-99999≤m→m≤99999→s≠Lib.itoa m)→K (.tuple #[.int .i64 0,.bool false]) h:=fun hh=>hK 0 false h (ai.refl _ _) (by omega) (by omega) (by simp) (fun m m1 m2 e=>absurd e (hh m m1 m2))
 by_cases h1:a=s.length
 ·have h1':((a:Nat):Int)=(s.length:Int):=by omega
  simp -dsimp only[↓WB,↓pf,WP,ae,Nat.reduceEqDiff,Nat.reduceAdd,↓e0,↓e4,↓e5,ak,h1',eq_self];refine no fun m m1 m2 e=>?_;obtain⟨u,h2,_⟩:=hn m (by omega) (by omega) e;rw[h1,List.drop_length]at h2;exact gD u h2.symm
 have h1':¬((a:Nat):Int)=(s.length:Int):=by omega
 by_cases h20:8<s.length
 ·have h20':(8:Int)<(s.length:Int):=by omega
  simp -dsimp only[↓WB,↓pf,WP,ae,Nat.reduceEqDiff,Nat.reduceAdd,↓e0,↓e4,↓e5,ak,h1',h20'];refine no fun m m1 m2 e=>?_;have l1:=Ix m1 m2;rw[← e]at l1;omega
 have h20':¬(8:Int)<(s.length:Int):=by omega
 simp -dsimp only[↓WB,↓pf,WP,ae,Nat.reduceEqDiff,Nat.reduceAdd,↓e0,↓e4,↓e5,ak,h1',h20']
 refine aE (fun m fr' h'=>∃ i n:Nat,a≤i∧i≤s.length∧m=s.length-i∧h'=h∧fr'.get 6=some (.int .i64 (i:Nat))∧fr'.get 4=some (.int .i64 (n:Nat))∧Lib.decFrom 0 ((s.drop a).take (i-a))=some n∧n<10 ^ (i-a)) (s.length-a) ?_ (by omega) ?_
 ·exact⟨a,0,Nat.le_refl _,hal,rfl,rfl,by simp[T.ah,g5],by simp[T.ah,g4],by simp[Lib.decFrom],by simp⟩
 rintro m fr2 h2 ⟨i,n,hai,hi,rfl,rfl,f6,f4,hd,hnb⟩ hag
 have e6:=aj f6
 replace e4:=aj f4
 have b0:=au (hag 0 rfl)
 have b5:=au (hag 5 rfl)
 have hn8:n<100000000:=Nat.lt_of_lt_of_le hnb (SW (by omega))
 by_cases aB:i<s.length
 ·have ix:∀ {J:Value→Prop},J (.int .u8 (s[i].toNat:Int))→Ah env 9 (.string ⟨s.toArray⟩) (.int .i64 (i:Int)) J:=fun q=>iO iV aB q;have hmem:s[i]∈s.drop a:=by
   have:s[i]=(s.drop a)[i-a]'(by rw[List.length_drop];omega):=by rw[List.getElem_drop];congr 1;omega
   rw[this];exact List.getElem_mem _
  have hts:=fj hai aB;have hx8:=s[i].toNat_lt;generalize s[i]=x at ix hmem hts hx8;have notd:¬(48≤x.toNat∧x.toNat≤57)→∀ m:Int,-99999≤m→m≤99999→s≠Lib.itoa m:=by intro hx m m1 m2 e;obtain⟨u,q1,_⟩:=hn m (by omega) (by omega) e;rw[q1]at hmem;exact hx (eX _ _ (Nat.le_refl _) x hmem)
  by_cases x1:x.toNat<48;·(with_reducible repeat' (first|refine y1 ?_|simp -dsimp only[↓WB,↓pf,WP,ae,Nat.reduceEqDiff,Nat.reduceAdd,↓e6,↓e5,↓e0,↓e4,↓b0,↓b5,ak]));refine ix ?_;(with_reducible repeat' (first|refine y1 ?_|simp -dsimp only[↓WB,↓pf,WP,ae,Nat.reduceEqDiff,Nat.reduceAdd,↓e6,↓e5,↓e0,↓e4,↓b0,↓b5]));exact no (notd (by omega))
  by_cases x2:57<x.toNat;·(with_reducible repeat' (first|refine y1 ?_|simp -dsimp only[↓WB,↓pf,WP,ae,Nat.reduceEqDiff,Nat.reduceAdd,↓e6,↓e5,↓e0,↓e4,↓b0,↓b5,ak]));refine ix ?_;(with_reducible repeat' (first|refine y2 ?_|simp -dsimp only[↓WB,↓pf,WP,ae,Nat.reduceEqDiff,Nat.reduceAdd,↓e6,↓e5,↓e0,↓e4,↓b0,↓b5]));refine ix ?_;(with_reducible repeat' (first|refine y1 ?_|simp -dsimp only[↓WB,↓pf,WP,ae,Nat.reduceEqDiff,Nat.reduceAdd,↓e6,↓e5,↓e0,↓e4,↓b0,↓b5]));exact no (notd (by omega))
  have hd2:=qC (x:=x) hd (by omega) (by omega);rw[← hts]at hd2;have w1:=YU (x:=x) (by omega) (by omega);have w2:IntKind.wrap .i64 (10*(n:Int))=((10*n:Nat):Int):=by rw[wrap_i64 (by omega) (by omega)];omega
  have w3:IntKind.wrap .i64 ((x.toNat-48:Nat):Int)=((x.toNat-48:Nat):Int):=wrap_i64 (by omega) (by omega);have w4:IntKind.wrap .i64 (((10*n:Nat):Int)+((x.toNat-48:Nat):Int))=((n*10+(x.toNat-48):Nat):Int):=by rw[wrap_i64 (by omega) (by omega)];omega
  have w5:IntKind.wrap .i64 ((i:Int)+1)=((i+1:Nat):Int):=by rw[wrap_i64 (by omega) (by omega)];omega
  (with_reducible repeat' (first|refine y1 ?_|simp -dsimp only[↓WB,↓pf,WP,ae,Nat.reduceEqDiff,Nat.reduceAdd,↓e6,↓e5,↓e0,↓e4,↓b0,↓b5,ak]));refine ix ?_;(with_reducible repeat' (first|refine y2 ?_|simp -dsimp only[↓WB,↓pf,WP,ae,Nat.reduceEqDiff,Nat.reduceAdd,↓e6,↓e5,↓e0,↓e4,↓b0,↓b5]));refine ix ?_;(with_reducible repeat' (first|refine y2 ?_|simp -dsimp only[↓WB,↓pf,WP,ae,Nat.reduceEqDiff,Nat.reduceAdd,↓e6,↓e5,↓e0,↓e4,↓b0,↓b5]));refine ix ?_;simp -dsimp only[↓WB,↓pf,WP,ae,Nat.reduceEqDiff,Nat.reduceAdd,↓e6,↓e5,↓e0,↓e4,↓b0,↓b5,w1,w2,w3,w4,w5];clear w1 w2 w3 w4 w5;have hb3:n*10+(x.toNat-48)<10 ^ (i+1-a):=by rw[show i+1-a=(i-a)+1 by omega,Nat.pow_succ];generalize 10 ^ (i-a)=p at hnb ⊢;omega
  generalize n*10+(x.toNat-48)=n3 at hd2 hb3 ⊢;exact⟨s.length-(i+1),by omega,i+1,n3,by omega,by omega,rfl,by simp[T.ah],by simp[T.ah],hd2,hb3⟩
 ·have hie:i=s.length:=by omega
  subst hie;rw[List.take_of_length_le (by rw[List.length_drop];omega)]at hd;have val:=fun {m:Int} m1 m2 e=>C' hn hd (m:=m) m1 m2 e;have fin:∀ (v:Int),-100000000≤v→v≤100000000→(v=if a=1 then -(n:Int) else n)→∀ (b:Bool) h',ai h2.n h2 h'→(b=true→s=Lib.itoa v)→(s=Lib.itoa v→b=true)→K (.tuple #[.int .i64 v,.bool b]) h' :=
   fun v v1 v2 hv b h' X hb1 hb2=>hK v b h' X v1 v2 hb1 (fun m m1 m2 e=>by
    have:=val (m:=m) (by omega) (by omega) e;have hvm:v=m:=by rw[hv,this]
    exact⟨hvm,hb2 (by rw[hvm];exact e)⟩)
  have str:∀ l:List UInt8,(⟨l.toArray⟩:ByteArray)=⟨s.toArray⟩→s=l:=fun l e=>by simpa using (congrArg (fun x:ByteArray=>x.data.toList) e).symm
  rcases ha with rfl|rfl
  ·(with_reducible repeat' (first|refine y2 ?_|simp -dsimp only[↓WB,↓pf,WP,ae,Nat.reduceEqDiff,Nat.reduceAdd,↓e6,↓e5,↓e0,↓e4,↓b0,↓b5,ak]));refine eL (by omega) (by omega) fun h3 X3=>?_;unfold aq;(with_reducible repeat' (first|refine y3 (fun _=>?_) (fun _=>?_)|simp -dsimp only[↓WB,↓pf,WP,ae,Nat.reduceEqDiff,Nat.reduceAdd,↓e6,↓e5,↓e0,↓e4,↓b0,↓b5,ak]));·rename_i hq;exact fin n (by omega) (by omega) rfl true h3 X3 (fun _=>str _ hq) (fun _=>rfl)
   ·rename_i hq;exact fin n (by omega) (by omega) rfl false h3 X3 (by simp) (fun e=>absurd (by rw[e]) hq)
  ·have w1:IntKind.wrap .i64 (0-(n:Int)) = -(n:Int):=by rw[IntKind.wrap_i64];omega
   (with_reducible repeat' (first|refine y1 ?_|refine y2 ?_|simp -dsimp only[↓WB,↓pf,WP,ae,Nat.reduceEqDiff,Nat.reduceAdd,↓e6,↓e5,↓e0,↓e4,↓b0,↓b5,ak,w1]));refine eL (by omega) (by omega) fun h3 X3=>?_;unfold aq;(with_reducible repeat' (first|refine y3 (fun _=>?_) (fun _=>?_)|simp -dsimp only[↓WB,↓pf,WP,ae,Nat.reduceEqDiff,Nat.reduceAdd,↓e6,↓e5,↓e0,↓e4,↓b0,↓b5,ak,w1]));·rename_i hq;exact fin (-(n:Int)) (by omega) (by omega) rfl true h3 X3 (fun _=>str _ hq) (fun _=>rfl)
   ·rename_i hq;exact fin (-(n:Int)) (by omega) (by omega) rfl false h3 X3 (by simp) (fun e=>absurd (by rw[e]) hq)
theorem Dr {s:List UInt8}{h:Heap}{K:Value→Heap→Prop}(hs:s.length≤500000)
   (hK:∀ (n:Int) (b:Bool) h',ai h.n h h'→-100000000≤n→n≤100000000→(b=true→s=Lib.itoa n)→(∀ m:Int,-99999≤m→m≤99999→s=Lib.itoa m→n=m∧b=true)→K (.tuple #[.int .i64 n,.bool b]) h'):bT env (.func 118) [aq s] h K:=by
 refine F118 rfl ?_
 unfold aq
 by_cases h2:s.length≤1
 · have z:¬(1:Int)<(s.length:Int):=by omega
   have nn:DQ s 0:=by
     match s,h2 with
     | [],_=>exact wq (by simp)
     | [x],_ =>
       by_cases hx:x=45
       · subst hx;exact WS
       · exact wq (by rintro r' ⟨⟩;exact hx rfl)
     | _::_::_,h=>simp at h
   simp -dsimp only[↓WB,↓sJ,↓sD,WP,ae,Nat.reduceEqDiff,Nat.reduceAdd,ak,z];exact mG (a:=0) hs (.inl rfl) (by omega) nn (by simp[T.ah]) (by simp[T.ah]) (by simp[T.ah]) hK
 cases s with
 | nil=>simp at h2
 | cons x r =>
   have z:(1:Int)<((x::r).length:Int):=by omega
   by_cases hx:x=45
   · subst hx;have e45:((45:UInt8).toNat:Int)=45:=rfl;(with_reducible repeat' (first|refine y1 ?_|simp -dsimp only[↓WB,↓sJ,↓sD,WP,ae,Nat.reduceEqDiff,Nat.reduceAdd,ak,z]));refine NU ?_;simp -dsimp only[↓WB,↓sJ,↓sD,WP,ae,Nat.reduceEqDiff,Nat.reduceAdd,ak,z,e45];exact mG (a:=1) hs (.inr rfl) (by simp) Ma (by simp[T.ah]) (by simp[T.ah]) (by simp[T.ah]) hK
   · have hxi:¬((x.toNat:Int)=45):=fun e=>hx (UInt8.toNat_inj.1 (by show x.toNat=45;omega));(with_reducible repeat' (first|refine y1 ?_|simp -dsimp only[↓WB,↓sJ,↓sD,WP,ae,Nat.reduceEqDiff,Nat.reduceAdd,ak,z]));refine NU ?_;simp -dsimp only[↓WB,↓sJ,↓sD,WP,ae,Nat.reduceEqDiff,Nat.reduceAdd,ak,z,hxi];exact mG (a:=0) hs (.inl rfl) (by simp) (wq (by rintro r' ⟨⟩;exact hx rfl)) (by simp[T.ah]) (by simp[T.ah]) (by simp[T.ah]) hK
theorem DU {c:UInt8}{h:Heap}{K:Value→Heap→Prop}(hK1:∀ x:UInt8,x.toNat<16→cW x=c→K (.int .i64 (x.toNat:Int)) h) (hK2:(∀ x:UInt8,x.toNat<16→cW x≠c)→K (.int .i64 (-1)) h):bT env (.func 117) [.int .u8 (c.toNat:Int)] h K:=by
 refine F117 rfl ?_;simp -dsimp only[↓WB,↓Kf,WP,ae,Nat.reduceEqDiff,Nat.reduceAdd];refine aE (fun m fr' h'=>∃ i:Nat,i≤16∧m=16-i∧h'=h∧fr'.get 3=some (.int .i64 (i:Nat))∧∀ x:UInt8,x.toNat<i→cW x≠c) 16 ?_ (by omega) ?_;·exact⟨0,by omega,rfl,rfl,by simp[T.ah],fun x hx=>by omega⟩
 rintro m fr2 h2 ⟨i,hi,rfl,rfl,f3,hno⟩ hag;have e3:=aj f3;have b0:=au (hag 0 rfl);by_cases aB:i<16
 ·have hx:(UInt8.ofNat i).toNat=i:=by simp;omega
  have w1:IntKind.wrap .u8 (i:Int)=((UInt8.ofNat i).toNat:Int):=by rw[hx];exact wrap_u8 (by omega) (by omega)
  have w5:IntKind.wrap .i64 ((i:Int)+1)=((i+1:Nat):Int):=by rw[wrap_i64 (by omega) (by omega)];omega
  (with_reducible repeat' (first|refine y1 ?_|simp -dsimp only[↓WB,↓Kf,WP,ae,Nat.reduceEqDiff,Nat.reduceAdd,↓e3,↓b0,w1]));refine oL (by omega) ?_;unfold aw;by_cases hq:cW (UInt8.ofNat i)=c;·rw[hq];simp -dsimp only[↓WB,↓Kf,WP,ae,Nat.reduceEqDiff,Nat.reduceAdd,↓e3,↓b0,w1,eq_self];have:=hK1 (UInt8.ofNat i) (by omega) hq;rwa [hx]at this
  ·have hq':¬(((cW (UInt8.ofNat i)).toNat:Int)=(c.toNat:Int)):=fun e=>hq (UInt8.toNat_inj.1 (by omega));simp -dsimp only[↓WB,↓Kf,WP,ae,Nat.reduceEqDiff,Nat.reduceAdd,↓e3,↓b0,w1,w5,hq'];exact⟨16-(i+1),by omega,i+1,by omega,rfl,by simp[T.ah],fun x h1=>by
    by_cases h3:x.toNat<i;·exact hno x h3
    ·have:x=UInt8.ofNat i:=UInt8.toNat_inj.1 (by rw[hx];omega);rw[this];exact hq⟩
 ·(with_reducible repeat' (first|refine y2 ?_|simp -dsimp only[↓WB,↓Kf,WP,ae,Nat.reduceEqDiff,Nat.reduceAdd,↓e3,↓b0]));exact hK2 fun x h1=>hno x (by omega)
def yh:List Value:=br (fun _=>0) (.slice none 0 0)
theorem Kv:[Value.int .i64 0,.int .i64 0,.int .i64 0,.int .i64 0,.int .i64 0,.int .i64 0,.int .i64 0,.int .i64 0,.int .i64 0,.int .i64 0,.int .u64 0,.int .u64 0,.int .u64 0,.int .u64 0,.slice none 0 0]=yh:=rfl
theorem Su:∀ k:Nat,k<14→((k=0∧(k:Int)=0)∨(k=1∧(k:Int)=1)∨(k=2∧(k:Int)=2)∨(k=3∧(k:Int)=3)∨(k=4∧(k:Int)=4)∨(k=5∧(k:Int)=5)∨(k=6∧(k:Int)=6)∨(k=7∧(k:Int)=7)∨(k=8∧(k:Int)=8)∨(k=9∧(k:Int)=9)∨(k=10∧(k:Int)=10)∨(k=11∧(k:Int)=11)∨(k=12∧(k:Int)=12)∨(k=13∧(k:Int)=13)):=by decide
theorem Jd {c:Nat→Int}{pa:Option Addr}{pn pc k n:Nat}{h:Heap}{K:Value→Heap→Prop}(hk:k<14) (hn:n≤9223372036854775807)
  (hK:∀ h',ai h.n h h'→K (.agg ⟨br (fun i=>if i=k then (n:Int) else c i) (.slice pa pn pc)⟩) h'):bT env (.func 53) [.agg ⟨br c (.slice pa pn pc)⟩,.int .i64 (k:Nat),.int .u64 (n:Nat)] h K:=by
 have w1:IntKind.wrap .i64 (n:Int)=(n:Int):=wrap_i64 (by omega) (by omega)
 have hset:=Dv (c:=c) (pv:=.slice pa pn pc) hk (v:=(n:Int))
 have c14:=Su k hk
 generalize ((k:Nat):Int)=kI at c14 ⊢
 generalize hc':(fun i=>if i=k then (n:Int) else c i)=c' at hset hK
 clear hc'
 have fin:∀ (fr:Fr) (H:Heap),dm H h.n (br c' (.slice pa pn pc)) 25→dm H (h.n+1) yh 25→ai h.n h H→fr.get 3=some (.pointer (some ⟨h.n,0,none⟩))→fr.get 6=some (.pointer (some ⟨h.n+1,0,none⟩))→Nw.wp env 75 none fr H (eY env [.cell 6 25] K):=by intro fr H B1 B2 X g3 g6;have e3:=aj g3;have e6:=aj g6;have d1:=B1.cfg.1;simp -dsimp only[↓WB,↓W53,WP,ae,Nat.reduceEqDiff,Nat.reduceAdd,↓e3,↓e6,d1];refine bN (off:=0) (cs':=br c' (.slice pa pn pc)) B2.get rfl rfl rfl rfl (by decide) ?_;have B3:dm { H with b:=H.b.set (h.n+1) (.cells (br c' (.slice pa pn pc)) 25 true) } (h.n+1) (br c' (.slice pa pn pc)) 25:=B2.set;have X3:ai h.n h { H with b:=H.b.set (h.n+1) (.cells (br c' (.slice pa pn pc)) 25 true) }:=⟨X.n,fun i hi=>by rw[← X.get i hi];exact T.ar _ _ (by omega)⟩;have d3:=B3.cfg.1;generalize ({ H with b:=H.b.set (h.n+1) (.cells (br c' (.slice pa pn pc)) 25 true) }:Heap)=H3 at B3 X3 d3 ⊢;simp -dsimp only[↓WB,↓W53,WP,ae,Nat.reduceEqDiff,Nat.reduceAdd,↓e3,↓e6,d3];exact hK H3 X3
 rcases c14 with ⟨rfl,rfl⟩|⟨rfl,rfl⟩|⟨rfl,rfl⟩|⟨rfl,rfl⟩|⟨rfl,rfl⟩|⟨rfl,rfl⟩|⟨rfl,rfl⟩|⟨rfl,rfl⟩|⟨rfl,rfl⟩|⟨rfl,rfl⟩|⟨rfl,rfl⟩|⟨rfl,rfl⟩|⟨rfl,rfl⟩|⟨rfl,rfl⟩
 all_goals
  refine F53 rfl ?_
  (with_reducible repeat' (first|refine y2 ?_|simp -dsimp only[↓WB,↓Ou,↓Oj,WP,ae,Nat.reduceEqDiff,Nat.reduceAdd,kZ,w1]))
  have B1:=(dm.new h (br c (.slice pa pn pc)) 25)
  have B1':=B1.ext (ai.new (.cells yh 25 true) (Nat.le_refl _)) B1.lt
  have B2:=dm.new (af h (.cells (br c (.slice pa pn pc)) 25 true)) yh 25
  have X:ai h.n h (af (af h (.cells (br c (.slice pa pn pc)) 25 true)) (.cells yh 25 true)):=(ai.new _ (Nat.le_refl _)).trans (ai.new _ (Nat.le_succ _))
  rw[Kv]
  generalize af (af h (.cells (br c (.slice pa pn pc)) 25 true)) (.cells yh 25 true)=H at B1' B2 X ⊢
  refine bN (cs':=br c' (.slice pa pn pc)) (B1'.get) rfl rfl (by rw[← hset];exact kC (by show _<15;decide)) rfl (by decide) ?_
  repeat' simp -dsimp only[↓WB,↓Ou,↓Oj,WP,ae,Nat.reduceEqDiff,Nat.reduceAdd]
  refine fin _ _ ?_ ?_ ?_ (by simp[T.ah]) (by simp[T.ah])
  ·exact B1'.set
  ·exact B2.setOther (by show h.n≠h.n+1;omega)
  ·exact⟨X.n,fun i hi=>by rw[← X.get i hi];exact T.ar _ _ (by omega)⟩
end Go.Proofs.YtohjaacnlmkhbaaGreatDoor
namespace Go.Ev
section
variable {E:Env}{t:TypeId}
theorem CF {sz:Nat}{a:Option Addr}{n:Nat}{k:IntKind}{K:Value→Prop}(hs:pj E t=some sz) (hz:sz≠0) (hn:n≠0) (q:K (.slice a 0 fY)) :
  fe E t (.slice a n cY) (some (.int k (n:Int))) none none K:=by
 unfold pj at hs
 split at hs
 ·rename_i e hu;refine⟨_,?_,q⟩;have hb:cg n n (some (.int k (n:Int))) none none=some (n,n,n):=by simp only[cg,fp,dL,oJ (Nat.le_refl n)]
  have e2:Nat.beq cY fY=false:=rfl;simp only[eB,hu,e2,cond_false,Nat.beq_refl,cond_true,hb,hs];have e3:Nat.beq n 0=false:=lK hn;cases sz with
  | zero=>exact absurd rfl hz
  | succ m=>simp only[e3,cond_false,cond_true]
 ·cases hs
end
end Go.Ev
namespace Go.Proofs.YtohjaacnlmkhbaaGreatDoor
open Go.Ev
set_option maxRecDepth 100000
set_option maxHeartbeats 1000000
def ph (B:Nat) (h:Heap) (v:Value) (ls:List (List UInt8)):Prop :=
 ∃ a c,v=.slice a ls.length c∧(ls≠[]→c=cY)∧∀ k (hk:k<ls.length),∃ i o,a=some ⟨i,o,none⟩∧i<B∧cellAt h ⟨i,o+k,none⟩=some (aq ls[k])
theorem ph.ext {B:Nat}{h h':Heap}{v:Value}{ls:List (List UInt8)}(r:ph B h v ls) (x:ai B h h'):ph B h' v ls:=by obtain⟨a,c,e,z,q⟩:=r;exact⟨a,c,e,z,fun k hk=>let ⟨i,o,e1,e2,e3⟩:=q k hk;⟨i,o,e1,e2,aI x e2 e3⟩⟩
theorem ph.mono {B B':Nat}{h:Heap}{v:Value}{ls:List (List UInt8)}(r:ph B h v ls) (hb:B≤B'):ph B' h v ls:=by obtain⟨a,c,e,z,q⟩:=r;exact⟨a,c,e,z,fun k hk=>let ⟨i,o,e1,e2,e3⟩:=q k hk;⟨i,o,e1,by omega,e3⟩⟩
theorem ph.own {B:Nat}{h:Heap}{v:Value}{ls:List (List UInt8)}(o:bn B h 9 v ls.length (ls.map aq)):ph h.n h v ls:=by
 generalize hn:ls.length=n at o;generalize hc:ls.map aq=cs at o;cases o with
 | nil=>exact⟨_,_,by rw[hn],fun hne=>absurd (List.length_eq_zero_iff.1 hn) hne,fun k hk=>by omega⟩
 | emp i hi=>exact⟨_,_,by rw[hn],fun hne=>absurd (List.length_eq_zero_iff.1 hn) hne,fun k hk=>by omega⟩
 | row i n cs h1 h2 h3 =>
   refine⟨_,_,by rw[hn],fun _=>rfl,fun k hk=>⟨i,0,rfl,h2,bQ h2 h3 ?_⟩⟩
   rw[Nat.zero_add,← hc,List.getElem?_map,List.getElem?_eq_getElem hk];rfl
theorem ph.val {B:Nat}{h:Heap}{v:Value}{ls:List (List UInt8)}(r:ph B h v ls):∃ a c,v=.slice a ls.length c:=by obtain ⟨a,c,e,_⟩:=r;exact⟨a,c,e⟩
theorem ph.at_ {B:Nat}{h:Heap}{a:Option Addr}{n c:Nat}{ls:List (List UInt8)}(r:ph B h (.slice a n c) ls) {k:Nat}(hk:k<ls.length):n=ls.length∧∃ i o,a=some ⟨i,o,none⟩∧cellAt h ⟨i,o+k,none⟩=some (aq ls[k]):=by obtain⟨a',c',e,_,q⟩:=r;cases e;obtain⟨i,o,e1,_,e3⟩:=q k hk;exact⟨rfl,i,o,e1,e3⟩
theorem ML:pj env 65=some 1:=by kernel_rfl
theorem ph.cut {B:Nat}{h:Heap}{v:Value}{ls:List (List UInt8)}(r:ph B h v ls) {lo:Nat}(hl:lo≤ls.length) (hne:ls≠[]) {K:Value→Prop}(q:∀ v',ph B h v' (ls.drop lo)→K v'):fe env 65 v (some (.int .i64 (lo:Int))) none none K:=by
 obtain⟨a,c,rfl,z,g⟩:=r;cases z hne;have hp:0<ls.length:=List.length_pos_iff.2 hne;by_cases h1:lo<ls.length;·obtain⟨i,o,rfl,hi,_⟩:=g 0 hp;refine tG ML (by decide) h1 (q _ ⟨_,_,by rw[List.length_drop],fun _=>rfl,fun k hk=>?_⟩);rw[List.length_drop]at hk;obtain⟨i',o',e1,e2,e3⟩:=g (lo+k) (by omega);cases e1;refine⟨i,o+lo*1,rfl,hi,?_⟩;rw[List.getElem_drop,← e3];congr 2;omega
 ·obtain rfl:lo=ls.length:=by omega
  refine CF ML (by decide) (by omega) (q _ ⟨_,_,by rw[List.length_drop,Nat.sub_self],fun hne=>absurd (List.drop_length) hne,fun k hk=>?_⟩);rw[List.drop_length]at hk;exact absurd hk (by simp)
def Rk (A:List ba):Prop:=∀ a∈A,xA a∧ft a=true
theorem Vg {p v c:Int}:ft ⟨1,p,v,c⟩=true:=by simp[ft]
theorem Wz:ft ⟨2,0,0,0⟩=true:=by simp[ft]
theorem Po {ls:List (List UInt8)}{A:List ba}(e:ls=A.map de) {i:Nat}(hi:i<ls.length):∃ a∈A,ls[i]=de a:=by subst e;rw[List.length_map]at hi;exact⟨A[i],List.getElem_mem hi,by rw[List.getElem_map]⟩
theorem uU {a:ba}(b:ft a=true) (h:de a≠gy):a.k=1∧aZ 32 (de a)=[jZ,Lib.itoa a.p,Lib.itoa a.v,Lib.itoa a.c]:=by
 rcases Bh b with h1|h1
 ·have:a.k≠2:=by omega
  exact⟨h1,by rw[jv this];exact zW _ _ _⟩
 ·exact absurd (jh (by rw[h1])) h
theorem IT {w p v c:List UInt8}{l:List UInt8}(h:aZ 32 l=[w,p,v,c]):l=w++[32]++p++[32]++v++[32]++c:=by have:=lZ 32 l;rw[h]at this;rw[← this];simp[uN]
theorem xJ {ls:List (List UInt8)}{A:List ba}{a:ba}{i:Nat}(hi:i<ls.length) (h:A.map de=ls.take i) (e:ls[i]=de a):(A++[a]).map de=ls.take (i+1):=by rw[List.map_append,h,← List.take_append_getElem hi,e];rfl
theorem len4 {f:List (List UInt8)}(h:f.length=4):∃ a b c d,f=[a,b,c,d]:=by
 match f,h with
 | [a,b,c,d],_=>exact⟨a,b,c,d,rfl⟩
theorem ph.lt0 {B:Nat}{h:Heap}{i o n c:Nat}{ls:List (List UInt8)}(r:ph B h (.slice (some ⟨i,o,none⟩) n c) ls) (hk:0<ls.length):i<B:=by obtain⟨a',c',e,_,q⟩:=r;cases e;obtain⟨i',o',e1,h1,_⟩:=q 0 hk;cases e1;exact h1
theorem EC {B:Nat}{v:Value}{ls:List (List UInt8)}{h:Heap}{K:Value→Heap→Prop}(r:ph B h v ls) (hB:B≤h.n) (hl:ls.length≤500000) (hll:∀ l∈ls,l.length≤500000)
   (hK1:∀ A v' h',Rk A→ls=A.map de→bn h.n h' 35 v' A.length (A.map ba.cells).flatten→(A.length=0→v'=.slice none 0 0)→ai h.n h h'→K (.tuple #[v',.bool true]) h')
   (hK2:∀ h',(∀ A,Rk A→ls≠A.map de)→ai h.n h h'→K (.tuple #[.slice none 0 0,.bool false]) h'):bT env (.func 55) [v] h K:=by
 obtain⟨va,vc,rfl⟩:=r.val
 refine F55 rfl ?_
 simp -dsimp only[↓WB,↓DS,WP,ae,Nat.reduceEqDiff,Nat.reduceAdd]
 refine aE (fun m fr' h'=>∃ i u A,i≤ls.length∧m=ls.length-i∧ai h.n h h'∧fr'.get 5=some (.int .i64 (i:Nat))∧fr'.get 4=some u∧Rk A∧A.map de=ls.take i∧A.length=i∧bn h.n h' 35 u A.length (A.map ba.cells).flatten∧(A.length=0→u=.slice none 0 0)) ls.length ?_ (by omega) ?_
 · exact⟨0,_,[],by omega,rfl,ai.refl _ _,by simp[T.ah],by simp only[T.ah];rfl,(fun a ha=>by cases ha),by simp,rfl,bn.nil,fun _=>rfl⟩
 rintro m fr2 h2 ⟨i,u,A,hi,rfl,X2,f5,f4,okA',hA,hAi,O2,u0⟩ hag
 have e5:=aj f5
 have e4:=aj f4
 have b0:=au (hag 0 rfl)
 have n2:=X2.n
 have w5:IntKind.wrap .i64 ((i:Int)+1)=((i+1:Nat):Int):=by rw[wrap_i64 (by omega) (by omega)];omega
 by_cases aB:i<ls.length
 · obtain⟨_,ri,ro,rfl,dc⟩:=(r.ext (X2.mono hB)).at_ aB;have hli:=hll _ (List.getElem_mem aB);have get:=fun {A:List ba}(e:ls=A.map de)=>Po e aB;have snoc:=fun {a:ba}(e:ls[i]=de a)=>xJ aB hA e;generalize ls[i]=l at dc hli get snoc;unfold aq at dc;by_cases hc:l=gy
   · have q1:((⟨l.toArray⟩:ByteArray)=⟨⟨[99,108,111,99,107]⟩⟩)=True:=eq_true (by rw[hc];rfl);(with_reducible repeat' (first|refine y1 ?_|refine y4 ?_|refine y8 ?_|refine y9 ?_|simp -dsimp only[↓WB,↓DS,WP,ae,Nat.reduceEqDiff,Nat.reduceAdd,↓e5,↓e4,↓b0,Nat.mul_one,dc,q1]));refine dQ (new:=(⟨2,0,0,0⟩:ba).cells) O2 (by omega) (qQ _) (by omega) rfl rfl (by decide) rfl fun v' h4 O4 X4 n4 _=>?_;simp -dsimp only[↓WB,↓DS,WP,ae,Nat.reduceEqDiff,Nat.reduceAdd,↓e5,↓e4,↓b0,w5];refine⟨ls.length-(i+1),by omega,i+1,v',A++[⟨2,0,0,0⟩],by omega,rfl,X2.trans X4,by simp[T.ah],by simp[T.ah],?_,snoc (by rw[hc];rfl),by simp[hAi],?_,by simp⟩
     · intro a ha;rcases List.mem_append.1 ha with ha|ha;· exact okA' a ha
       · rw[List.mem_singleton]at ha;subst ha;exact⟨by unfold xA;simp,Wz⟩
     · simpa using O4
   have q1:((⟨l.toArray⟩:ByteArray)=⟨⟨[99,108,111,99,107]⟩⟩)=False:=eq_false (wv (y:=gy) hc);have get2:∀ {A:List ba},Rk A→ls=A.map de→∃ a,xA a∧l=de a∧a.k=1∧aZ 32 l=[jZ,Lib.itoa a.p,Lib.itoa a.v,Lib.itoa a.c]:=by intro A oA e;obtain⟨a,ha,e⟩:=get e;have:=uU (oA a ha).2 (by rw[← e];exact hc);exact⟨a,(oA a ha).1,e,this.1,by rw[e];exact this.2⟩
   have no:∀ h',(∀ A,Rk A→ls≠A.map de)→ai h2.n h2 h'→K (.tuple #[.slice none 0 0,.bool false]) h':=fun h' hh X=>hK2 h' hh (X2.trans (X.mono n2));(with_reducible repeat' (first|refine y1 ?_|refine y4 ?_|simp -dsimp only[↓WB,↓DS,WP,ae,Nat.reduceEqDiff,Nat.reduceAdd,↓e5,↓e4,↓b0,Nat.mul_one,dc,q1]));refine tn (s:=l) hli fun w h3 O3 X3=>?_;have n3:=X3.n;have R3:=ph.own O3;obtain⟨wa,wc,rfl⟩:=R3.val;have hsl:∀ x∈aZ 32 l,x.length≤500000:=fun x hx=>by have:=fv hx;omega
   by_cases h4:(aZ 32 l).length=4
   · obtain⟨x0,x1,x2,x3,hf⟩:=len4 h4;rw[hf]at R3 hsl;obtain⟨z0,wi,wo,rfl,d0⟩:=R3.at_ (k:=0) (by simp);obtain⟨_,wi1,wo1,e1,d1⟩:=R3.at_ (k:=1) (by simp);obtain⟨_,wi2,wo2,e2,d2⟩:=R3.at_ (k:=2) (by simp);obtain⟨_,wi3,wo3,e3,d3⟩:=R3.at_ (k:=3) (by simp);cases e1;cases e2;cases e3;simp only[List.getElem_cons_zero,List.getElem_cons_succ,Nat.add_zero]at d0 d1 d2 d3;have l1:=hsl x1 (by simp);have l2:=hsl x2 (by simp);have l3:=hsl x3 (by simp);have hin:wi<h3.n:=(R3.lt0 (by simp));unfold aq at d0;by_cases hr:x0=jZ
     · have q2:((⟨x0.toArray⟩:ByteArray)=⟨⟨[114,117,110]⟩⟩)=True:=eq_true (by rw[hr];rfl);rw[h4];have z4:((4:Nat):Int)=4:=rfl;have tn1:Int.toNat 1=1:=rfl;have tn2:Int.toNat 2=2:=rfl;have tn3:Int.toNat 3=3:=rfl;unfold aq at d1;(with_reducible repeat' (first|refine y4 ?_|simp -dsimp only[↓WB,↓DS,WP,ae,Nat.reduceEqDiff,Nat.reduceAdd,↓e5,↓e4,↓b0,Nat.mul_one,Nat.add_zero,tn1,d0,d1,q2,z4,eq_self]));refine k_ l1 fun m1 p1 h4 X4 g1 g1' t1 u1=>?_;have n4:=X4.n;replace d2:=aI X4 hin d2;replace d3:=aI X4 hin d3;unfold aq at d2;(with_reducible repeat' (first|refine y4 ?_|simp -dsimp only[↓WB,↓DS,WP,ae,Nat.reduceEqDiff,Nat.reduceAdd,↓e5,↓e4,↓b0,Nat.mul_one,tn2,d2]));refine k_ l2 fun m2 p2 h5 X5 g2 g2' t2 u2=>?_;have n5:=X5.n;replace d3:=aI X5 (by omega) d3;unfold aq at d3;(with_reducible repeat' (first|refine y4 ?_|simp -dsimp only[↓WB,↓DS,WP,ae,Nat.reduceEqDiff,Nat.reduceAdd,↓e5,↓e4,↓b0,Nat.mul_one,tn3,d3]));refine k_ l3 fun m3 p3 h6 X6 g3 g3' t3 u3=>?_;have n6:=X6.n;have X36:ai h3.n h3 h6:=(X4.trans (X5.mono n4)).trans (X6.mono (by omega));have X26:ai h2.n h2 h6:=X3.trans (X36.mono n3);have bad:(p1=false∨p2=false∨p3=false)→∀ A,Rk A→ls≠A.map de:=by intro hb A oA e;obtain⟨a,⟨⟨a1,a1'⟩,⟨a2,a2'⟩,a3,a3'⟩,_,_,ha⟩:=get2 oA e;rw[hf]at ha;simp only[List.cons.injEq,and_true]at ha;have z1:=(u1 _ a1 a1' ha.2.1).2;have z2:=(u2 _ a2 a2' ha.2.2.1).2;have z3:=(u3 _ a3 a3' ha.2.2.2).2;rcases hb with h|h|h<;>simp_all
       cases p1 with
       | false =>
         simp -dsimp only[↓WB,↓DS,WP,ae,Nat.reduceEqDiff,Nat.reduceAdd,↓e5,↓e4,↓b0]
         exact no _ (bad (.inl rfl)) X26
       | true =>
         cases p2 with
         | false =>
           simp -dsimp only[↓WB,↓DS,WP,ae,Nat.reduceEqDiff,Nat.reduceAdd,↓e5,↓e4,↓b0]
           exact no _ (bad (.inr (.inl rfl))) X26
         | true =>
           cases p3 with
           | false =>
             simp -dsimp only[↓WB,↓DS,WP,ae,Nat.reduceEqDiff,Nat.reduceAdd,↓e5,↓e4,↓b0]
             exact no _ (bad (.inr (.inr rfl))) X26
           | true =>
             have O6:=O2.ext X26 (Nat.le_refl _)
             (with_reducible repeat' (first|refine y8 ?_|refine y9 ?_|simp -dsimp only[↓WB,↓DS,WP,ae,Nat.reduceEqDiff,Nat.reduceAdd,↓e5,↓e4,↓b0]))
             refine dQ (new:=(⟨1,m1,m2,m3⟩:ba).cells) O6 (by omega) (qQ _) (by omega) rfl rfl (by decide) rfl fun v' h8 O8 X8 n8 _=>?_
             simp -dsimp only[↓WB,↓DS,WP,ae,Nat.reduceEqDiff,Nat.reduceAdd,↓e5,↓e4,↓b0,w5]
             refine⟨ls.length-(i+1),by omega,i+1,v',A++[⟨1,m1,m2,m3⟩],by omega,rfl,(X2.trans (X26.mono n2)).trans X8,by simp[T.ah],by simp[T.ah],?_,snoc ?_,by simp[hAi],?_,by simp⟩
             · intro a ha;rcases List.mem_append.1 ha with ha|ha;· exact okA' a ha
               · rw[List.mem_singleton]at ha;subst ha;exact⟨⟨⟨g1,g1'⟩,⟨g2,g2'⟩,g3,g3'⟩,Vg⟩
             · have hx:=IT hf;rw[jv (show (1:Int)≠2 by decide),hx,hr,t1 rfl,t2 rfl,t3 rfl]
             · simpa using O8
     · have q2:((⟨x0.toArray⟩:ByteArray)=⟨⟨[114,117,110]⟩⟩)=False:=eq_false (wv (y:=jZ) hr);rw[h4];have z4:((4:Nat):Int)=4:=rfl;(with_reducible repeat' (first|refine y4 ?_|simp -dsimp only[↓WB,↓DS,WP,ae,Nat.reduceEqDiff,Nat.reduceAdd,↓e5,↓e4,↓b0,Nat.mul_one,Nat.add_zero,d0,q2,z4,eq_self]));refine no _ (fun A oA e=>?_) X3;obtain⟨a,_,_,_,ha⟩:=get2 oA e;rw[hf]at ha;exact hr (by simpa using congrArg List.head? ha)
   · have h4':¬(((aZ 32 l).length:Int)=4):=by omega
     simp -dsimp only[↓WB,↓DS,WP,ae,Nat.reduceEqDiff,Nat.reduceAdd,↓e5,↓e4,↓b0,Nat.mul_one,h4'];refine no _ (fun A oA e=>?_) X3;obtain⟨a,_,_,_,ha⟩:=get2 oA e;exact h4 (by rw[ha];rfl)
 · have hie:i=ls.length:=by omega
   subst hie;rw[List.take_length]at hA;(with_reducible repeat' (first|refine y2 ?_|simp -dsimp only[↓WB,↓DS,WP,ae,Nat.reduceEqDiff,Nat.reduceAdd,↓e5,↓e4,↓b0]));exact hK1 A u h2 okA' hA.symm O2 u0 X2
end Go.Proofs.YtohjaacnlmkhbaaGreatDoor
