/- script.Of, its parts, walked. Conditions: none beyond each theorem's own. -/
import Derived.Test.YtohjaacnlmkhbaaGreatDoorYQ
import Derived.Test.YtohjaacnlmkhbaaGreatDoorIA
import Derived.Test.YtohjaacnlmkhbaaGreatDoorTA
set_option linter.unusedSimpArgs false
set_option linter.unusedVariables false
namespace Go.Proofs.YtohjaacnlmkhbaaGreatDoor
open Go.Ev
set_option maxRecDepth 100000
set_option maxHeartbeats 400000
theorem wv {x y:List UInt8}(h:x≠y):¬((⟨x.toArray⟩:ByteArray)=⟨⟨y⟩⟩):=fun e=>h (str_inj.1 e)
theorem L2 {x y:List UInt8}(h:x=y):((⟨x.toArray⟩:ByteArray)=⟨⟨y⟩⟩)=True:=eq_true (by rw[h])
theorem GI:Va env 9 36=true:=by kernel_rfl
theorem BI {l:List UInt8}{u:Nat}{h:Heap}{K:Value→Heap→Prop}(hl:Lib.decFrom 0 l=some u) (hne:l≠[]) (hn:l.length≤100) (hu:u<1099511627776) (hK:∀ h',ai h.n h h'→K (.tuple #[.int .u64 u,.nilIface]) h') :
  bT env (.func 107) [.string ⟨l.toArray⟩,.int .i64 10,.int .i64 40] h K:=by
 refine Ya rfl ?_
 have hs:¬((⟨l.toArray⟩:ByteArray)=⟨⟨[]⟩⟩):=fun e=>hne (by have:=congrArg (fun b:ByteArray=>b.data.toList) e;simpa using this)
 have hlen:l.length≠0:=fun e=>hne (List.length_eq_zero_iff.1 e)
 have w53:IntKind.u64.wrap 40=40:=rfl
 have wsh:IntKind.u64.wrap (1*2 ^ min (40:Int).toNat IntKind.u64.bits)=1099511627776:=by decide
 have wmx:IntKind.u64.wrap (1099511627776-1)=1099511627775:=by decide
 (with_reducible repeat' (first|refine y1 ?_|refine y2 ?_|refine y5 ?_|simp -dsimp only[↓WB,↓jx,WP,ae,Nat.reduceEqDiff,Nat.reduceAdd,hs,↓vF GI,sbK,ak,w53,wsh,wmx]))
 have hn1:(af h (.ro fun j=>nth (fR ⟨l.toArray⟩) j)).n=h.n+1:=rfl
 have hb1:(af h (.ro fun j=>nth (fR ⟨l.toArray⟩) j)).b.get h.n=some (.ro fun j=>nth (fR ⟨l.toArray⟩) j):=aC _ _
 have X1:ai h.n h (af h (.ro fun j=>nth (fR ⟨l.toArray⟩) j)):=ai.new _ (Nat.le_refl _)
 generalize af h (.ro fun j=>nth (fR ⟨l.toArray⟩) j)=h1 at hn1 hb1 X1 ⊢
 refine aE (fun n fr h'=>h'=h1∧∃ k a:Nat,k≤l.length∧n=l.length-k∧fr.get 101=some (.int .i64 k)∧fr.get 13=some (.int .u64 a)∧fr.get 12=some (.bool false)∧Lib.decFrom 0 (l.take k)=some a) l.length ?_ (by omega) ?_
 ·exact⟨rfl,0,0,by omega,by omega,by simp[T.ah],by simp[T.ah],by simp[T.ah],rfl⟩
 rintro n fr h' ⟨rfl,k,a,hk,rfl,g101,g13,g12,ha⟩ hag
 have g101:=aj g101
 have g13:=aj g13
 have g12':=g12
 have g12:=aj g12
 have a1:=au (hag 1 rfl)
 have a8:=au (hag 8 rfl)
 have a10:=au (hag 10 rfl)
 have a11:=au (hag 11 rfl)
 have a99:=au (hag 99 rfl)
 have a100:=au (hag 100 rfl)
 have hau:=jQ hl ha
 by_cases aB:k<l.length
 ·obtain⟨d,hd⟩:=Lib.digit_of_decFrom _ _ _ hl k l[k] (List.getElem?_eq_getElem aB);have hs1:=Lib.decFrom_take l k 0 a l[k] d ha (List.getElem?_eq_getElem aB) hd;have hau1:=jQ hl hs1;have hd2:48≤l[k].toNat∧l[k].toNat≤57∧d=l[k].toNat-48:=by
   unfold Lib.digitVal at hd;split at hd;·rename_i hc;simp only[Option.some.injEq]at hd;exact⟨hc.1,hc.2,hd.symm⟩
   ·cases hd
  have cb:=Bv (g:=fun _=>none) aB (show h.n<h'.n by omega) hb1;have cb:cellAt h' ⟨h.n,0+k*1,none⟩=some (.int .u8 (l[k].toNat:Int)):=by rw[show 0+k*1=k by omega];exact cb
  have v1:IntKind.u8.wrap ((l[k].toNat:Int)-48)=(d:Int):=by rw[wrap_u8 (by omega) (by omega)];omega
  have v2:IntKind.u8.wrap 10=10:=by decide
  have v3:IntKind.u64.wrap 10=10:=by decide
  have v4:IntKind.u64.wrap ((a:Int)*10)=((a*10:Nat):Int):=by rw[wrap_u64 (by omega) (by omega)];omega
  have v5:IntKind.u64.wrap (d:Int)=(d:Int):=wrap_u64 (by omega) (by omega);have v6:IntKind.u64.wrap (((a*10:Nat):Int)+(d:Int))=((a*10+d:Nat):Int):=by rw[wrap_u64 (by omega) (by omega)];omega
  generalize l[k].toNat=b at *
  (with_reducible repeat' (first|refine y1 ?_|refine y2 ?_|refine y4 ?_|simp -dsimp only[↓WB,↓jx,WP,ae,Nat.reduceEqDiff,Nat.reduceAdd,↓g101,↓g13,↓g12,↓a1,↓a8,↓a10,↓a11,↓a99,↓a100,cb,v1,v2,v3,v4,v5,v6]));refine⟨l.length-(k+1),by omega,k+1,a*10+d,by omega,rfl,?_,?_,?_,hs1⟩;·simp[T.ah,bf (show k≤4611686018427387904 by omega)]
  ·simp[T.ah]
  ·simp only[T.ah];simpa using g12'
 ·have e:k=l.length:=by omega
  subst e;rw[List.take_length,hl]at ha;cases ha;(with_reducible repeat' (first|refine y2 ?_|simp -dsimp only[↓WB,↓jx,WP,ae,Nat.reduceEqDiff,Nat.reduceAdd,↓g101,↓g13,↓g12,↓a1,↓a8,↓a10,↓a11,↓a99,↓a100]));exact hK h' X1
theorem QD:dN env .neq 58 .nilIface .nilIface=some (.bool false):=by kernel_rfl
theorem F8 {x:Operand}{K:Value→Prop}:cd env .neq 58 (isConst x || isConst (.const .nilIface)) .nilIface .nilIface K=K (.bool false):=by simp only[cd,QD,aU,isConst,Bool.or_true,true_and]
theorem HQ {l:List UInt8}{u:Nat}{h:Heap}{K:Value→Heap→Prop}(hl:Lib.decFrom 0 l=some u) (hne:l≠[]) (hn:l.length≤100) (hu:u<1099511627776) (hK:∀ h',ai h.n h h'→K (.tuple #[.int .u64 u,.nilIface]) h') :
  bT env (.func 77) [.string ⟨l.toArray⟩,.int .i64 10,.int .i64 40] h K:=by
 refine F77 rfl ?_
 simp -dsimp only[↓WB,↓Xd,WP,ae,Nat.reduceEqDiff,Nat.reduceAdd]
 refine BI hl hne hn hu fun h' X=>?_
 simp -dsimp only[↓WB,↓Xd,WP,ae,Nat.reduceEqDiff,Nat.reduceAdd,F8]
 exact hK h' X
theorem WX (n:Int):0≤IntKind.wrap .u8 n∧IntKind.wrap .u8 n≤255:=by rw[IntKind.wrap_u8];omega
def XF (b:Int):Int:=IntKind.wrap .u8 ((BitVec.ofInt IntKind.u8.bits b ||| BitVec.ofInt IntKind.u8.bits 32).toNat:Int)
theorem HB {b:Int}{h:Heap}{K:Value→Heap→Prop}(hK:K (.int .u8 (XF b)) h):bT env (.func 141) [.int .u8 b] h K:=by unfold XF at hK;refine F141 rfl ?_;simp -dsimp only[↓WB,↓W141,WP,ae,Nat.reduceEqDiff,Nat.reduceAdd,Fj];exact hK
def Na (v:Value):Prop:=∃ n:Int,(n=1∨n=2)∧v=.iface 188 (.int .i64 n)
theorem C0 {l:List UInt8}{h:Heap}{K:Value→Heap→Prop}(hn:l.length≤500000) (hK:∀ (u:Nat) h',u<1099511627776→ai h.n h h'→K (.tuple #[.int .u64 u,.nilIface]) h')
  (hE:∀ (u:Nat) v h',u<1099511627776→Na v→ai h.n h h'→K (.tuple #[.int .u64 u,v]) h') :
  bT env (.func 107) [.string ⟨l.toArray⟩,.int .i64 10,.int .i64 40] h K:=by
 refine Ya rfl ?_
 have syn:∀ h',ai h.n h h'→K (.tuple #[.int .u64 0,.iface 188 (.int .i64 2)]) h':=fun h' X=>hE 0 _ h' (by omega) ⟨2,.inr rfl,rfl⟩ X
 have rng:∀ h',ai h.n h h'→K (.tuple #[.int .u64 1099511627775,.iface 188 (.int .i64 1)]) h':=fun h' X=>hE 1099511627775 _ h' (by omega) ⟨1,.inl rfl,rfl⟩ X
 have w53:IntKind.u64.wrap 40=40:=rfl
 have wsh:IntKind.u64.wrap (1*2 ^ min (40:Int).toNat IntKind.u64.bits)=1099511627776:=by decide
 have wmx:IntKind.u64.wrap (1099511627776-1)=1099511627775:=by decide
 by_cases hne:l=[]
 ·have hs:((⟨l.toArray⟩:ByteArray)=⟨⟨[]⟩⟩)=True:=L2 hne;simp -dsimp only[↓WB,↓jx,WP,ae,Nat.reduceEqDiff,Nat.reduceAdd,hs];exact syn h (ai.refl _ _)
 have hs:=wv hne
 have hlen:l.length≠0:=fun e=>hne (List.length_eq_zero_iff.1 e)
 (with_reducible repeat' (first|refine y1 ?_|refine y2 ?_|refine y5 ?_|simp -dsimp only[↓WB,↓jx,WP,ae,Nat.reduceEqDiff,Nat.reduceAdd,hs,↓vF GI,sbK,ak,w53,wsh,wmx]))
 have hn1:(af h (.ro fun j=>nth (fR ⟨l.toArray⟩) j)).n=h.n+1:=rfl
 have hb1:(af h (.ro fun j=>nth (fR ⟨l.toArray⟩) j)).b.get h.n=some (.ro fun j=>nth (fR ⟨l.toArray⟩) j):=aC _ _
 have X1:ai h.n h (af h (.ro fun j=>nth (fR ⟨l.toArray⟩) j)):=ai.new _ (Nat.le_refl _)
 generalize af h (.ro fun j=>nth (fR ⟨l.toArray⟩) j)=h1 at hn1 hb1 X1 ⊢
 refine aE (fun n fr h'=>h'=h1∧∃ k a:Nat,k≤l.length∧n=l.length-k∧fr.get 101=some (.int .i64 k)∧fr.get 13=some (.int .u64 a)∧fr.get 12=some (.bool false)∧a<1099511627776) l.length ?_ (by omega) ?_
 ·exact⟨rfl,0,0,by omega,by omega,by simp[T.ah],by simp[T.ah],by simp[T.ah],by omega⟩
 rintro n fr h' ⟨rfl,k,a,hk,rfl,g101,g13,g12,ha⟩ hag
 have g101:=aj g101
 have g13:=aj g13
 have g12':=g12
 have g12:=aj g12
 have a1:=au (hag 1 rfl)
 have a8:=au (hag 8 rfl)
 have a10:=au (hag 10 rfl)
 have a11:=au (hag 11 rfl)
 have a99:=au (hag 99 rfl)
 have a100:=au (hag 100 rfl)
 by_cases aB:k<l.length
 ·have cb:=Bv (g:=fun _=>none) aB (show h.n<h'.n by omega) hb1;have cb:cellAt h' ⟨h.n,0+k*1,none⟩=some (.int .u8 (l[k].toNat:Int)):=by rw[show 0+k*1=k by omega];exact cb
  have hb256:l[k].toNat<256:=UInt8.toNat_lt _;generalize l[k].toNat=b at cb hb256;have v2:IntKind.u8.wrap 10=10:=by decide
  have v3:IntKind.u64.wrap 10=10:=by decide
  by_cases hd:48≤b∧b≤57
  ·obtain⟨d,hd2⟩:∃ d:Nat,b=d+48:=⟨b-48,by omega⟩;subst hd2;have h95:¬((d+48:Nat):Int)=95:=by omega
   have c1:(48:Int)≤((d+48:Nat):Int):=by omega
   have c2:((d+48:Nat):Int)≤57:=by omega
   have c3:¬(10:Int)≤(d:Int):=by omega
   have c4:¬(1844674407370955162:Int)≤(a:Int):=by omega
   have v1:IntKind.u8.wrap (((d+48:Nat):Int)-48)=(d:Int):=by rw[wrap_u8 (by omega) (by omega)];omega
   have v4:IntKind.u64.wrap ((a:Int)*10)=((a*10:Nat):Int):=by rw[wrap_u64 (by omega) (by omega)];omega
   have v5:IntKind.u64.wrap (d:Int)=(d:Int):=wrap_u64 (by omega) (by omega);have v6:IntKind.u64.wrap (((a*10:Nat):Int)+(d:Int))=((a*10+d:Nat):Int):=by rw[wrap_u64 (by omega) (by omega)];omega
   have c5:¬((a*10+d:Nat):Int)<((a*10:Nat):Int):=by omega
   by_cases hov:1099511627775<a*10+d
   ·have c6:(1099511627775:Int)<((a*10+d:Nat):Int):=by omega
    (with_reducible repeat' (first|refine y1 ?_|refine y4 ?_|simp -dsimp only[↓WB,↓jx,WP,ae,Nat.reduceEqDiff,Nat.reduceAdd,↓g101,↓g13,↓g12,↓a1,↓a8,↓a10,↓a11,↓a99,↓a100,cb,h95,c1,c2,v1,v2,c3,c4,v3,v4,v5,v6,c5,c6]));exact rng h' X1
   ·have c6:¬(1099511627775:Int)<((a*10+d:Nat):Int):=by omega
    (with_reducible repeat' (first|refine y1 ?_|refine y4 ?_|simp -dsimp only[↓WB,↓jx,WP,ae,Nat.reduceEqDiff,Nat.reduceAdd,↓g101,↓g13,↓g12,↓a1,↓a8,↓a10,↓a11,↓a99,↓a100,cb,h95,c1,c2,v1,v2,c3,c4,v3,v4,v5,v6,c5,c6]));refine⟨l.length-(k+1),by omega,k+1,a*10+d,by omega,rfl,?_,?_,?_,by omega⟩;·simp[T.ah,bf (show k≤4611686018427387904 by omega)]
    ·simp[T.ah]
    ·simp only[T.ah];simpa using g12'
  ·have sx:=syn h' X1;have hc0:=WX ((BitVec.ofInt IntKind.u8.bits (b:Int) ||| BitVec.ofInt IntKind.u8.bits 32).toNat:Int);obtain⟨c,hc,low⟩:∃ c:Int,(0≤c∧c≤255)∧∀ {h:Heap}{K:Value→Heap→Prop},K (.int .u8 c) h→bT env (.func 141) [.int .u8 (b:Int)] h K:=⟨_,hc0,fun hK=>HB hK⟩;by_cases h48:48≤b
   ·have c1:(48:Int)≤(b:Int):=by omega
    have c2:¬(b:Int)≤57:=by omega
    by_cases l97:97≤c
    ·by_cases l122:c≤122
     ·have e1:IntKind.u8.wrap (c-97)=c-97:=wrap_u8 (by omega) (by omega);have e2:IntKind.u8.wrap (c-97+10)=c-87:=by rw[wrap_u8 (by omega) (by omega)];omega
      have e3:10≤c-87:=by omega
      all_goals ((with_reducible repeat' (first|refine y1 ?_|refine y3 (fun _=>?_) (fun _=>?_)|refine y4 ?_|simp -dsimp only[↓WB,↓jx,WP,ae,Nat.reduceEqDiff,Nat.reduceAdd,↓g101,↓g13,↓g12,↓a1,↓a8,↓a10,↓a11,↓a99,↓a100,cb,v2,c1,c2,l97,l122,e1,e2,e3])))
      all_goals refine low ?_
      all_goals (repeat' simp -dsimp only[↓WB,↓jx,WP,ae,Nat.reduceEqDiff,Nat.reduceAdd,↓g101,↓g13,↓g12,↓a1,↓a8,↓a10,↓a11,↓a99,↓a100,cb,v2,c1,c2,l97,l122,e1,e2,e3])
      all_goals refine low ?_
      all_goals (repeat' simp -dsimp only[↓WB,↓jx,WP,ae,Nat.reduceEqDiff,Nat.reduceAdd,↓g101,↓g13,↓g12,↓a1,↓a8,↓a10,↓a11,↓a99,↓a100,cb,v2,c1,c2,l97,l122,e1,e2,e3])
      all_goals refine low ?_
      all_goals (repeat' simp -dsimp only[↓WB,↓jx,WP,ae,Nat.reduceEqDiff,Nat.reduceAdd,↓g101,↓g13,↓g12,↓a1,↓a8,↓a10,↓a11,↓a99,↓a100,cb,v2,c1,c2,l97,l122,e1,e2,e3])
      all_goals exact sx
     ·skip;all_goals ((with_reducible repeat' (first|refine y1 ?_|refine y3 (fun _=>?_) (fun _=>?_)|refine y4 ?_|simp -dsimp only[↓WB,↓jx,WP,ae,Nat.reduceEqDiff,Nat.reduceAdd,↓g101,↓g13,↓g12,↓a1,↓a8,↓a10,↓a11,↓a99,↓a100,cb,v2,c1,c2,l97,l122])))
      all_goals refine low ?_
      all_goals (repeat' simp -dsimp only[↓WB,↓jx,WP,ae,Nat.reduceEqDiff,Nat.reduceAdd,↓g101,↓g13,↓g12,↓a1,↓a8,↓a10,↓a11,↓a99,↓a100,cb,v2,c1,c2,l97,l122])
      all_goals refine low ?_
      all_goals (repeat' simp -dsimp only[↓WB,↓jx,WP,ae,Nat.reduceEqDiff,Nat.reduceAdd,↓g101,↓g13,↓g12,↓a1,↓a8,↓a10,↓a11,↓a99,↓a100,cb,v2,c1,c2,l97,l122])
      all_goals exact sx
    ·skip;all_goals ((with_reducible repeat' (first|refine y1 ?_|refine y3 (fun _=>?_) (fun _=>?_)|refine y4 ?_|simp -dsimp only[↓WB,↓jx,WP,ae,Nat.reduceEqDiff,Nat.reduceAdd,↓g101,↓g13,↓g12,↓a1,↓a8,↓a10,↓a11,↓a99,↓a100,cb,v2,c1,c2,l97])))
     all_goals refine low ?_
     all_goals (repeat' simp -dsimp only[↓WB,↓jx,WP,ae,Nat.reduceEqDiff,Nat.reduceAdd,↓g101,↓g13,↓g12,↓a1,↓a8,↓a10,↓a11,↓a99,↓a100,cb,v2,c1,c2,l97])
     all_goals exact sx
   ·have c1:¬(48:Int)≤(b:Int):=by omega
    by_cases l97:97≤c
    ·by_cases l122:c≤122
     ·have e1:IntKind.u8.wrap (c-97)=c-97:=wrap_u8 (by omega) (by omega);have e2:IntKind.u8.wrap (c-97+10)=c-87:=by rw[wrap_u8 (by omega) (by omega)];omega
      have e3:10≤c-87:=by omega
      all_goals ((with_reducible repeat' (first|refine y1 ?_|refine y2 ?_|refine y4 ?_|simp -dsimp only[↓WB,↓jx,WP,ae,Nat.reduceEqDiff,Nat.reduceAdd,↓g101,↓g13,↓g12,↓a1,↓a8,↓a10,↓a11,↓a99,↓a100,cb,v2,c1,l97,l122,e1,e2,e3])))
      all_goals refine low ?_
      all_goals (simp -dsimp only[↓WB,↓jx,WP,ae,Nat.reduceEqDiff,Nat.reduceAdd,↓g101,↓g13,↓g12,↓a1,↓a8,↓a10,↓a11,↓a99,↓a100,cb,v2,c1,l97,l122,e1,e2,e3])
      all_goals refine low ?_
      all_goals (simp -dsimp only[↓WB,↓jx,WP,ae,Nat.reduceEqDiff,Nat.reduceAdd,↓g101,↓g13,↓g12,↓a1,↓a8,↓a10,↓a11,↓a99,↓a100,cb,v2,c1,l97,l122,e1,e2,e3])
      all_goals refine low ?_
      all_goals (simp -dsimp only[↓WB,↓jx,WP,ae,Nat.reduceEqDiff,Nat.reduceAdd,↓g101,↓g13,↓g12,↓a1,↓a8,↓a10,↓a11,↓a99,↓a100,cb,v2,c1,l97,l122,e1,e2,e3])
      all_goals exact sx
     ·skip;all_goals ((with_reducible repeat' (first|refine y1 ?_|refine y2 ?_|refine y4 ?_|simp -dsimp only[↓WB,↓jx,WP,ae,Nat.reduceEqDiff,Nat.reduceAdd,↓g101,↓g13,↓g12,↓a1,↓a8,↓a10,↓a11,↓a99,↓a100,cb,v2,c1,l97,l122])))
      all_goals refine low ?_
      all_goals (simp -dsimp only[↓WB,↓jx,WP,ae,Nat.reduceEqDiff,Nat.reduceAdd,↓g101,↓g13,↓g12,↓a1,↓a8,↓a10,↓a11,↓a99,↓a100,cb,v2,c1,l97,l122])
      all_goals refine low ?_
      all_goals (simp -dsimp only[↓WB,↓jx,WP,ae,Nat.reduceEqDiff,Nat.reduceAdd,↓g101,↓g13,↓g12,↓a1,↓a8,↓a10,↓a11,↓a99,↓a100,cb,v2,c1,l97,l122])
      all_goals exact sx
    ·skip;all_goals ((with_reducible repeat' (first|refine y1 ?_|refine y2 ?_|refine y4 ?_|simp -dsimp only[↓WB,↓jx,WP,ae,Nat.reduceEqDiff,Nat.reduceAdd,↓g101,↓g13,↓g12,↓a1,↓a8,↓a10,↓a11,↓a99,↓a100,cb,v2,c1,l97])))
     all_goals refine low ?_
     all_goals (simp -dsimp only[↓WB,↓jx,WP,ae,Nat.reduceEqDiff,Nat.reduceAdd,↓g101,↓g13,↓g12,↓a1,↓a8,↓a10,↓a11,↓a99,↓a100,cb,v2,c1,l97])
     all_goals exact sx
 ·have e:k=l.length:=by omega
  subst e;(with_reducible repeat' (first|refine y2 ?_|simp -dsimp only[↓WB,↓jx,WP,ae,Nat.reduceEqDiff,Nat.reduceAdd,↓g101,↓g13,↓g12,↓a1,↓a8,↓a10,↓a11,↓a99,↓a100]));exact hK _ h' ha X1
theorem toErr_ret {fn s:ByteArray}{k1 k2 n:Int}{h:Heap}{K:Value→Heap→Prop}(hs:s.size≤1000000) (he:hJ h=true) (hn:n=1∨n=2) (hK:K (Dm h) (af h .dead)):bT env (.func 106) [.string fn,.string s,.int .i64 k1,.int .i64 k2,.iface 188 (.int .i64 n)] h K:=by
 refine lu (b:=true) (v:=Dm h) (g:=toErrG) (base:=Wa) rfl ?_ hK;have:(Nat.ble s.size 1000000&&hJ h&&(decide (n=1) || decide (n=2)))=true:=by rw[ble_eq,he,decide_eq_true hs];rcases hn with rfl|rfl<;>rfl
 show cond (Nat.ble s.size 1000000&&hJ h&&(decide (n=1) || decide (n=2))) _ _=_;rw[this];rfl
theorem HA:dN env .neq 58 (.iface 188 (.int .i64 1)) .nilIface=some (.bool true):=by kernel_rfl
theorem H7:dN env .neq 58 (.iface 188 (.int .i64 2)) .nilIface=some (.bool true):=by kernel_rfl
theorem RV {c:Bool}{v:Value}{K:Value→Prop}(hv:Na v):cd env .neq 58 c v .nilIface K=K (.bool true):=by
 obtain⟨n,hn,rfl⟩:=hv;rcases hn with rfl|rfl;·simp only[cd,HA,aU]
 ·simp only[cd,H7,aU]
theorem Jh {l:List UInt8}{h:Heap}{K:Value→Heap→Prop}(gk:rW h) (hn:l.length≤500000) (hK:∀ (u:Nat) v h',u<1099511627776→ai h.n h h'→K (.tuple #[.int .u64 u,v]) h') :
  bT env (.func 77) [.string ⟨l.toArray⟩,.int .i64 10,.int .i64 40] h K:=by
 refine F77 rfl ?_
 simp -dsimp only[↓WB,↓Xd,WP,ae,Nat.reduceEqDiff,Nat.reduceAdd]
 refine C0 hn (fun u h' hu X=>?_) fun u v h' hu hv X=>?_
 ·simp -dsimp only[↓WB,↓Xd,WP,ae,Nat.reduceEqDiff,Nat.reduceAdd,F8];exact hK u _ h' hu X
 ·have hb:=fun c K=>RV (c:=c) (K:=K) hv;have hv':=hv;obtain⟨n,hn12,rfl⟩:=hv;have n1:=X.n;have gk':=gk.ext (B:=h.n) gk.n X;simp -dsimp only[↓WB,↓Xd,WP,ae,Nat.reduceEqDiff,Nat.reduceAdd,hb];refine toErr_ret (by rw[ak];omega) gk'.e hn12 ?_;simp -dsimp only[↓WB,↓Xd,WP,ae,Nat.reduceEqDiff,Nat.reduceAdd];exact hK u _ _ hu (X.trans (ai.new _ n1))
theorem EN {l:List UInt8}{h:Heap}{K:Value→Heap→Prop}(gk:rW h) (hn:l.length≤500000) (hK:∀ (u:Nat) v h',u<1099511627776→(∀ n:Int,0≤n→n≤4294967296→l=Lib.itoa n→(u:Int)=n)→ai h.n h h'→K (.tuple #[.int .u64 u,v]) h') :
  bT env (.func 77) [.string ⟨l.toArray⟩,.int .i64 10,.int .i64 40] h K:=by
 by_cases hx:∃ m:Nat,m≤4294967296∧l=Lib.decDigits m
 ·obtain⟨m,hm,rfl⟩:=hx;have hd:=gq m m (Nat.le_refl _);have hl:=sn (u:=m) (by omega);refine HQ hd (gD m) (by omega) (by omega) fun h' X=>hK m _ h' (by omega) (fun n h0 h1 e=>?_) X;obtain⟨k,rfl⟩:=Int.eq_ofNat_of_zero_le h0;rw[Lib.itoa_nonneg]at e;have e2:=gq k k (Nat.le_refl _);rw[← e,hd]at e2;simp only[Option.some.injEq]at e2;omega
 ·refine Jh gk hn fun u v h' hu X=>hK u v h' hu (fun n h0 h1 e=>?_) X;obtain⟨k,rfl⟩:=Int.eq_ofNat_of_zero_le h0;rw[Lib.itoa_nonneg]at e;exact absurd ⟨k,by omega,e⟩ hx
theorem Dv {c:Nat→Int}{pv:Value}{k:Nat}(hk:k<14) {v:Int}:(br c pv).set k (.int (if k<10 then .i64 else .u64) v)=br (fun i=>if i=k then v else c i) pv:=by rcases k with _|_|_|_|_|_|_|_|_|_|_|_|_|_|k;all_goals first
  | rfl
  | omega
theorem NW {c:Nat→Int}{pv av:Value}{k:Nat}(hk:k<14) {v:Int}:(aV c pv av).set k (.int (if k<10 then .i64 else .u64) v)=aV (fun i=>if i=k then v else c i) pv av:=by unfold aV;rw[List.set_append,if_pos (by show k<15;omega),Dv hk]
theorem RD {b k:Nat}{c:Nat→Int}{pa aa:Option Addr}{pn pc an ac:Nat}{w:List UInt8}{h:Heap}{K:Value→Heap→Prop}(gk:rW h) (hw:w.length≤500000) (hk:k<14) (bx:dm h b (aV c (.slice pa pn pc) (.slice aa an ac)) 28)
  (hK:∀ v r h' h2,0≤v→v<1099511627776→(∀ n:Int,0≤n→n≤4294967296→w=Lib.itoa n→v=n)→ai h.n h h'→h2=({ h' with b:=h'.b.set b (.cells (aV (fun i=>if i=k then v else c i) (.slice pa pn pc) (.slice aa an ac)) 28 true) }:Heap)→K r h2):bT env (.func 43) [.iface (Dc k) (.pointer (some ⟨b,k,none⟩)),aq w] h K:=by
 refine F43 rfl ?_
 unfold aq
 simp -dsimp only[↓WB,↓UX,↓T2,WP,ae,Nat.reduceEqDiff,Nat.reduceAdd]
 refine EN gk hw fun u v h1 hu hx X1=>?_
 have bx1:=bx.ext X1 bx.lt
 have hlen:(aV c (.slice pa pn pc) (.slice aa an ac)).length=16:=rfl
 have hset:=NW (c:=c) (pv:=.slice pa pn pc) (av:=.slice aa an ac) hk (v:=(u:Int))
 by_cases h10:k<10
 ·rw[MN h10];rw[if_pos h10]at hset;have w1:IntKind.wrap .i64 (u:Int)=(u:Int):=wrap_i64 (by omega) (by omega);simp -dsimp only[↓WB,↓W43,WP,ae,Nat.reduceEqDiff,Nat.reduceAdd,w1,tas];refine bN (off:=k) (cs':=(aV c (.slice pa pn pc) (.slice aa an ac)).set k (.int .i64 (u:Int))) bx1.get rfl rfl (kC (by omega)) rfl (by decide) ?_;rw[hset];simp -dsimp only[↓WB,↓W43,WP,ae,Nat.reduceEqDiff,Nat.reduceAdd,w1];exact hK u _ h1 _ (by omega) (by omega) hx X1 rfl
 ·rw[Nk h10];rw[if_neg h10]at hset;simp -dsimp only[↓WB,↓W43,WP,ae,Nat.reduceEqDiff,Nat.reduceAdd,tas];refine bN (off:=k) (cs':=(aV c (.slice pa pn pc) (.slice aa an ac)).set k (.int .u64 (u:Int))) bx1.get rfl rfl (kC (by omega)) rfl (by decide) ?_;rw[hset];simp -dsimp only[↓WB,↓W43,WP,ae,Nat.reduceEqDiff,Nat.reduceAdd];exact hK u _ h1 _ (by omega) (by omega) hx X1 rfl
abbrev d_:Value:=.slice none 0 0
structure xw (B1 b:Nat) (h3 h':Heap) (s:St) (av qv:Value):Prop where
 n:h3.n≤h'.n
 f:∀ i,i<B1→i≠b→h'.b.get i=h3.b.get i
 bx:dm h' b (aV s.c d_ av) 28
 A:bn B1 h' 35 av s.A.length (s.A.map ba.cells).flatten
 A0:s.A.length=0→av=d_
 Q:bn B1 h' 9 qv s.Q.length (s.Q.map aq)
 Q0:s.Q.length=0→qv=d_
section
variable {B1 b:Nat}{h3 h' h2:Heap}{s:St}{av qv av' qv':Value}
theorem xw.ext (x:xw B1 b h3 h' s av qv) (hB:B1≤h3.n) (hb:b<B1) (X:ai h'.n h' h2):xw B1 b h3 h2 s av qv:=by have n:=x.n;exact⟨Nat.le_trans n X.n,fun i hi hne=>(X.get i (by omega)).trans (x.f i hi hne),x.bx.ext X (by omega),x.A.ext X (Nat.le_refl _),x.A0,x.Q.ext X (Nat.le_refl _),x.Q0⟩
theorem xw.US {a:ba}(x:xw B1 b h3 h' s av qv) (hB:B1≤h3.n) (hb:b<B1) (O:bn B1 h2 35 av' (s.A.length+1) ((s.A.map ba.cells).flatten++a.cells)) (hn:h'.n≤h2.n) (hf:∀ j,j<h'.n→yg av j→h2.b.get j=h'.b.get j) :
  xw B1 b h3 { h2 with b:=h2.b.set b (.cells (aV s.c d_ av') 28 true) } { s with A:=s.A++[a] } av' qv:=by
 have n:=x.n
 have hold:∀ i,i<B1→h2.b.get i=h'.b.get i:=fun i hi=>hf i (by omega) (qz x.A x.A0 hi)
 refine⟨Nat.le_trans n hn,fun i hi hne=>?_,⟨Nat.lt_of_lt_of_le x.bx.lt hn,T.get_set_same _ _ _⟩,?_,fun h=>?_,?_,x.Q0⟩
 ·show (h2.b.set b _).get i=_;rw[T.ar _ _ (Ne.symm hne),hold i hi];exact x.f i hi hne
 ·have:((s.A++[a]).map ba.cells).flatten=(s.A.map ba.cells).flatten++a.cells:=by simp
  rw[this,List.length_append];exact fu O hb
 ·simp at h
 ·exact fu (uz x.Q x.A (by decide) x.A0 hn hf) hb
theorem xw.Yq (x:xw B1 b h3 h' s av qv) (hB:B1≤h3.n) (hb:b<B1) (O:bn B1 h2 9 qv' (s.Q.length+1) (s.Q.map aq++[aq []])) (hn:h'.n≤h2.n) (hf:∀ j,j<h'.n→yg qv j→h2.b.get j=h'.b.get j) :
  xw B1 b h3 h2 { s with Q:=s.Q++[[]] } av qv':=by
 have n:=x.n
 have hold:∀ i,i<B1→h2.b.get i=h'.b.get i:=fun i hi=>hf i (by omega) (qz x.Q x.Q0 hi)
 refine⟨Nat.le_trans n hn,fun i hi hne=>(hold i hi).trans (x.f i hi hne),⟨Nat.lt_of_lt_of_le x.bx.lt hn,(hold b hb).trans x.bx.get⟩,uz x.A x.Q (by decide) x.Q0 hn hf,x.A0,?_,fun h=>by simp at h⟩
 rw[List.map_append,List.length_append];exact O
theorem xw.setC (x:xw B1 b h3 h' s av qv) (hb:b<B1) (k:Nat) (v:Int):xw B1 b h3 { h' with b:=h'.b.set b (.cells (aV (s.set k v).c d_ av) 28 true) } (s.set k v) av qv:=by refine⟨x.n,fun i hi hne=>?_,x.bx.set,fu x.A hb,x.A0,fu x.Q hb,x.Q0⟩;show (h'.b.set b _).get i=_;rw[T.ar _ _ (Ne.symm hne)];exact x.f i hi hne
theorem Hy {B i:Nat}{h:Heap}{e e':TypeId}{v:Value}{n:Nat}{cs cs0 cs':List Value}(o:bn B h e v n cs) (hi:h.b.get i=some (.cells cs0 e' false)) (hne:e≠e'):bn B { h with b:=h.b.set i (.cells cs' e' false) } e v n cs:=by
 cases o with
 | nil=>exact .nil
 | emp j hj=>exact .emp j hj
 | row j n cs h1 h2 h3 =>
   refine .row j n cs h1 h2 ?_
   show T.get (T.set h.b i _) j=_
   rw[T.ar _ _ (fun e2=>?_)]
   · exact h3
   · subst e2;rw[hi]at h3;simp only[Option.some.injEq,fa.cells.injEq]at h3;exact hne h3.2.1.symm
theorem xw.Yv (x:xw B1 b h3 h' s av qv) {Q':List (List UInt8)}{q:List UInt8}(hq:s.Q=Q'++[q]):∃ i,qv=.slice (some ⟨i,0,none⟩) (Q'.length+1) cY∧B1≤i∧i<h'.n∧h'.b.get i=some (.cells (Q'.map aq++[aq q]) 9 false):=by
 have hl:s.Q.length=Q'.length+1:=by rw[hq];simp
 have hm:s.Q.map aq=Q'.map aq++[aq q]:=by rw[hq];simp
 have o:=x.Q;rw[hl,hm]at o;generalize hn:Q'.length+1=n at o;generalize hc:Q'.map aq++[aq q]=cs at o ⊢;cases o with
 | emp i hi=>simp at hc
 | row i n cs h1 h2 h3=>exact⟨i,rfl,h1,h2,h3⟩
 | nil=>omega
theorem xw.setQ (x:xw B1 b h3 h' s av qv) (hb:b<B1) {Q':List (List UInt8)}{q q2:List UInt8}{i:Nat}(hq:s.Q=Q'++[q]) (hv:qv=.slice (some ⟨i,0,none⟩) (Q'.length+1) cY) (hi:B1≤i) (hin:i<h'.n) (hg:h'.b.get i=some (.cells (Q'.map aq++[aq q]) 9 false)) :
  xw B1 b h3 { h' with b:=h'.b.set i (.cells (Q'.map aq++[aq q2]) 9 false) } { s with Q:=Q'++[q2] } av qv:=by
 refine⟨x.n,fun j hj hne=>?_,x.bx.setOther (by omega),Hy x.A hg (by decide),x.A0,?_,fun h=>by simp at h⟩
 ·show (h'.b.set i _).get j=_;rw[T.ar _ _ (by omega)];exact x.f j hj hne
 ·rw[hv,List.map_append,List.length_append];exact .row i _ _ hi hin (T.get_set_same _ _ _)
end
theorem vl {s p:List UInt8}{h:Heap}{K:Value→Heap→Prop}(hK:K (.bool (Lib.hasPrefix s p)) h):bT env (.func 41) [aq s,aq p] h K :=
 i_ (g:=LV) (base:=WN) rfl rfl hK
theorem He {l:List UInt8}:Lib.hasPrefix l [32]=true↔∃ r,l=32::r:=by
 unfold Lib.hasPrefix;cases l with
 | nil=>simp
 | cons x l =>
   simp only[List.isPrefixOf,Bool.and_true,beq_iff_eq,List.cons.injEq]
   constructor
   · rintro rfl;exact⟨l,rfl,rfl⟩
   · rintro⟨r,rfl,_⟩;rfl
theorem YO {t:TypeId}{v:Value}(ht:t=106∨t=107):∀ {a:Addr},v=.pointer (some a)→dN env .neq 20 (.iface t v) .nilIface=some (.bool true):=by rintro a rfl;rcases ht with rfl|rfl<;>rfl
open Go.Ev
set_option maxRecDepth 100000
set_option maxHeartbeats 1000000
theorem HE {cs:List Value}{a b:Value}:over (cs++[a]) cs.length [b]=some (cs++[b]):=by rw[kC (by simp),List.set_append_right _ _ (Nat.le_refl _)];simp
theorem KG {B1 b mb j:Nat}{l:List UInt8}{h3 h':Heap}{s:St}{av qv:Value}{fr:Fr}{Q:Ex→Fr→Heap→Prop}(hB:B1≤h3.n) (hb:b<B1) (x:xw B1 b h3 h' s av qv) (gk:rW h') (R:FP h' j (aZ 32 l)) (hl:l.length≤500000) (hsz:s.A.length+s.Q.length≤500000) (hqs:∀ q∈s.Q,q.length≤500000)
   (hm:h'.b.get mb=some (.smap (eJ b))) (Aq:mb<h'.n)
   (f2:fr.get 2=some (.pointer (some ⟨b,0,none⟩))) (f4:fr.get 4=some (.map (some mb))) (f5:fr.get 5=some qv) (f7:fr.get 7=some (aq l)) (f8:fr.get 8=some (.slice (some ⟨j,0,none⟩) (aZ 32 l).length (aZ 32 l).length)) (f9:fr.get 9=some (.int .i64 ((s.Q.length:Int)-1)))
   (c1:∀ fr' h2 s' av' qv',Step l s s'→xw B1 b h3 h2 s' av' qv'→fr'.get 5=some qv'→(∀ t,t=0∨t=2∨t=4∨t=19∨t=20∨t=21→fr'.get t=fr.get t)→Q .normal fr' h2)
   (c2:Stop l s→∀ fr',fr'.get 5=some qv→(∀ t,t=0∨t=2∨t=4∨t=19∨t=20∨t=21→fr'.get t=fr.get t)→Q (.exit 0) fr' h'):Ee.wp env 129 none fr h' Q:=by
 have n:=x.n
 have g2:=aj f2
 have g4:=aj f4
 have g5:=aj f5
 have g7:=aj f7
 have g8:=aj f8
 have g9:=aj f9
 unfold aq at g7
 have hfl:=mo 32 l
 have hfm:∀ w∈aZ 32 l,w.length≤l.length:=fun w hw=>fv hw
 obtain⟨w,f',hf⟩:∃ w f',aZ 32 l=w::f':=by
   cases hc:aZ 32 l with
   | nil=>exact absurd hc (lT 32 l)
   | cons w f'=>exact⟨w,f',rfl⟩
 have hfpos:0<(aZ 32 l).length:=by rw[hf];simp
 have c0:=R.at_ 0 hfpos
 simp only[hf,List.getElem_cons_zero]at c0
 unfold aq at c0
 obtain⟨aa,ac,ea⟩:=gm x.A
 subst ea
 have d15:=x.bx.kW
 by_cases hp:l=dM
 · have e1:((⟨l.toArray⟩:ByteArray)=⟨⟨[112,114,111,103,114,97,109]⟩⟩)=True:=eq_true (by rw[hp];rfl);(with_reducible repeat' (first|refine y8 ?_|simp -dsimp only[↓WB,↓tR,WP,ae,Nat.reduceEqDiff,Nat.reduceAdd,↓g2,↓g4,↓g5,↓g7,↓g8,↓g9,e1]));refine dQ (new:=[aq []]) x.Q (by omega) (by simp) (by omega) rfl rfl (by decide) rfl fun v' h2 O2 X2 n2 f2'=>?_;simp -dsimp only[↓WB,↓tR,WP,ae,Nat.reduceEqDiff,Nat.reduceAdd,↓g2,↓g4,↓g5,↓g7,↓g8,↓g9];exact c1 _ _ _ _ _ (.prog hp) (x.Yq hB hb O2 (by omega) f2') (by simp[T.ah]) (by intro t ht;rcases ht with rfl|rfl|rfl|rfl|rfl|rfl<;>simp[T.ah])
 have e1:¬((⟨l.toArray⟩:ByteArray)=⟨⟨[112,114,111,103,114,97,109]⟩⟩):=fun e=>hp (str_inj.1 e)
 by_cases hind:(∃ r,l=32::r)∧s.Q≠[]
 · obtain⟨⟨r,hr⟩,hq⟩:=hind;obtain⟨Q',q,hQ⟩:∃ Q' q,s.Q=Q'++[q]:=⟨s.Q.dropLast,s.Q.getLast hq,(List.dropLast_concat_getLast hq).symm⟩;obtain⟨i,rfl,hi1,hi2,hi3⟩:=x.Yv hQ;have hql:s.Q.length=Q'.length+1:=by rw[hQ];simp
   have hqq:=hqs q (by rw[hQ];simp);have g9':((s.Q.length:Int)-1)=(Q'.length:Int):=by omega
   rw[g9']at g9;have hpre:=He.2 ⟨r,hr⟩;have cq:cellAt h' ⟨i,Q'.length,none⟩=some (aq q):=bQ hi2 hi3 (by rw[List.getElem?_append_right (by simp)];simp);unfold aq at cq;simp -dsimp only[↓WB,↓tR,WP,ae,Nat.reduceEqDiff,Nat.reduceAdd,↓g2,↓g4,↓g5,↓g7,↓g8,↓g9,e1];refine vl (s:=l) (p:=[32]) ?_;rw[hpre];(with_reducible repeat' (first|refine y1 ?_|refine y4 ?_|simp -dsimp only[↓WB,↓tR,WP,ae,Nat.reduceEqDiff,Nat.reduceAdd,↓g2,↓g4,↓g5,↓g7,↓g8,↓g9,Nat.zero_add,Nat.mul_one,cq]));refine pL (lo:=1) iV (by rw[hr];simp) ?_;have hd:l.drop 1=r:=by rw[hr];rfl
   have hrl:r.length≤500000:=by rw[hr]at hl;simp at hl;omega
   rw[hd];have hend:∀ l:List UInt8,(⟨l.toArray⟩:ByteArray)++⟨⟨[10]⟩⟩=⟨(cL l).toArray⟩:=fun l=>aY l [10];have s10:(⟨⟨[10]⟩⟩:ByteArray).size=1:=rfl;(with_reducible repeat' (first|refine y4 ?_|refine y5 ?_|simp -dsimp only[↓WB,↓tR,WP,ae,Nat.reduceEqDiff,Nat.reduceAdd,↓g2,↓g4,↓g5,↓g7,↓g8,↓g9,Nat.zero_add,Nat.mul_one,cq,hend,ak,s10,aY,jy]));refine bN (off:=Q'.length) (cs':=Q'.map aq++[aq (q++cL r)]) hi3 rfl rfl ?_ rfl (by decide) ?_;· have:=HE (cs:=Q'.map aq) (a:=aq q) (b:=aq (q++cL r));rw[List.length_map]at this;exact this
   simp -dsimp only[↓WB,↓tR,WP,ae,Nat.reduceEqDiff,Nat.reduceAdd,↓g2,↓g4,↓g5,↓g7,↓g8,↓g9];exact c1 _ _ _ _ _ (.ind r q Q' hr hQ) (x.setQ hb hQ rfl hi1 hi2 hi3) (by simp[T.ah,f5]) (by intro t ht;rcases ht with rfl|rfl|rfl|rfl|rfl|rfl<;>simp[T.ah])
 have tail:∀ fr':Fr,fr'.get 36=some (.bool false)→(∀ t,t≤9∨t=19∨t=20∨t=21→fr'.get t=fr.get t)→EH.wp env 129 none fr' h' (iM 2 Q):=by
   intro fr' p36 pall;have k36:=aj p36;have g2:=aj ((pall 2 (by omega)).trans f2);have g4:=aj ((pall 4 (by omega)).trans f4);have g5:=aj ((pall 5 (by omega)).trans f5);have g7:=aj ((pall 7 (by omega)).trans f7);have g8:=aj ((pall 8 (by omega)).trans f8);have g9:=aj ((pall 9 (by omega)).trans f9);unfold aq at g7;have fx:∀ t,t=0∨t=2∨t=4∨t=19∨t=20∨t=21→fr'.get t=fr.get t:=fun t ht=>pall t (by omega);have p5:fr'.get 5=some qv:=(pall 5 (by omega)).trans f5;by_cases hc:l=gy;· have e2:((⟨l.toArray⟩:ByteArray)=⟨⟨[99,108,111,99,107]⟩⟩)=True:=eq_true (by rw[hc];rfl);(with_reducible repeat' (first|refine y8 ?_|refine y9 ?_|simp -dsimp only[↓WB,↓tR,WP,ae,Nat.reduceEqDiff,Nat.reduceAdd,↓k36,↓g2,↓g4,↓g5,↓g7,↓g8,↓g9,e2,d15.2.2.2]));refine dQ (new:=(⟨2,0,0,0⟩:ba).cells) x.A (by omega) (qQ _) (by omega) rfl rfl (by decide) rfl fun v' h2 O2 X2 n2 f2'=>?_;obtain⟨ub,uc,rfl⟩:=gm O2;have hb2:h2.b.get b=h'.b.get b:=f2' b (by omega) (qz x.A x.A0 hb);have V2:dm h2 b (aV s.c d_ (.slice aa s.A.length ac)) 28:=⟨Nat.lt_of_lt_of_le x.bx.lt (by omega),by rw[hb2];exact x.bx.get⟩;simp -dsimp only[↓WB,↓tR,WP,ae,Nat.reduceEqDiff,Nat.reduceAdd,↓k36,↓g2,↓g4,↓g5,↓g7,↓g8,↓g9];refine bN (off:=15) (cs':=aV s.c d_ (.slice ub (s.A.length+1) uc)) V2.get rfl rfl rfl rfl (by decide) ?_;simp -dsimp only[↓WB,↓tR,WP,ae,Nat.reduceEqDiff,Nat.reduceAdd,↓k36,↓g2,↓g4,↓g5,↓g7,↓g8,↓g9];exact c1 _ _ _ _ _ (.clock hc) (x.US hB hb O2 (by omega) f2') (by simp[T.ah,p5]) (fun t ht=>by rw[← fx t ht];rcases ht with rfl|rfl|rfl|rfl|rfl|rfl<;>simp[T.ah])
   have e2:¬((⟨l.toArray⟩:ByteArray)=⟨⟨[99,108,111,99,107]⟩⟩):=fun e=>hc (str_inj.1 e);by_cases hr:w=jZ
   · have e3:((⟨w.toArray⟩:ByteArray)=⟨⟨[114,117,110]⟩⟩)=True:=eq_true (by rw[hr];rfl);have hhd:(aZ 32 l).head?=some jZ:=by rw[hf,hr];rfl
     (with_reducible repeat' (first|refine y4 ?_|simp -dsimp only[↓WB,↓tR,WP,ae,Nat.reduceEqDiff,Nat.reduceAdd,↓k36,↓g2,↓g4,↓g5,↓g7,↓g8,↓g9,e2,Nat.zero_add,Nat.zero_mul,c0,e3,d15.2.2.2]));refine RY gk R (fun w hw=>by have:=hfm w hw;omega) fun h4 X4=>?_;have x4:=x.ext hB hb X4;have n4:=X4.n;have d4:=x4.bx.kW;refine⟨n4,?_,?_⟩;· simp -dsimp only[↓WB,↓tR,WP,ae,Nat.reduceEqDiff,Nat.reduceAdd,↓k36,↓g2,↓g4,↓g5,↓g7,↓g8,↓g9,d4.2.2.2];all_goals exact rB x4.A
     (with_reducible repeat' (first|refine y5 ?_|refine y8 ?_|simp -dsimp only[↓WB,↓tR,WP,ae,Nat.reduceEqDiff,Nat.reduceAdd,↓k36,↓g2,↓g4,↓g5,↓g7,↓g8,↓g9,d4.2.2.2]));refine dQ (new:=(kP (aZ 32 l)).cells) x4.A (by omega) (qQ _) (by omega) rfl rfl (by decide) rfl fun v' h2 O2 X2 n2 f2'=>?_;obtain⟨ub,uc,rfl⟩:=gm O2;have hb2:h2.b.get b=h4.b.get b:=f2' b (by omega) (qz x4.A x4.A0 hb);have V2:dm h2 b (aV s.c d_ (.slice aa s.A.length ac)) 28:=⟨Nat.lt_of_lt_of_le x4.bx.lt (by omega),by rw[hb2];exact x4.bx.get⟩;(with_reducible repeat' (first|refine y5 ?_|simp -dsimp only[↓WB,↓tR,WP,ae,Nat.reduceEqDiff,Nat.reduceAdd,↓k36,↓g2,↓g4,↓g5,↓g7,↓g8,↓g9]));refine bN (off:=15) (cs':=aV s.c d_ (.slice ub (s.A.length+1) uc)) V2.get rfl rfl rfl rfl (by decide) ?_;simp -dsimp only[↓WB,↓tR,WP,ae,Nat.reduceEqDiff,Nat.reduceAdd,↓k36,↓g2,↓g4,↓g5,↓g7,↓g8,↓g9];exact c1 _ _ _ _ _ (.run hhd) (x4.US hB hb O2 (by omega) f2') (by simp[T.ah,p5]) (fun t ht=>by rw[← fx t ht];rcases ht with rfl|rfl|rfl|rfl|rfl|rfl<;>simp[T.ah])
   have e3:¬((⟨w.toArray⟩:ByteArray)=⟨⟨[114,117,110]⟩⟩):=fun e=>hr (str_inj.1 e);have hstop:(∀ k w,k<14→aZ 32 l≠[aM.getD k [],w])→Stop l s:=fun h=>⟨hp,fun r e=>Classical.byContradiction fun hq=>hind ⟨⟨r,e⟩,hq⟩,hc,fun e=>by rw[hf]at e;simp only[List.head?_cons,Option.some.injEq]at e;exact hr e,h⟩;have fin2:∀ {fr2:Fr},(∀ t,t≤21→fr2.get t=fr'.get t)→(∀ k w,k<14→aZ 32 l≠[aM.getD k [],w])→Q (.exit 0) fr2 h':=fun {fr2} q h=>c2 (hstop h) fr2 ((q 5 (by omega)).trans p5) fun t ht=>(q t (by omega)).trans (fx t ht);(with_reducible repeat' (first|refine y4 ?_|simp -dsimp only[↓WB,↓iN,↓fV,↓iL,↓fh,↓iu,↓iI,↓eo,↓iJ,↓eO,↓fC,↓dU,↓fz,WP,ae,Nat.reduceEqDiff,Nat.reduceAdd,↓k36,↓g2,↓g4,↓g5,↓g7,↓g8,↓g9,e2,Nat.zero_add,Nat.zero_mul,c0,e3]));refine FC (w:=w) (i:=b) Aq hm (fun k hk ek=>?_) (fun hnw=>?_)
   · have hk14:k<14:=hk;have eb:∀ (c:Bool) (K:Value→Prop),cd env .neq 20 c (.iface (Dc k) (.pointer (some ⟨b,k,none⟩))) .nilIface K=K (.bool true):=fun c K=>by
       have ht:Dc k=106∨Dc k=107:=by unfold Dc;split<;>simp
       simp only[cd,YO ht rfl,aU]
     by_cases h2l:(aZ 32 l).length=2
     · obtain⟨w2,rfl⟩:∃ w2,f'=[w2]:=by
         rw[hf]at h2l;cases f' with
         | nil=>simp at h2l
         | cons w2 f''=>cases f'' with
           | nil=>exact⟨w2,rfl⟩
           | cons=>simp at h2l
       have c1':=R.at_ 1 (by omega);simp only[hf,List.getElem_cons_succ,List.getElem_cons_zero]at c1';unfold aq at c1';have hw2:=hfm w2 (by rw[hf];simp);have h2i:((aZ 32 l).length:Int)=2:=by omega
       (with_reducible repeat' (first|refine y4 ?_|simp -dsimp only[↓WB,↓tR,WP,ae,Nat.reduceEqDiff,Nat.reduceAdd,↓k36,↓g2,↓g4,↓g5,↓g7,↓g8,↓g9,eb,h2i,Nat.zero_add,Nat.zero_mul,Nat.mul_one,toNat1,c0,c1']));refine FC (w:=w) (i:=b) Aq hm (fun k' hk' ek'=>?_) (fun e=>absurd (ek▸List.getElem_mem hk) e);have hkk:k=k':=tM hk hk' (ek.symm.trans ek');subst hkk;(with_reducible repeat' (first|refine y4 ?_|refine y5 ?_|simp -dsimp only[↓WB,↓tR,WP,ae,Nat.reduceEqDiff,Nat.reduceAdd,↓k36,↓g2,↓g4,↓g5,↓g7,↓g8,↓g9,eb,h2i,Nat.zero_add,Nat.zero_mul,Nat.mul_one,toNat1,c0,c1']));refine RD (w:=w2) gk (by omega) hk14 x.bx fun v r h4 h5 v0 v1 hv X4 e5=>?_;subst e5;have n4:=X4.n;(with_reducible repeat' (first|refine y5 ?_|simp -dsimp only[↓WB,↓tR,WP,ae,Nat.reduceEqDiff,Nat.reduceAdd,↓k36,↓g2,↓g4,↓g5,↓g7,↓g8,↓g9]));refine c1 _ _ (s.set k v) _ _ (.set k w2 v hk14 ?_ v0 v1 hv) ((x.ext hB hb X4).setC hb k v) (by simp[T.ah,p5]) (fun t ht=>by rw[← fx t ht];rcases ht with rfl|rfl|rfl|rfl|rfl|rfl<;>simp[T.ah]);rw[hf,ke hk,ek]
     · have h2i:¬((aZ 32 l).length:Int)=2:=by omega
       simp -dsimp only[↓WB,↓tR,WP,ae,Nat.reduceEqDiff,Nat.reduceAdd,↓k36,↓g2,↓g4,↓g5,↓g7,↓g8,↓g9,eb,h2i];refine fin2 (fun t ht=>by repeat rw[T.ar _ _ (by omega)]) fun k w2 hk14 e=>h2l (by rw[e];rfl)
   · have en:∀ (x:Operand) (K:Value→Prop),cd env .neq 20 (isConst x || isConst (.const .nilIface)) .nilIface .nilIface K=K (.bool false):=fun x K=>by
       have:dN env .neq 20 .nilIface .nilIface=some (.bool false):=by kernel_rfl
       simp only[cd,this,aU,isConst,Bool.or_true,true_and]
     simp -dsimp only[↓WB,↓tR,WP,ae,Nat.reduceEqDiff,Nat.reduceAdd,↓k36,↓g2,↓g4,↓g5,↓g7,↓g8,↓g9,en];refine fin2 (fun t ht=>by repeat rw[T.ar _ _ (by omega)]) fun k w2 hk14 e=>hnw ?_;rw[hf]at e;simp only[List.cons.injEq]at e;rw[e.1];exact qd hk14
 by_cases hpre:Lib.hasPrefix l [32]=true
 · have hq0:s.Q=[]:=Classical.byContradiction fun hq=>hind ⟨He.1 hpre,hq⟩;have hq1:((s.Q.length:Int)-1) = -1:=by rw[hq0];rfl
   rw[hq1]at g9;simp -dsimp only[↓WB,↓iN,↓fV,↓iL,↓fh,↓iu,↓dD,↓iI,↓iJ,↓eO,↓fC,↓dU,↓fz,WP,ae,Nat.reduceEqDiff,Nat.reduceAdd,↓g2,↓g4,↓g5,↓g7,↓g8,↓g9,e1];refine vl (s:=l) (p:=[32]) ?_;rw[hpre];(with_reducible repeat' (first|refine y2 ?_|simp -dsimp only[↓WB,↓iN,↓fV,↓iL,↓fh,↓iu,↓dD,↓iI,↓iJ,↓eO,↓fC,↓dU,↓fz,WP,ae,Nat.reduceEqDiff,Nat.reduceAdd,↓g2,↓g4,↓g5,↓g7,↓g8,↓g9]));exact tail _ (by simp[T.ah]) (fun t ht=>by repeat rw[T.ar _ _ (by omega)])
 · have hpre':Lib.hasPrefix l [32]=false:=by simpa using hpre
   simp -dsimp only[↓WB,↓iN,↓fV,↓iL,↓fh,↓iu,↓dD,↓iI,↓iJ,↓eO,↓fC,↓dU,↓fz,WP,ae,Nat.reduceEqDiff,Nat.reduceAdd,↓g2,↓g4,↓g5,↓g7,↓g8,↓g9,e1];refine vl (s:=l) (p:=[32]) ?_;rw[hpre'];simp -dsimp only[↓WB,↓iN,↓fV,↓iL,↓fh,↓iu,↓dD,↓iI,↓iJ,↓eO,↓fC,↓dU,↓fz,WP,ae,Nat.reduceEqDiff,Nat.reduceAdd,↓g2,↓g4,↓g5,↓g7,↓g8,↓g9];exact tail _ (by simp[T.ah]) (fun t ht=>by repeat rw[T.ar _ _ (by omega)])
end Go.Proofs.YtohjaacnlmkhbaaGreatDoor
