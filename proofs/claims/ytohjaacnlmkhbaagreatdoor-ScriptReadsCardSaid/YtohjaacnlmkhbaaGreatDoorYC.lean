/- NUMBERS' TEXTS; strings.Builder, walked. Conditions: none beyond each theorem's own. -/
import Derived.Test.YtohjaacnlmkhbaaGreatDoorWA
import Derived.Lib.ItoaLen
set_option linter.unusedSimpArgs false
set_option linter.unusedVariables false
namespace Go.Proofs.YtohjaacnlmkhbaaGreatDoor
open Go.Ev
set_option maxRecDepth 100000
set_option maxHeartbeats 400000
def Ff (u:Nat):Value:=.string ⟨(Lib.decDigits u).toArray⟩
def qX (n:Int):Value:=.string ⟨(Lib.itoa n).toArray⟩
theorem Sb {u:Nat}{h:Heap}{K:Value→Heap→Prop}(hu:u<18446744073709551616) (hK:K (.int .i64 (Lib.bitLen u)) h):bT env (.func 149) [.int .u64 u] h K:=by
 refine i_ (g:=Te) (base:=Ok) rfl ?_ hK;have a0:(0:Int)≤(u:Int):=by omega
 have a1:(u:Int)≤18446744073709551615:=by omega
 simp only[Te,a0,a1,decide_true,Bool.and_self,cond_true,Int.toNat_natCast]
theorem wB {u:Nat}{h:Heap}{K:Value→Heap→Prop}(hu:u<100) (hK:K (Ff u) h):bT env (.func 122) [.int .i64 u] h K:=by
 refine i_ (g:=AX) (base:=JW) rfl ?_ hK;have a0:(0:Int)≤(u:Int):=by omega
 have a1:(u:Int)<100:=by omega
 simp only[AX,a0,a1,decide_true,Bool.and_self,cond_true,Int.toNat_natCast,Ff]
theorem Bb {i off n cap u:Nat}{cs:List Value}{e:TypeId}{h:Heap}{K:Value→Heap→Prop}(hb:h.b.get i=some (.cells cs e true)) (hi:i<h.n)
  (hc:cap<cY) (h1:off+n≤cs.length) (h2:((cs.drop off).take n).all isByte=true) (h3:u<10 ^ n) (h4:u<18446744073709551616) (h5:n<100)
  (q:K (.tuple #[]) { h with b:=h.b.set i (.cells (cs.take off++nB u n++cs.drop (off+n)) e true) }):bT env (.func 124) [.slice (some ⟨i,off,none⟩) n cap,.int .u64 u] h K :=
 FD (base:=EG) (fun _=>rfl) hb hi hc h1 h2 h3 h4 h5 q
theorem qL {B:Nat}{h h':Heap}(hB:2<B) (e:ai B h h') (ht:eK bz h=true):eK bz h'=true:=by simp only[eK,bz,List.all_cons,List.all_nil,Bool.and_true,Bool.and_eq_true]at ht ⊢;rw[e.get 0 (by omega),e.get 2 hB];exact ht
theorem Nh {h:Heap}(ht:eK bz h=true) (hn:2<h.n) {q:Nat}(hq:q<20):cellAt h ⟨2,q,none⟩=some (.int .u64 ((10 ^ q:Nat):Int)):=by
 simp only[eK,bz,List.all_cons,List.all_nil,Bool.and_true,Bool.and_eq_true]at ht;have h2:=ht.2;split at h2
 ·rename_i g hg;have hrow:TG[q]?=some (.int .u64 ((10 ^ q:Nat):Int)):=by
   have:(List.range 20).all (fun q=>match TG[q]? with|some (.int .u64 n)=>decide (n=((10 ^ q:Nat):Int))|_=>false)=true:=by decide +kernel
   have:=List.all_eq_true.1 this q (List.mem_range.2 hq);split at this;·rename_i n e;rw[e,of_decide_eq_true this]
   ·cases this
  have:=oY (i:=0) h2 q _ hrow;rw[Nat.zero_add]at this;have aB:Nat.blt 2 h.n=true:=by rw[blt_eq];exact decide_eq_true hn
  have hb10:Nat.beq 1 0=false:=rfl;simp only[cellAt,ax,hb10,cond_false,aB,cond_true,hg,gR,this]
 ·cases h2
theorem Rw {x:Nat}{h:Heap}{K:Value→Heap→Prop}(hx:x≤64) (hK:K (.int .i64 (Lib.l10 x)) h):bT env (.func 148) [.int .i64 x] h K:=by
 refine F148 rfl ?_;have w1:IntKind.wrap .i64 ((x:Int)*78913)=((x*78913:Nat):Int):=by rw[wrap_i64 (by omega) (by omega)];omega
 have w2:(((x*78913:Nat):Int)).fdiv (2 ^ min (18:Int).toNat IntKind.i64.bits)=(Lib.l10 x:Int):=by
  have:(2:Int) ^ min (18:Int).toNat IntKind.i64.bits=262144:=by decide
  rw[this,Int.fdiv_eq_ediv_of_nonneg _ (by omega)];unfold Lib.l10;omega
 (with_reducible repeat' (first|refine y5 ?_|simp -dsimp only[↓WB,↓W148,WP,ae,Nat.reduceEqDiff,Nat.reduceAdd,w1,w2]));exact hK
theorem zj {b:Bool}{h:Heap}{K:Value→Heap→Prop}(hK:K (.int .i64 (cond b 1 0)) h):bT env (.func 150) [.bool b] h K:=by
 refine F150 rfl ?_;cases b with
 | true=>simp -dsimp only[↓WB,↓XC,WP,ae,Nat.reduceEqDiff,Nat.reduceAdd];exact hK
 | false=>simp -dsimp only[↓WB,↓XC,WP,ae,Nat.reduceEqDiff,Nat.reduceAdd];exact hK
theorem lV {u:Nat}{h:Heap}{K:Value→Heap→Prop}(ht:eK bz h=true) (hn:2<h.n) (h1:1≤u) (h2:u<18446744073709551616) (hK:K (.int .i64 (Lib.nDigits u)) h):bT env (.func 123) [.int .u64 u] h K:=by
 refine F123 rfl ?_;obtain⟨oH,h19⟩:=Lib.numDigits_eq u h1 h2;have hL:Lib.bitLen u≤64:=Lib.bitLen_le u 64 (Nat.le_refl _) h2;have d:=Nh ht hn (q:=Lib.l10 (Lib.bitLen u)) (by omega);generalize hq:Lib.l10 (Lib.bitLen u)=q at oH h19 d;generalize hT:10 ^ q=T at oH d;simp -dsimp only[↓WB,↓NQ,WP,ae,Nat.reduceEqDiff,Nat.reduceAdd];refine Sb h2 ?_;simp -dsimp only[↓WB,↓NQ,WP,ae,Nat.reduceEqDiff,Nat.reduceAdd];refine Rw hL ?_;rw[hq];(with_reducible repeat' (first|refine y3 (fun _=>?_) (fun _=>?_)|refine y4 ?_|simp -dsimp only[↓WB,↓NQ,WP,ae,Nat.reduceEqDiff,Nat.reduceAdd,d,Nat.mul_one,Nat.zero_add]))
 ·refine zj ?_;rw[if_pos (by omega)]at oH;have:IntKind.wrap .i64 ((q:Int)+1)=(Lib.nDigits u:Int):=by rw[wrap_i64 (by omega) (by omega)];omega
  simp -dsimp only[↓WB,↓NQ,WP,ae,Nat.reduceEqDiff,Nat.reduceAdd,cond_true,cond_false,this];exact hK
 ·refine zj ?_;rw[if_neg (by omega)]at oH;have:IntKind.wrap .i64 ((q:Int)+0)=(Lib.nDigits u:Int):=by rw[wrap_i64 (by omega) (by omega)];omega
  simp -dsimp only[↓WB,↓NQ,WP,ae,Nat.reduceEqDiff,Nat.reduceAdd,cond_true,cond_false,this];exact hK
theorem zm:wM env 171=some (24,1):=by kernel_rfl
theorem Hh {u:Nat}(h1:1≤u) (h2:u<18446744073709551616):Lib.nDigits u≤20:=by have:=Lib.numDigits_eq u h1 h2;split at this<;>omega
def zeros24:List Value:=List.replicate 24 (.int .u8 0)
theorem mH (off n:Nat):((zeros24.drop off).take n).all isByte=true:=by rw[List.all_eq_true];intro v hv;have:=List.mem_of_mem_drop (List.mem_of_mem_take hv);rw[List.eq_of_mem_replicate this];rfl
theorem R' {c x:Value}{l:List Value}:over (c::l) 0 [x]=some (x::l):=by rw[over,aD,if_pos rfl];cases l<;>rfl
theorem s_ {h:Heap}{i:Nat}{cs l:List Value}{e:TypeId}{x:Bool}{off n:Nat}(hi:i<h.n) (hl:(cs.drop off).take n=l) (hn:l.length=n):ax { h with b:=h.b.set i (.cells cs e x) } ⟨i,off,none⟩ n=some l :=
 aJ (h:={ h with b:=h.b.set i (.cells cs e x) }) hi (T.get_set_same _ _ _) hl hn
theorem ud {u:Nat}{h:Heap}{K:Value→Heap→Prop}(ht:eK bz h=true) (hn:2<h.n) (h2:u<18446744073709551616) (hK:∀ h',ai h.n h h'→K (Ff u) h'):bT env (.func 92) [.int .u64 u,.int .i64 10] h K:=by
 refine F92 rfl ?_;by_cases hs:u<100;·(with_reducible repeat' (first|refine y1 ?_|simp -dsimp only[↓WB,↓TY,WP,ae,Nat.reduceEqDiff,Nat.reduceAdd]));have w:IntKind.wrap .i64 (u:Int)=(u:Int):=wrap_i64 (by omega) (by omega);rw[w];refine wB hs ?_;simp -dsimp only[↓WB,↓TY,WP,ae,Nat.reduceEqDiff,Nat.reduceAdd];exact hK h (ai.refl _ _)
 ·have h1:1≤u:=by omega
  have h20:=Hh h1 h2;(with_reducible repeat' (first|refine y2 ?_|simp -dsimp only[↓WB,↓TY,WP,ae,Nat.reduceEqDiff,Nat.reduceAdd]));have X1:ai h.n h (af h (.cells zeros24 171 true)):=ai.new _ (Nat.le_refl _);have hb1:(af h (.cells zeros24 171 true)).b.get h.n=some (.cells zeros24 171 true):=aC _ _;have hn1:(af h (.cells zeros24 171 true)).n=h.n+1:=rfl;show bT env (.func 123) [.int .u64 u] (af h (.cells zeros24 171 true)) _;generalize af h (.cells zeros24 171 true)=h1' at X1 hb1 hn1 ⊢;refine lV (qL hn X1 ht) (by omega) h1 h2 ?_;simp -dsimp only[↓WB,↓TY,WP,ae,Nat.reduceEqDiff,Nat.reduceAdd];refine pK zm (by omega) (by decide) (by decide) ?_;simp -dsimp only[↓WB,↓TY,WP,ae,Nat.reduceEqDiff,Nat.reduceAdd];refine Bb hb1 (by omega) (by decide) (by rw[Nat.zero_add];show _≤24;omega) (mH _ _) (AJ u) h2 (by omega) ?_;simp -dsimp only[↓WB,↓TY,WP,ae,Nat.reduceEqDiff,Nat.reduceAdd];refine pK zm (by omega) (by decide) (by decide) ?_;simp -dsimp only[↓WB,↓TY,WP,ae,Nat.reduceEqDiff,Nat.reduceAdd];refine jn (l:=Lib.decDigits u) ?_ ?_
  ·refine s_ (by omega) ?_ ?_;·rw[List.take_zero,List.nil_append,List.drop_zero,List.take_left' (kp _ _),qi]
   ·rw[List.length_map,Lib.decDigits_length]
  ·simp -dsimp only[↓WB,↓TY,WP,ae,Nat.reduceEqDiff,Nat.reduceAdd];exact hK _ (X1.trans (ai.set _ (Nat.le_refl _)))
theorem vJ {u:Nat}{h:Heap}{K:Value→Heap→Prop}(ht:eK bz h=true) (hn:2<h.n) (h2:u<18446744073709551616) (hK:∀ h',ai h.n h h'→K (Ff u) h'):bT env (.func 67) [.int .u64 u,.int .i64 10] h K:=by refine F67 rfl ?_;simp -dsimp only[↓WB,↓W67,WP,ae,Nat.reduceEqDiff,Nat.reduceAdd];refine ud ht hn h2 fun h' X=>?_;unfold Ff;simp -dsimp only[↓WB,↓W67,WP,ae,Nat.reduceEqDiff,Nat.reduceAdd];exact hK h' X
theorem wg {n:Int}{h:Heap}{K:Value→Heap→Prop}(ht:eK bz h=true) (hn:2<h.n) (b0 : -9223372036854775808≤n) (b1:n≤9223372036854775807) (hK:∀ h',ai h.n h h'→K (qX n) h'):bT env (.func 121) [.int .i64 n,.int .i64 10] h K:=by
 refine F121 rfl ?_;by_cases hs:0≤n∧n<100;·obtain⟨u,rfl⟩:=Int.eq_ofNat_of_zero_le hs.1;(with_reducible repeat' (first|refine y1 ?_|simp -dsimp only[↓WB,↓pO,WP,ae,Nat.reduceEqDiff,Nat.reduceAdd]));refine wB (by omega) ?_;unfold Ff;simp -dsimp only[↓WB,↓pO,WP,ae,Nat.reduceEqDiff,Nat.reduceAdd];have:=hK h (ai.refl _ _);unfold qX at this;rw[Lib.itoa_nonneg]at this;exact this
 by_cases hneg:n<0
 ·obtain⟨u,rfl⟩:∃ u:Nat,n = -(u:Int):=⟨n.natAbs,by omega⟩;have h1:1≤u:=by omega
  have h2:u<18446744073709551616:=by omega
  have h20:=Hh h1 h2;have wr:IntKind.wrap .u64 (0-IntKind.wrap .u64 (-(u:Int)))=(u:Int):=by rw[IntKind.wrap_u64,IntKind.wrap_u64];omega
  have w1:IntKind.wrap .i64 (1+(Lib.nDigits u:Int))=((1+Lib.nDigits u:Nat):Int):=by rw[wrap_i64 (by omega) (by omega)];omega
  (with_reducible repeat' (first|refine y1 ?_|refine y2 ?_|simp -dsimp only[↓WB,↓pO,WP,ae,Nat.reduceEqDiff,Nat.reduceAdd,wr]));have X1:ai h.n h (af h (.cells zeros24 171 true)):=ai.new _ (Nat.le_refl _);have hb1:(af h (.cells zeros24 171 true)).b.get h.n=some (.cells zeros24 171 true):=aC _ _;have hn1:(af h (.cells zeros24 171 true)).n=h.n+1:=rfl;show bT env (.func 123) [.int .u64 u] (af h (.cells zeros24 171 true)) _;generalize af h (.cells zeros24 171 true)=h1' at X1 hb1 hn1 ⊢;refine lV (qL hn X1 ht) (by omega) h1 h2 ?_;simp -dsimp only[↓WB,↓pO,WP,ae,Nat.reduceEqDiff,Nat.reduceAdd,wr,w1];refine pI (lo:=1) zm (by omega) (by omega) (by decide) (by decide) ?_;rw[Nat.add_sub_cancel_left];simp -dsimp only[↓WB,↓pO,WP,ae,Nat.reduceEqDiff,Nat.reduceAdd,wr];refine Bb (off:=0+1*1) hb1 (by omega) (by decide) (by show _≤24;omega) (mH _ _) (AJ u) h2 (by omega) ?_;generalize hcs:zeros24.take (0+1*1)++nB u (Lib.nDigits u)++zeros24.drop (0+1*1+Lib.nDigits u)=cs;have hc0:cs=.int .u8 0::(nB u (Lib.nDigits u)++zeros24.drop (0+1*1+Lib.nDigits u)):=by rw[← hcs];rfl
  (with_reducible repeat' (first|refine y1 ?_|refine y4 ?_|simp -dsimp only[↓WB,↓pO,WP,ae,Nat.reduceEqDiff,Nat.reduceAdd,wr]));refine bN (off:=0) (cs':=.int .u8 45::(nB u (Lib.nDigits u)++zeros24.drop (0+1*1+Lib.nDigits u))) (T.get_set_same _ _ _) rfl rfl (by rw[hc0];exact R') rfl (by decide) ?_;simp -dsimp only[↓WB,↓pO,WP,ae,Nat.reduceEqDiff,Nat.reduceAdd,wr,w1];refine pK zm (by omega) (by decide) (by decide) ?_;simp -dsimp only[↓WB,↓pO,WP,ae,Nat.reduceEqDiff,Nat.reduceAdd,wr];refine jn (l:=45::Lib.decDigits u) ?_ ?_
  ·rw[T.set_set];refine s_ (by omega) ?_ ?_;·rw[List.drop_zero,Nat.add_comm,List.take_succ_cons,List.take_left' (kp _ _),qi];rfl
   ·rw[List.length_map,List.length_cons,Lib.decDigits_length,Nat.add_comm]
  ·simp -dsimp only[↓WB,↓pO,WP,ae,Nat.reduceEqDiff,Nat.reduceAdd];have:=hK { h1' with b:=h1'.b.set h.n (.cells (.int .u8 45::(nB u (Lib.nDigits u)++zeros24.drop (0+1*1+Lib.nDigits u))) 171 true) } (X1.trans (ai.set _ (Nat.le_refl _)));unfold qX at this;rw[Lib.itoa_neg u h1]at this;rw[T.set_set];exact this
 ·obtain⟨u,rfl⟩:∃ u:Nat,n=u:=⟨n.toNat,by omega⟩;have h1:1≤u:=by omega
  have h2:u<18446744073709551616:=by omega
  have h20:=Hh h1 h2;have wr:IntKind.wrap .u64 (u:Int)=(u:Int):=by rw[IntKind.wrap_u64];omega
  have w1:IntKind.wrap .i64 (1+(Lib.nDigits u:Int))=((1+Lib.nDigits u:Nat):Int):=by rw[wrap_i64 (by omega) (by omega)];omega
  (with_reducible repeat' (first|refine y1 ?_|refine y2 ?_|simp -dsimp only[↓WB,↓pO,WP,ae,Nat.reduceEqDiff,Nat.reduceAdd,wr]));have X1:ai h.n h (af h (.cells zeros24 171 true)):=ai.new _ (Nat.le_refl _);have hb1:(af h (.cells zeros24 171 true)).b.get h.n=some (.cells zeros24 171 true):=aC _ _;have hn1:(af h (.cells zeros24 171 true)).n=h.n+1:=rfl;show bT env (.func 123) [.int .u64 u] (af h (.cells zeros24 171 true)) _;generalize af h (.cells zeros24 171 true)=h1' at X1 hb1 hn1 ⊢;refine lV (qL hn X1 ht) (by omega) h1 h2 ?_;simp -dsimp only[↓WB,↓pO,WP,ae,Nat.reduceEqDiff,Nat.reduceAdd,wr,w1];refine pI (lo:=1) zm (by omega) (by omega) (by decide) (by decide) ?_;rw[Nat.add_sub_cancel_left];simp -dsimp only[↓WB,↓pO,WP,ae,Nat.reduceEqDiff,Nat.reduceAdd,wr];refine Bb (off:=0+1*1) hb1 (by omega) (by decide) (by show _≤24;omega) (mH _ _) (AJ u) h2 (by omega) ?_;(with_reducible repeat' (first|refine y2 ?_|simp -dsimp only[↓WB,↓pO,WP,ae,Nat.reduceEqDiff,Nat.reduceAdd,wr,w1]));refine pI (lo:=1) zm (by omega) (by omega) (by decide) (by decide) ?_;rw[Nat.add_sub_cancel_left];simp -dsimp only[↓WB,↓pO,WP,ae,Nat.reduceEqDiff,Nat.reduceAdd,wr];refine jn (l:=Lib.decDigits u) ?_ ?_
  ·refine s_ (by omega) ?_ ?_;·show ((Value.int .u8 0::(nB u (Lib.nDigits u)++zeros24.drop (0+1*1+Lib.nDigits u))).drop 1).take _=_;rw[List.drop_succ_cons,List.drop_zero,List.take_left' (kp _ _),qi]
   ·rw[List.length_map,Lib.decDigits_length]
  ·simp -dsimp only[↓WB,↓pO,WP,ae,Nat.reduceEqDiff,Nat.reduceAdd];have:=hK { h1' with b:=h1'.b.set h.n (.cells (zeros24.take (0+1*1)++nB u (Lib.nDigits u)++zeros24.drop (0+1*1+Lib.nDigits u)) 171 true) } (X1.trans (ai.set _ (Nat.le_refl _)));unfold qX at this;rw[Lib.itoa_nonneg]at this;exact this
theorem nQ {n:Int}{h:Heap}{K:Value→Heap→Prop}(ht:eK bz h=true) (hn:2<h.n) (b0 : -9223372036854775808≤n) (b1:n≤9223372036854775807) (hK:∀ h',ai h.n h h'→K (qX n) h'):bT env (.func 66) [.int .i64 n] h K:=by refine F66 rfl ?_;simp -dsimp only[↓WB,↓W66,WP,ae,Nat.reduceEqDiff,Nat.reduceAdd];refine F91 rfl ?_;simp -dsimp only[↓WB,↓W91,WP,ae,Nat.reduceEqDiff,Nat.reduceAdd];refine wg ht hn b0 b1 fun h' X=>?_;unfold qX;simp -dsimp only[↓WB,↓W91,↓W66,WP,ae,Nat.reduceEqDiff,Nat.reduceAdd];exact hK h' X
structure rW (h:Heap):Prop where
 n:5<h.n
 t:eK bz h=true
 i:U' (cellAt h ⟨3,0,none⟩)=true
 e:hJ h=true
theorem pS {B b:Nat}{h h':Heap}(x:ai B h h') (hb:b<B) (hn:b<h.n):cellAt h' ⟨b,0,none⟩=cellAt h ⟨b,0,none⟩:=by
 simp only[cellAt,ax,x.get b hb];have h1:Nat.blt b h.n=true:=by rw[blt_eq];exact decide_eq_true hn
 have h2:Nat.blt b h'.n=true:=by rw[blt_eq];exact decide_eq_true (by have:=x.n;omega)
 rw[h1,h2]
theorem rW.ext {B:Nat}{h h':Heap}(g:rW h) (hB:5<B) (x:ai B h h'):rW h':=by
 have n:=g.n;refine⟨by have:=x.n;omega,qL (by omega) x g.t,?_,?_⟩;·rw[pS x (by omega) (by omega)];exact g.i
 ·have:=g.e;unfold hJ at this ⊢;rw[pS x (by omega) (by omega),pS x (by omega) (by omega)];exact this
def aq (l:List UInt8):Value:=.string ⟨l.toArray⟩
theorem sn {u:Nat}(hu:u<18446744073709551616):(Lib.decDigits u).length≤20:=by
 rw[Lib.decDigits_length];by_cases h:u=0;·subst h;rw[Lib.nDigits_small (by decide)];decide
 ·exact Hh (by omega) hu
theorem rY {d:Nat}(hd:d<10):Value.int .u8 (IntKind.wrap .u8 (IntKind.wrap .u64 (48+(d:Int))))=aw (UInt8.ofNat (48+d)):=by
 have h1:IntKind.wrap .u64 (48+(d:Int))=((48+d:Nat):Int):=by rw[wrap_u64 (by omega) (by omega)];omega
 have h2:IntKind.wrap .u8 ((48+d:Nat):Int)=((48+d:Nat):Int):=wrap_u8 (by omega) (by omega);have h3:(UInt8.ofNat (48+d)).toNat=48+d:=by simp;omega
 rw[h1,h2];unfold aw;rw[h3]
theorem GG:rM env 36 9=true:=by kernel_rfl
theorem ki {d:Nat}{h:Heap}{K:Value→Prop}(hd:d<10) (q:K (aq [UInt8.ofNat (48+d)])) :
  qW (af h (.cells (Value.int .u8 (IntKind.wrap .u8 (IntKind.wrap .u64 (48+(d:Int))))).cells.toList 5 true)) (.slice (some ⟨h.n,0,none⟩) 1 1) K:=by
 refine jn (l:=[UInt8.ofNat (48+d)]) ?_ q
 rw[rY hd]
 exact bA rfl
theorem gU {u:Nat}(h:u<10):Lib.decDigits u=[UInt8.ofNat (48+u)]:=by rw[Lib.decDigits,dif_pos h]
theorem rI {u:Nat}(h:¬u<10):Lib.decDigits u=Lib.decDigits (u / 10)++[UInt8.ofNat (48+u%10)]:=by rw[Lib.decDigits,dif_neg h]
theorem sh:∀ (k:Nat) {u:Nat}{h:Heap}{K:Value→Heap→Prop},u≤k→u<18446744073709551616→(∀ h',ai h.n h h'→K (aq (Lib.decDigits u)) h')→bT env (.func 82) [.int .u64 u] h K:=by
 intro k;induction k with
 | zero =>
   intro u h K hk hu hK
   obtain rfl:u=0:=by omega
   refine F82 rfl ?_
   rw[gU (by decide)]at hK
   (with_reducible repeat' (first|refine y1 ?_|refine y8 ?_|simp -dsimp only[↓WB,↓S2,WP,ae,Nat.reduceEqDiff,Nat.reduceAdd]))
   refine ki (by decide) ?_
   unfold aq at hK ⊢
   simp -dsimp only[↓WB,↓S2,WP,ae,Nat.reduceEqDiff,Nat.reduceAdd]
   exact hK _ (ai.new _ (Nat.le_refl _))
 | succ k ih =>
   intro u h K hk hu hK
   refine F82 rfl ?_
   by_cases h10:u<10
   · rw[gU h10]at hK;(with_reducible repeat' (first|refine y1 ?_|refine y8 ?_|simp -dsimp only[↓WB,↓S2,WP,ae,Nat.reduceEqDiff,Nat.reduceAdd]));refine ki h10 ?_;unfold aq at hK ⊢;simp -dsimp only[↓WB,↓S2,WP,ae,Nat.reduceEqDiff,Nat.reduceAdd];exact hK _ (ai.new _ (Nat.le_refl _))
   · rw[rI h10]at hK;have e1:(u:Int).tmod 10=((u%10:Nat):Int):=rfl;have e2:(u:Int).tdiv 10=((u / 10:Nat):Int):=rfl;have e3:IntKind.wrap .u64 ((u / 10:Nat):Int)=((u / 10:Nat):Int):=wrap_u64 (by omega) (by omega);(with_reducible repeat' (first|refine y2 ?_|refine y5 ?_|refine y8 ?_|simp -dsimp only[↓WB,↓S2,WP,ae,Nat.reduceEqDiff,Nat.reduceAdd,e1,e2,e3]));refine ki (by omega) ?_;(with_reducible repeat' (first|refine y5 ?_|simp -dsimp only[↓WB,↓S2,WP,ae,Nat.reduceEqDiff,Nat.reduceAdd,e1,e2,e3]));refine ih (by omega) (by omega) fun h' X=>?_;have hd:=sn (u:=u / 10) (by omega);unfold aq at hK ⊢;have n1:=X.n;refine⟨n1,?_,?_⟩
     · simp -dsimp only[↓WB,↓S2,WP,ae,Nat.reduceEqDiff,Nat.reduceAdd,BK GG];refine jn (l:=[UInt8.ofNat (48+u%10)]) ?_ ?_;· have hc:=cJ (b:=h.n) (off:=0) (n:=1) X (by simp[af]) (bA (h:=h) (cs:=(Value.int .u8 (IntKind.wrap .u8 (IntKind.wrap .u64 (48+((u%10:Nat):Int))))).cells.toList) (e:=5) (b:=true) rfl);rw[hc,rY (by omega)];rfl
       · simp -dsimp only[↓WB,↓S2,WP,ae,Nat.reduceEqDiff,Nat.reduceAdd,qu,eq_self]
     (with_reducible repeat' (first|refine y5 ?_|simp -dsimp only[↓WB,↓S2,WP,ae,Nat.reduceEqDiff,Nat.reduceAdd,e1,e2,e3,cM,aY,ak]));exact hK _ ((ai.new _ (Nat.le_refl _)).trans (X.mono (by simp[af])))
theorem j_ {n:Int}{h:Heap}{K:Value→Heap→Prop}(b0 : -9223372036854775808≤n) (b1:n≤9223372036854775807) (hK:∀ h',ai h.n h h'→K (aq (Lib.itoa n)) h'):bT env (.func 81) [.int .i64 n] h K:=by
 refine F81 rfl ?_;by_cases hneg:n<0
 ·obtain⟨u,rfl⟩:∃ u:Nat,n = -(u:Int):=⟨n.natAbs,by omega⟩;rw[Lib.itoa_neg u (by omega)]at hK;have w:IntKind.wrap .u64 (IntKind.wrap .u64 (IntKind.wrap .i64 (0-IntKind.wrap .i64 (-(u:Int)+1)))+1)=(u:Int):=by rw[IntKind.wrap_u64,IntKind.wrap_u64,IntKind.wrap_i64,IntKind.wrap_i64];omega
  (with_reducible repeat' (first|refine y1 ?_|simp -dsimp only[↓WB,↓W81,WP,ae,Nat.reduceEqDiff,Nat.reduceAdd,w]));refine sh u (Nat.le_refl _) (by omega) fun h' X=>?_;have hd:=sn (u:=u) (by omega);unfold aq at hK ⊢;(with_reducible repeat' (first|refine y5 ?_|simp -dsimp only[↓WB,↓W81,WP,ae,Nat.reduceEqDiff,Nat.reduceAdd,cM,aY,ak]));exact hK h' X
 ·obtain⟨u,rfl⟩:∃ u:Nat,n=u:=⟨n.toNat,by omega⟩;rw[Lib.itoa_nonneg]at hK;have w:IntKind.wrap .u64 (u:Int)=(u:Int):=by rw[IntKind.wrap_u64];omega
  (with_reducible repeat' (first|refine y2 ?_|simp -dsimp only[↓WB,↓W81,WP,ae,Nat.reduceEqDiff,Nat.reduceAdd,w]));refine sh u (Nat.le_refl _) (by omega) fun h' X=>?_;unfold aq at hK ⊢;simp -dsimp only[↓WB,↓W81,WP,ae,Nat.reduceEqDiff,Nat.reduceAdd];exact hK h' X
theorem zr:∀ (k:Nat) {u:Nat}{h:Heap}{K:Value→Heap→Prop},u≤k→u<18446744073709551616→(∀ h',ai h.n h h'→K (aq (Lib.decDigits u)) h')→bT env (.func 144) [.int .u64 u] h K:=by
 intro k;induction k with
 | zero =>
   intro u h K hk hu hK
   obtain rfl:u=0:=by omega
   refine Yy rfl ?_
   rw[gU (by decide)]at hK
   (with_reducible repeat' (first|refine y1 ?_|refine y8 ?_|simp -dsimp only[↓WB,↓AD,WP,ae,Nat.reduceEqDiff,Nat.reduceAdd]))
   refine ki (by decide) ?_
   unfold aq at hK ⊢
   simp -dsimp only[↓WB,↓AD,WP,ae,Nat.reduceEqDiff,Nat.reduceAdd]
   exact hK _ (ai.new _ (Nat.le_refl _))
 | succ k ih =>
   intro u h K hk hu hK
   refine Yy rfl ?_
   by_cases h10:u<10
   · rw[gU h10]at hK;(with_reducible repeat' (first|refine y1 ?_|refine y8 ?_|simp -dsimp only[↓WB,↓AD,WP,ae,Nat.reduceEqDiff,Nat.reduceAdd]));refine ki h10 ?_;unfold aq at hK ⊢;simp -dsimp only[↓WB,↓AD,WP,ae,Nat.reduceEqDiff,Nat.reduceAdd];exact hK _ (ai.new _ (Nat.le_refl _))
   · rw[rI h10]at hK;have e1:(u:Int).tmod 10=((u%10:Nat):Int):=rfl;have e2:(u:Int).tdiv 10=((u / 10:Nat):Int):=rfl;have e3:IntKind.wrap .u64 ((u / 10:Nat):Int)=((u / 10:Nat):Int):=wrap_u64 (by omega) (by omega);(with_reducible repeat' (first|refine y2 ?_|refine y5 ?_|refine y8 ?_|simp -dsimp only[↓WB,↓AD,WP,ae,Nat.reduceEqDiff,Nat.reduceAdd,e1,e2,e3]));refine ki (by omega) ?_;(with_reducible repeat' (first|refine y5 ?_|simp -dsimp only[↓WB,↓AD,WP,ae,Nat.reduceEqDiff,Nat.reduceAdd,e1,e2,e3]));refine ih (by omega) (by omega) fun h' X=>?_;have hd:=sn (u:=u / 10) (by omega);unfold aq at hK ⊢;have n1:=X.n;refine⟨n1,?_,?_⟩
     · simp -dsimp only[↓WB,↓AD,WP,ae,Nat.reduceEqDiff,Nat.reduceAdd,BK GG];refine jn (l:=[UInt8.ofNat (48+u%10)]) ?_ ?_;· have hc:=cJ (b:=h.n) (off:=0) (n:=1) X (by simp[af]) (bA (h:=h) (cs:=(Value.int .u8 (IntKind.wrap .u8 (IntKind.wrap .u64 (48+((u%10:Nat):Int))))).cells.toList) (e:=5) (b:=true) rfl);rw[hc,rY (by omega)];rfl
       · simp -dsimp only[↓WB,↓AD,WP,ae,Nat.reduceEqDiff,Nat.reduceAdd,qu,eq_self]
     (with_reducible repeat' (first|refine y5 ?_|simp -dsimp only[↓WB,↓AD,WP,ae,Nat.reduceEqDiff,Nat.reduceAdd,e1,e2,e3,cM,aY,ak]));exact hK _ ((ai.new _ (Nat.le_refl _)).trans (X.mono (by simp[af])))
theorem eL {n:Int}{h:Heap}{K:Value→Heap→Prop}(b0 : -9223372036854775808≤n) (b1:n≤9223372036854775807) (hK:∀ h',ai h.n h h'→K (aq (Lib.itoa n)) h'):bT env (.func 112) [.int .i64 n] h K:=by
 refine F112 rfl ?_;by_cases hneg:n<0
 ·obtain⟨u,rfl⟩:∃ u:Nat,n = -(u:Int):=⟨n.natAbs,by omega⟩;rw[Lib.itoa_neg u (by omega)]at hK;have w:IntKind.wrap .u64 (IntKind.wrap .u64 (IntKind.wrap .i64 (0-IntKind.wrap .i64 (-(u:Int)+1)))+1)=(u:Int):=by rw[IntKind.wrap_u64,IntKind.wrap_u64,IntKind.wrap_i64,IntKind.wrap_i64];omega
  (with_reducible repeat' (first|refine y1 ?_|simp -dsimp only[↓WB,↓RF,WP,ae,Nat.reduceEqDiff,Nat.reduceAdd,w]));refine zr u (Nat.le_refl _) (by omega) fun h' X=>?_;have hd:=sn (u:=u) (by omega);unfold aq at hK ⊢;(with_reducible repeat' (first|refine y5 ?_|simp -dsimp only[↓WB,↓RF,WP,ae,Nat.reduceEqDiff,Nat.reduceAdd,cM,aY,ak]));exact hK h' X
 ·obtain⟨u,rfl⟩:∃ u:Nat,n=u:=⟨n.toNat,by omega⟩;rw[Lib.itoa_nonneg]at hK;have w:IntKind.wrap .u64 (u:Int)=(u:Int):=by rw[IntKind.wrap_u64];omega
  (with_reducible repeat' (first|refine y2 ?_|simp -dsimp only[↓WB,↓RF,WP,ae,Nat.reduceEqDiff,Nat.reduceAdd,w]));refine zr u (Nat.le_refl _) (by omega) fun h' X=>?_;unfold aq at hK ⊢;simp -dsimp only[↓WB,↓RF,WP,ae,Nat.reduceEqDiff,Nat.reduceAdd];exact hK h' X
theorem iV:isStr env 9=true:=by kernel_rfl
structure Kp (B b:Nat) (h h':Heap):Prop where
 x:ai B h h'
 f:∀ i,i<h.n→i≠b→(∀ cs,h.b.get i≠some (.cells cs 5 false))→h'.b.get i=h.b.get i
theorem Kp.of {B b:Nat}{h h':Heap}(x:ai h.n h h') (hB:B≤h.n):Kp B b h h':=⟨x.mono hB,fun i hi _ _=>x.get i hi⟩
theorem Kp.trans {B b:Nat}{h h1 h2:Heap}(a:Kp B b h h1) (c:Kp B b h1 h2):Kp B b h h2 :=
 ⟨a.x.trans c.x,fun i hi hb hc=>by have e:=a.f i hi hb hc;rw[c.f i (Nat.lt_of_lt_of_le hi a.x.n) hb (fun cs=>by rw[e];exact hc cs),e]⟩
structure xO (B:Nat) (h:Heap) (b:Nat) (l:List UInt8):Prop where
 lt:b<h.n
 ge:B≤b
 c : (l=[]∧h.b.get b=some (.cells [.pointer none,.slice none 0 0] 56 true)) ∨
   (l≠[]∧∃ j,B≤j∧j<h.n∧h.b.get b=some (.cells [.pointer (some ⟨b,0,none⟩),.slice (some ⟨j,0,none⟩) l.length cY] 56 true)∧h.b.get j=some (.cells (l.map aw) 5 false))
theorem xO.new {B:Nat}{h:Heap}(hB:B≤h.n):xO B (af h (.cells [.pointer none,.slice none 0 0] 56 true)) h.n []:=⟨Nat.lt_succ_self _,hB,.inl ⟨rfl,aC _ _⟩⟩
theorem xO.ext {B:Nat}{h h':Heap}{b:Nat}{l:List UInt8}(k:xO B h b l) (x:ai h.n h h'):xO B h' b l:=by
 have n:=x.n;refine⟨Nat.lt_of_lt_of_le k.lt n,k.ge,?_⟩;rcases k.c with ⟨e,c⟩|⟨e,j,h1,h2,h3,h4⟩;·exact .inl ⟨e,by rw[x.get b k.lt];exact c⟩
 ·exact .inr ⟨e,j,h1,by omega,by rw[x.get b k.lt];exact h3,by rw[x.get j h2];exact h4⟩
theorem VT {b:Nat}{h:Heap}{q:Value}{K:Value→Heap→Prop}(hb:h.b.get b=some (.cells [.pointer none,q] 56 true)) (hn:b<h.n)
  (hK:K (.tuple #[]) { h with b:=h.b.set b (.cells [.pointer (some ⟨b,0,none⟩),q] 56 true) }):bT env (.func 63) [.pointer (some ⟨b,0,none⟩)] h K:=by
 refine bT.FI ?_ hK
 show vK 63 56 QZ 63 [.pointer (some ⟨b,0,none⟩)] h=_
 have h1:Nat.blt b h.n=true:=by rw[blt_eq];exact decide_eq_true hn
 simp only[vK,Nat.beq_refl,cond_true,hb,ccG,h1]
theorem Vm {b:Nat}{h:Heap}{q:Value}{K:Value→Heap→Prop}(hb:h.b.get b=some (.cells [.pointer (some ⟨b,0,none⟩),q] 56 true)) (hn:b<h.n)
  (hK:K (.tuple #[]) h):bT env (.func 63) [.pointer (some ⟨b,0,none⟩)] h K:=by
 refine bT.FI ?_ hK
 show vK 63 56 QZ 63 [.pointer (some ⟨b,0,none⟩)] h=_
 have h1:Nat.blt b h.n=true:=by rw[blt_eq];exact decide_eq_true hn
 simp only[vK,Nat.beq_refl,cond_true,hb,ccG,h1]
theorem rX {α:Type}:∀ (l:List α),takeN l.length l=some l
 | []=>rfl
 | x::l=>by simp only[List.length_cons,takeN,rX l,Option.map_some]
theorem yn {h:Heap}{l:List UInt8}:firstCells h 1 l.length (aq l)=some (l.map aw):=by have:takeN l.length l=some l:=rX l;simp only[firstCells,aq,Nat.beq_refl,cond_true,this,Option.map_some];rfl
theorem sT {B b:Nat}{l s:List UInt8}{h:Heap}{K:Value→Heap→Prop}(k:xO B h b l) (hs:s≠[]) (hl:l.length+s.length≤1000000)
   (hK:∀ v h',Kp B b h h'→xO B h' b (l++s)→K v h'):bT env (.func 26) [.pointer (some ⟨b,0,none⟩),aq s] h K:=by
 refine F26 rfl ?_
 have hls:l++s≠[]:=by simp[hs]
 have hsl:s.length≠0:=by simpa using hs
 have klt:=k.lt
 have kge:=k.ge
 rcases k.c with ⟨rfl,c⟩|⟨e,j,h1,h2,h3,h4⟩
 · simp -dsimp only[↓WB,↓TM,WP,ae,Nat.reduceEqDiff,Nat.reduceAdd];refine VT c klt ?_;have g1:({ h with b:=h.b.set b (.cells [.pointer (some ⟨b,0,none⟩),.slice none 0 0] 56 true) }:Heap).b.get b=some (.cells [.pointer (some ⟨b,0,none⟩),.slice none 0 0] 56 true):=T.get_set_same _ _ _;have X1:Kp B b h { h with b:=h.b.set b (.cells [.pointer (some ⟨b,0,none⟩),.slice none 0 0] 56 true) }:=⟨ai.set _ kge,fun i hi hb _=>T.ar _ _ (Ne.symm hb)⟩;have n1:({ h with b:=h.b.set b (.cells [.pointer (some ⟨b,0,none⟩),.slice none 0 0] 56 true) }:Heap).n=h.n:=rfl;generalize ({ h with b:=h.b.set b (.cells [.pointer (some ⟨b,0,none⟩),.slice none 0 0] 56 true) }:Heap)=h1 at g1 X1 n1 ⊢;have d1:=bQ (off:=1) (v:=.slice none 0 0) (show b<h1.n by omega) g1 rfl;unfold aq;simp -dsimp only[↓WB,↓TM,WP,ae,Nat.reduceEqDiff,Nat.reduceAdd,d1];refine Av (B:=h1.n) (bn.nil (B:=h1.n)) (Nat.le_refl _) rfl (m:=s.length) (by simp[lenOf,ak]) hsl (by simp at hl;omega) yn (by simp) (sW s) (by decide) fun v' h' o X2 n2=>?_;rw[Nat.zero_add,List.nil_append]at o;generalize hcs:s.map aw=cs at o;generalize hn:s.length=n at o;cases o with
   | nil=>omega
   | emp _ _=>omega
   | row i n cs r1 r2 r3 =>
     have g2:h'.b.get b=some (.cells [.pointer (some ⟨b,0,none⟩),.slice none 0 0] 56 true):=by rw[X2.get b (by omega)];exact g1
     simp -dsimp only[↓WB,↓TM,WP,ae,Nat.reduceEqDiff,Nat.reduceAdd];refine bN (cs':=[.pointer (some ⟨b,0,none⟩),.slice (some ⟨i,0,none⟩) n cY]) g2 rfl rfl rfl rfl (by decide) ?_;simp -dsimp only[↓WB,↓TM,WP,ae,Nat.reduceEqDiff,Nat.reduceAdd];refine hK _ _ (X1.trans ((Kp.of X2 (by omega)).trans ⟨ai.set _ kge,fun i hi hb _=>T.ar _ _ (Ne.symm hb)⟩)) ⟨by show b<h'.n;omega,kge,.inr ⟨hls,i,by omega,r2,?_,?_⟩⟩;· rw[List.nil_append,hn];exact T.get_set_same _ _ _
     · show (h'.b.set b _).get i=_;rw[T.ar _ _ (by omega),List.nil_append,hcs];exact r3
 · have d1:=bQ (off:=1) (v:=.slice (some ⟨j,0,none⟩) l.length cY) klt h3 rfl;simp -dsimp only[↓WB,↓TM,WP,ae,Nat.reduceEqDiff,Nat.reduceAdd];refine Vm h3 klt ?_;unfold aq;simp -dsimp only[↓WB,↓TM,WP,ae,Nat.reduceEqDiff,Nat.reduceAdd,d1];refine ve (B:=B) (.row j l.length (l.map aw) h1 h2 h4) (by omega) (by simp) (m:=s.length) (by simp[lenOf,ak]) hsl hl yn (by simp) (sW s) (by decide) fun v' h' o X2 f2=>?_;rw[← List.map_append]at o;generalize hcs:(l++s).map aw=cs at o;generalize hn:l.length+s.length=n at o;have hbj:b≠j:=by intro e2;subst e2;rw[h3]at h4;simp at h4
   cases o with
   | nil=>omega
   | emp _ _=>omega
   | row i n cs r1 r2 r3 =>
     have n2:=X2.n
     have g2:h'.b.get b=some (.cells [.pointer (some ⟨b,0,none⟩),.slice (some ⟨j,0,none⟩) l.length cY] 56 true):=by rw[f2 b klt (fun a n' c' e1 e2=>by cases e1;exact hbj e2.symm)];exact h3
     have hbi:b≠i:=by intro e2;subst e2;rw[g2]at r3;simp at r3
     simp -dsimp only[↓WB,↓TM,WP,ae,Nat.reduceEqDiff,Nat.reduceAdd]
     refine bN (cs':=[.pointer (some ⟨b,0,none⟩),.slice (some ⟨i,0,none⟩) n cY]) g2 rfl rfl rfl rfl (by decide) ?_
     simp -dsimp only[↓WB,↓TM,WP,ae,Nat.reduceEqDiff,Nat.reduceAdd]
     refine hK _ _ ⟨X2.trans (ai.set _ kge),fun i' hi hb hc=>?_⟩ ⟨by show b<h'.n;omega,kge,.inr ⟨hls,i,by omega,r2,?_,?_⟩⟩
     · show (h'.b.set b _).get i'=_;rw[T.ar _ _ (Ne.symm hb)];exact f2 i' hi (fun a n' c' e1 e2=>by cases e1;simp only at e2;subst e2;exact hc _ h4)
     · rw[List.length_append,hn];exact T.get_set_same _ _ _
     · show (h'.b.set b _).get i=_;rw[T.ar _ _ hbi,hcs];exact r3
theorem uO {B b:Nat}{l:List UInt8}{h:Heap}{K:Value→Heap→Prop}(k:xO B h b l) (hl:l.length≤1000000) (hK:∀ h',ai B h h'→K (aq l) h'):bT env (.func 34) [.pointer (some ⟨b,0,none⟩)] h K:=by
 refine F34 rfl ?_;have klt:=k.lt;rcases k.c with ⟨rfl,c⟩|⟨e,j,h1,h2,h3,h4⟩;· have d1:=bQ (off:=1) (v:=.slice none 0 0) klt c rfl;simp -dsimp only[↓WB,↓W7,WP,ae,Nat.reduceEqDiff,Nat.reduceAdd,d1];refine⟨_,rfl,?_⟩;(with_reducible repeat' (first|refine y5 ?_|simp -dsimp only[↓WB,↓W7,WP,ae,Nat.reduceEqDiff,Nat.reduceAdd,d1]));refine⟨_,_,rfl,?_⟩;(with_reducible repeat' (first|refine y5 ?_|simp -dsimp only[↓WB,↓W7,WP,ae,Nat.reduceEqDiff,Nat.reduceAdd,d1]));exact hK _ (ai.refl _ _)
 · have d1:=bQ (off:=1) (v:=.slice (some ⟨j,0,none⟩) l.length cY) klt h3 rfl;have hl0:l.length≠0:=by simpa using e
   have h63:l.length≤1000000:=hl;have hlb:Nat.blt 0 l.length=true:=by rw[blt_eq];exact decide_eq_true (by omega)
   simp -dsimp only[↓WB,↓W7,WP,ae,Nat.reduceEqDiff,Nat.reduceAdd,d1];refine⟨.pointer (some ⟨j,0,none⟩),by simp only[kG,Nat.beq_refl,hlb,Bool.and_self,Bool.true_or,cond_true],?_⟩;(with_reducible repeat' (first|refine y5 ?_|simp -dsimp only[↓WB,↓W7,WP,ae,Nat.reduceEqDiff,Nat.reduceAdd,d1]));refine⟨aq l,{ h with b:=h.b.set j .dead },?_,?_⟩
   · have tk:takeN (l.map aw).length (l.map aw)=some (l.map aw):=rX _;rw[List.length_map]at tk;have mb:aA nN (l.map aw)=some l:=by
       clear h4 d1 h3 hK e hl0 hlb h63 hl tk k;induction l with
       | nil=>rfl
       | cons x l ih =>
         have hx:nN (aw x)=some x:=by have h1:=x.toNat_lt;simp only[nN,aw,show (0:Int)≤x.toNat by omega,show (x.toNat:Int)<256 by omega,decide_true,Bool.and_self,cond_true,Int.toNat_natCast,UInt8.ofNat_toNat]
         simp only[List.map_cons,aA,hx,ih]
     have b1:Nat.blt j h.n=true:=by rw[blt_eq];exact decide_eq_true h2
     show fP env [113,3] [.pointer (some ⟨j,0,none⟩),.int .i64 l.length] h=_;have u1:a_ env 113=some (.pointer 5):=by kernel_rfl
     have z5:size env 5=some 1:=by kernel_rfl
     simp only[fP,u1,h4,z5,Nat.beq_refl,show (0:Int)<l.length by omega,show (l.length:Int)≤9223372036854775807 by omega,decide_true,Bool.and_self,cond_true,b1,Int.toNat_natCast,tk,mb,aq]
   · unfold aq;simp -dsimp only[↓WB,↓W7,WP,ae,Nat.reduceEqDiff,Nat.reduceAdd,d1];exact hK _ (ai.set _ h1)
end Go.Proofs.YtohjaacnlmkhbaaGreatDoor
