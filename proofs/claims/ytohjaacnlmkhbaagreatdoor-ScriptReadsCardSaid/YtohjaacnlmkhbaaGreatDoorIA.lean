/- code.Of, walked. Conditions: none beyond each theorem's own. -/
import Derived.Test.YtohjaacnlmkhbaaGreatDoorYQ
import Derived.Test.YtohjaacnlmkhbaaGreatDoorTA
set_option linter.unusedSimpArgs false
set_option linter.unusedVariables false
namespace Go.Proofs.YtohjaacnlmkhbaaGreatDoor
open Go.Ev
set_option maxRecDepth 100000
set_option maxHeartbeats 400000
theorem Cl {s:List UInt8}{h:Heap}{K:Value→Heap→Prop}(hs:s.length≤1000000) (he:hJ h=true) (hK:∀ v h',ai h.n h h'→K (.tuple #[.int .i64 (pk s),v]) h'):bT env (.func 76) [aq s] h K:=by
 have hc:(Nat.ble (⟨s.toArray⟩:ByteArray).size 1000000&&hJ h)=true:=by rw[ble_eq,ak,he,Bool.and_true];exact decide_eq_true (by omega)
 have hX:ai h.n h (af h .dead):=ai.new _ (Nat.le_refl _);unfold pk at hK;cases ha:Lib.atoiAll s with
 | ok n =>
   rw[ha]at hK
   refine lu (b:=false) (v:=.tuple #[.int .i64 n,.nilIface]) (g:=tU) (base:=M0) rfl ?_ (hK .nilIface h (ai.refl _ _))
   unfold aq tU
   dsimp only
   rw[ha,hc];rfl
 | range =>
   rw[ha]at hK
   refine lu (b:=true) (v:=.tuple #[.int .i64 (Lib.atoiSat s),Dm h]) (g:=tU) (base:=M0) rfl ?_ (hK _ _ hX)
   unfold aq tU
   dsimp only
   rw[ha,hc];rfl
 | _ =>
   rw[ha]at hK
   refine lu (b:=true) (v:=.tuple #[.int .i64 0,Dm h]) (g:=tU) (base:=M0) rfl ?_ (hK _ _ hX)
   unfold aq tU
   dsimp only
   rw[ha,hc];rfl
structure FP (h:Heap) (j:Nat) (f:List (List UInt8)):Prop where
 lt:j<h.n
 at_:∀ k (hk:k<f.length),cellAt h ⟨j,k,none⟩=some (aq f[k])
theorem FP.ext {h h':Heap}{j:Nat}{f:List (List UInt8)}(r:FP h j f) (x:ai h.n h h'):FP h' j f :=
 ⟨Nat.lt_of_lt_of_le r.lt x.n,fun k hk=>aI x r.lt (r.at_ k hk)⟩
theorem sF {b rb c i:Nat}{f:List (List UInt8)}{h:Heap}{K:Value→Heap→Prop}(gk:rW h) (hb:cellAt h ⟨b,0,none⟩=some (.slice (some ⟨rb,0,none⟩) f.length c)) (r:FP h rb f) (hs:∀ w∈f,w.length≤1000000)
  (hK:∀ h',ai h.n h h'→K (.int .i64 (hZ f i)) h'):bT env (.func 75) [.int .i64 (i:Int),.pointer (some ⟨b,0,none⟩)] h K:=by
 refine F75 rfl ?_
 by_cases hi:i<f.length
 ·have hc:=r.at_ i hi;have hw:=hs _ (List.getElem_mem hi);have e:hZ f i=pk f[i]:=by unfold hZ;rw[List.getElem?_eq_getElem hi]
  rw[e]at hK;generalize f[i]=w at hc hw hK;unfold aq at hc;(with_reducible repeat' (first|refine y2 ?_|refine y4 ?_|simp -dsimp only[↓WB,↓W75,WP,ae,Nat.reduceEqDiff,Nat.reduceAdd,hb,Nat.zero_add,Nat.mul_one,hc]));refine Cl (s:=w) hw gk.e fun v h' X=>?_;simp -dsimp only[↓WB,↓W75,WP,ae,Nat.reduceEqDiff,Nat.reduceAdd];exact hK _ X
 ·have e:hZ f i=0:=by unfold hZ;rw[List.getElem?_eq_none (by omega)]
  rw[e]at hK;(with_reducible repeat' (first|refine y1 ?_|simp -dsimp only[↓WB,↓W75,WP,ae,Nat.reduceEqDiff,Nat.reduceAdd,hb]));exact hK _ (ai.refl _ _)
theorem vM {b rb c i:Nat}{f:List (List UInt8)}{h:Heap}{K:Value→Heap→Prop}(gk:rW h) (hb:cellAt h ⟨b,0,none⟩=some (.slice (some ⟨rb,0,none⟩) f.length c)) (r:FP h rb f) (hs:∀ w∈f,w.length≤1000000)
  (hK:∀ h',ai h.n h h'→K (.int .i64 (hZ f i)) h'):bT env (.func 109) [.int .i64 (i:Int),.pointer (some ⟨b,0,none⟩)] h K:=by
 refine F109 rfl ?_
 by_cases hi:i<f.length
 ·have hc:=r.at_ i hi;have hw:=hs _ (List.getElem_mem hi);have e:hZ f i=pk f[i]:=by unfold hZ;rw[List.getElem?_eq_getElem hi]
  rw[e]at hK;generalize f[i]=w at hc hw hK;unfold aq at hc;(with_reducible repeat' (first|refine y2 ?_|refine y4 ?_|simp -dsimp only[↓WB,↓VY,WP,ae,Nat.reduceEqDiff,Nat.reduceAdd,hb,Nat.zero_add,Nat.mul_one,hc]));refine Cl (s:=w) hw gk.e fun v h' X=>?_;simp -dsimp only[↓WB,↓VY,WP,ae,Nat.reduceEqDiff,Nat.reduceAdd];exact hK _ X
 ·have e:hZ f i=0:=by unfold hZ;rw[List.getElem?_eq_none (by omega)]
  rw[e]at hK;(with_reducible repeat' (first|refine y1 ?_|simp -dsimp only[↓WB,↓VY,WP,ae,Nat.reduceEqDiff,Nat.reduceAdd,hb]));exact hK _ (ai.refl _ _)
theorem RY {rb c:Nat}{f:List (List UInt8)}{h:Heap}{K:Value→Heap→Prop}(gk:rW h) (r:FP h rb f) (hs:∀ w∈f,w.length≤1000000) (hK:∀ h',ai h.n h h'→K (.agg ⟨(kP f).cells⟩) h'):bT env (.func 42) [.slice (some ⟨rb,0,none⟩) f.length c] h K:=by have gn:=gk.n;refine F42 rfl ?_;simp -dsimp only[↓WB,↓Zb,WP,ae,Nat.reduceEqDiff,Nat.reduceAdd];have X1:ai h.n h (af (af h (.cells [.slice (some ⟨rb,0,none⟩) f.length c] 65 true)) (.cells [.int .i64 0,.int .i64 0,.int .i64 0,.int .i64 0] 35 true)):=(ai.new _ (Nat.le_refl _)).trans (ai.new _ (Nat.le_succ _));have c1:cellAt (af (af h (.cells [.slice (some ⟨rb,0,none⟩) f.length c] 65 true)) (.cells [.int .i64 0,.int .i64 0,.int .i64 0,.int .i64 0] 35 true)) ⟨h.n,0,none⟩=some (.slice (some ⟨rb,0,none⟩) f.length c):=(eP (Nat.lt_succ_self _)).trans (bB.trans rfl);have n1:(af (af h (.cells [.slice (some ⟨rb,0,none⟩) f.length c] 65 true)) (.cells [.int .i64 0,.int .i64 0,.int .i64 0,.int .i64 0] 35 true)).n=h.n+2:=rfl;have B1:dm (af (af h (.cells [.slice (some ⟨rb,0,none⟩) f.length c] 65 true)) (.cells [.int .i64 0,.int .i64 0,.int .i64 0,.int .i64 0] 35 true)) (h.n+1) [.int .i64 0,.int .i64 0,.int .i64 0,.int .i64 0] 35:=dm.new (af h (.cells [.slice (some ⟨rb,0,none⟩) f.length c] 65 true)) _ _;generalize af (af h (.cells [.slice (some ⟨rb,0,none⟩) f.length c] 65 true)) (.cells [.int .i64 0,.int .i64 0,.int .i64 0,.int .i64 0] 35 true)=h1 at X1 c1 n1 B1 ⊢;skip;refine sF (i:=1) (gk.ext (B:=h.n) gn X1) c1 (r.ext X1) hs fun h2 X2=>?_;have n2:=X2.n;have c2:=aI X2 (by omega) c1;have X02:=X1.trans (X2.mono (by omega));simp -dsimp only[↓WB,↓Zb,WP,ae,Nat.reduceEqDiff,Nat.reduceAdd];refine sF (i:=2) (gk.ext (B:=h.n) gn X02) c2 (r.ext X02) hs fun h3 X3=>?_;have n3:=X3.n;have c3:=aI X3 (by omega) c2;have X03:=X02.trans (X3.mono (by omega));simp -dsimp only[↓WB,↓Zb,WP,ae,Nat.reduceEqDiff,Nat.reduceAdd];refine sF (i:=3) (gk.ext (B:=h.n) gn X03) c3 (r.ext X03) hs fun h4 X4=>?_;have n4:=X4.n;have X04:=X03.trans (X4.mono (by omega));have B4:=(((B1.ext X2 (by omega)).ext X3 (by omega)).ext X4 (by omega));(with_reducible repeat' (first|refine y9 ?_|simp -dsimp only[↓WB,↓Zb,WP,ae,Nat.reduceEqDiff,Nat.reduceAdd]));refine bN (cs':=(kP f).cells) B4.get rfl rfl rfl rfl (by decide) ?_;have B5:=B4.set (cs':=(kP f).cells);have X5:ai h.n h4 { h4 with b:=h4.b.set (h.n+1) (.cells (kP f).cells 35 true) }:=ai.set _ (by omega);generalize ({ h4 with b:=h4.b.set (h.n+1) (.cells (kP f).cells 35 true) }:Heap)=h5 at B5 X5 ⊢;have d5:ax h5 ⟨h.n+1,0,none⟩ 4=some (kP f).cells:=aJ B5.lt B5.get rfl rfl;simp -dsimp only[↓WB,↓Zb,WP,ae,Nat.reduceEqDiff,Nat.reduceAdd,d5];exact hK _ (X04.trans X5)
theorem F0 {s:List UInt8}{x:UInt8}{h:Heap}{K:Value→Heap→Prop}(hK:K (.int .i64 (Lib.indexByte s x)) h):bT env (.func 108) [.string ⟨s.toArray⟩,.int .u8 (x.toNat:Int)] h K:=by
 refine i_ (g:=C9) (base:=Ju) rfl ?_ hK;have e:((x.toNat:Int).toNat).toUInt8=x:=by rw[Int.toNat_natCast];exact UInt8.ofNat_toNat
 simp only[C9,e]
theorem qp:∀ (l:List UInt8) (c:UInt8),Lib.indexByte l c<(l.length:Int)∨l=[]
 | [],c=>.inr rfl
 | b::l,c=>by
   refine .inl ?_;have ih:=qp l c;have hg:=Lib.indexByte_ge l c;have e:l=[]→Lib.indexByte l c = -1:=fun e=>by subst e;rfl
   unfold Lib.indexByte;simp only[List.length_cons,beq_iff_eq];split;· omega
   · split;· omega
     · rcases ih with ih|ih;· omega
       · have:=e ih;omega
theorem Gu (ch:UInt8):max (Lib.indexByte [48,49,50,51,52,53,54,55,56,57,97,98,99,100,101,102] ch) 0=((fy ch:Nat):Int):=by show max (Lib.indexByte pJ ch) 0=_;unfold fy;omega
theorem Au (ch:UInt8):fy ch<16:=by
 have h1:=qp pJ ch;have h2:pJ.length=16:=rfl;have h3:pJ≠[]:=by decide
 unfold fy;rcases h1 with h1|h1;·omega
 ·exact absurd h1 h3
theorem Wl {a b:Nat}(ha:a<16) (hb:b<16):IntKind.wrap .i64 ((BitVec.ofInt IntKind.i64.bits (IntKind.wrap .i64 ((a:Int)*2 ^ min (Int.toNat 4) IntKind.i64.bits)) ||| BitVec.ofInt IntKind.i64.bits (b:Int)).toNat:Int)=((16*a+b:Nat):Int):=by
 have key:∀ a b:Fin 16,IntKind.wrap .i64 ((BitVec.ofInt IntKind.i64.bits (IntKind.wrap .i64 (((a.1:Nat):Int)*2 ^ min (Int.toNat 4) IntKind.i64.bits)) ||| BitVec.ofInt IntKind.i64.bits ((b.1:Nat):Int)).toNat:Int)=((16*a.1+b.1:Nat):Int):=by decide +kernel
 exact key ⟨a,ha⟩ ⟨b,hb⟩
theorem nH:∀ (s:List UInt8) (k:Nat) (h:2*k+1<s.length),cD (s.take (2*(k+1)))=cD (s.take (2*k))++[UInt8.ofNat (16*fy s[2*k]+fy s[2*k+1])]
 | [],k,h=>by simp at h
 | [a],k,h=>by simp at h
 | a::b::r,0,h=>by simp[cD]
 | a::b::r,k+1,h=>by
   have ih:=nH r k (by simp only[List.length_cons]at h;omega);have e1:2*(k+1+1)=2*(k+1)+2:=by omega
   have e2:2*(k+1)=2*k+2:=by omega
   have g0:(a::b::r)[2*(k+1)]'(by omega)=r[2*k]'(by simp only[List.length_cons]at h;omega):=by simp only[e2,List.getElem_cons_succ]
   have g1:(a::b::r)[2*(k+1)+1]'(by omega)=r[2*k+1]'(by simp only[List.length_cons]at h;omega):=by simp only[show 2*(k+1)+1=2*k+1+2 by omega,List.getElem_cons_succ]
   rw[g0,g1,e1];have t1:(a::b::r).take (2*(k+1)+2)=a::b::r.take (2*(k+1)):=rfl;have t2:(a::b::r).take (2*(k+1))=a::b::r.take (2*k):=by rw[e2];rfl
   rw[t1,t2,cD,cD,ih];rfl
theorem DN {s:List UInt8}{k:Nat}(h1:2*k≤s.length) (h2:¬2*k+1<s.length):cD s=cD (s.take (2*k)):=by
 have key:∀ (k:Nat) (s:List UInt8),2*k≤s.length→¬2*k+1<s.length→cD s=cD (s.take (2*k)):=by
   intro k;induction k with
   | zero =>
     intro s _ h
     cases s with
     | nil=>rfl
     | cons a s=>cases s with
       | nil=>rfl
       | cons b s=>simp at h
   | succ k ih =>
     intro s h1 h2
     cases s with
     | nil=>simp at h1
     | cons a s=>cases s with
       | nil=>simp at h1;omega
       | cons b s =>
         simp only[List.length_cons]at h1 h2
         have e:(a::b::s).take (2*(k+1))=a::b::s.take (2*k):=by rw[show 2*(k+1)=2*k+2 by omega];rfl
         rw[e,cD,cD,ih s (by omega) (by omega)]
 exact key k s h1 h2
theorem BF {s:List UInt8}{h:Heap}{K:Value→Heap→Prop}(hs:s.length≤500000) (hK:∀ v h',bn h.n h' 5 v (cD s).length ((cD s).map aw)→ai h.n h h'→K v h'):bT env (.func 78) [aq s] h K:=by
 refine F78 rfl ?_;unfold aq;simp -dsimp only[↓WB,↓U0,WP,ae,Nat.reduceEqDiff,Nat.reduceAdd];refine aE (fun m fr' h'=>∃ k v,2*k≤s.length∧m=s.length-2*k∧ai h.n h h'∧fr'.get 3=some (.int .i64 ((2*k:Nat):Int))∧fr'.get 2=some v∧bn h.n h' 5 v (cD (s.take (2*k))).length ((cD (s.take (2*k))).map aw)) s.length ?_ (by omega) ?_;·exact⟨0,_,by omega,by omega,ai.refl _ _,by simp[T.ah],by simp only[T.ah];rfl,by simpa[cD]using bn.nil⟩
 rintro m fr2 h2 ⟨k,v,hk,rfl,X2,f3,f2,O2⟩ hag;have e3:=aj f3;have e2:=aj f2;have b0:=au (hag 0 rfl);have n2:=X2.n;have w1:IntKind.wrap .i64 (((2*k:Nat):Int)+1)=((2*k+1:Nat):Int):=by rw[wrap_i64 (by omega) (by omega)];omega
 have w2:IntKind.wrap .i64 (((2*k:Nat):Int)+2)=((2*(k+1):Nat):Int):=by rw[wrap_i64 (by omega) (by omega)];omega
 by_cases aB:2*k+1<s.length
 ·have hbl:=ku (s.take (2*k));have htk:=nH s k aB;rw[List.length_take]at hbl;have Ys:∀ {J:Value→Prop},J (.int .u8 (s[2*k].toNat:Int))→Ah env 9 (.string ⟨s.toArray⟩) (.int .i64 ((2*k:Nat):Int)) J:=fun q=>iO iV (by omega) q;have ix1:∀ {J:Value→Prop},J (.int .u8 (s[2*k+1].toNat:Int))→Ah env 9 (.string ⟨s.toArray⟩) (.int .i64 ((2*k+1:Nat):Int)) J:=fun q=>iO iV (by omega) q;generalize s[2*k]=x at Ys htk;generalize s[2*k+1]=y at ix1 htk;have hx:=Au x;have hy:=Au y;have hor:=Wl hx hy;have w8:IntKind.wrap .u8 ((16*fy x+fy y:Nat):Int)=(((UInt8.ofNat (16*fy x+fy y)).toNat:Nat):Int):=by
   rw[wrap_u8 (by omega) (by omega)];have:(UInt8.ofNat (16*fy x+fy y)).toNat=16*fy x+fy y:=by simp;omega
   rw[this]
  (with_reducible repeat' (first|refine y1 ?_|simp -dsimp only[↓WB,↓U0,WP,ae,Nat.reduceEqDiff,Nat.reduceAdd,↓e3,↓e2,↓b0,w1,ak]));refine Ys ?_;(with_reducible repeat' (first|refine y5 ?_|simp -dsimp only[↓WB,↓U0,WP,ae,Nat.reduceEqDiff,Nat.reduceAdd,↓e3,↓e2,↓b0,w1]));refine ix1 ?_;(with_reducible repeat' (first|refine y5 ?_|simp -dsimp only[↓WB,↓U0,WP,ae,Nat.reduceEqDiff,Nat.reduceAdd,↓e3,↓e2,↓b0,w1]));refine F0 ?_;(with_reducible repeat' (first|refine y5 ?_|simp -dsimp only[↓WB,↓U0,WP,ae,Nat.reduceEqDiff,Nat.reduceAdd,↓e3,↓e2,↓b0,w1,Gu]));refine F0 ?_;(with_reducible repeat' (first|refine y5 ?_|refine y8 ?_|simp -dsimp only[↓WB,↓U0,WP,ae,Nat.reduceEqDiff,Nat.reduceAdd,↓e3,↓e2,↓b0,w1,Gu,Fj,hor,w8]));refine dQ (new:=[aw (UInt8.ofNat (16*fy x+fy y))]) O2 (by omega) (by simp) (by omega) rfl rfl (by decide) rfl fun v' h4 O4 X4 n4 _=>?_;(with_reducible repeat' (first|refine y5 ?_|simp -dsimp only[↓WB,↓U0,WP,ae,Nat.reduceEqDiff,Nat.reduceAdd,↓e3,↓e2,↓b0,w1,w2]));refine⟨s.length-2*(k+1),by omega,k+1,v',by omega,rfl,X2.trans X4,by simp[T.ah],by simp[T.ah],?_⟩;rw[htk,List.map_append,List.length_append];exact O4
 ·rw[DN hk aB]at hK;(with_reducible repeat' (first|refine y2 ?_|simp -dsimp only[↓WB,↓U0,WP,ae,Nat.reduceEqDiff,Nat.reduceAdd,↓e3,↓e2,↓b0,w1,ak]));exact hK _ _ O2 X2
theorem D9 {i:Nat}{o a b c:UInt8}{h:Heap}{K:Value→Heap→Prop}(hi:i<h.n) (hc:ax h ⟨i,0,none⟩ 4=some [.int .u8 (o.toNat:Int),.int .u8 (a.toNat:Int),.int .u8 (b.toNat:Int),.int .u8 (c.toNat:Int)])
  (hK:∀ v h',bn h.n h' 5 v 4 [aw o,aw a,aw b,aw c]→ai h.n h h'→K v h'):bT env (.func 79) [.slice (some ⟨i,0,none⟩) 1 1] h K:=by
 refine F79 rfl ?_
 simp -dsimp only[↓WB,↓Yn,WP,ae,Nat.reduceEqDiff,Nat.reduceAdd]
 refine KF 2 (by decide) ?_
 rw[xp]
 (with_reducible repeat' (first|refine y1 ?_|refine y4 ?_|refine y7 ?_|simp -dsimp only[↓WB,↓Yn,WP,ae,Nat.reduceEqDiff,Nat.reduceAdd,hc]))
 have X1:ai h.n h (af h (.cells [.int .u8 (o.toNat:Int),.int .u8 (a.toNat:Int),.int .u8 (b.toNat:Int),.int .u8 (c.toNat:Int)] 125 true)):=ai.new _ (Nat.le_refl _)
 have B1:=dm.new h [.int .u8 (o.toNat:Int),.int .u8 (a.toNat:Int),.int .u8 (b.toNat:Int),.int .u8 (c.toNat:Int)] 125
 have n1:(af h (.cells [.int .u8 (o.toNat:Int),.int .u8 (a.toNat:Int),.int .u8 (b.toNat:Int),.int .u8 (c.toNat:Int)] 125 true)).n=h.n+1:=rfl
 generalize af h (.cells [.int .u8 (o.toNat:Int),.int .u8 (a.toNat:Int),.int .u8 (b.toNat:Int),.int .u8 (c.toNat:Int)] 125 true)=h1 at X1 B1 n1 ⊢
 have d0:=B1.at_ (j:=0) rfl
 have d1:=B1.at_ (j:=1) rfl
 have d2:=B1.at_ (j:=2) rfl
 have d3:=B1.at_ (j:=3) rfl
 skip
 refine lf (l:=[aw o,aw a,aw b,aw c]) rfl ?_
 have X2:ai h1.n h1 (af h1 (.cells [aw o,aw a,aw b,aw c] 5 true)):=ai.new _ (Nat.le_refl _)
 have n2:(af h1 (.cells [aw o,aw a,aw b,aw c] 5 true)).n=h1.n+1:=rfl
 have c2:ax (af h1 (.cells [aw o,aw a,aw b,aw c] 5 true)) ⟨h1.n,0,none⟩ 4=some [aw o,aw a,aw b,aw c]:=bA rfl
 generalize af h1 (.cells [aw o,aw a,aw b,aw c] 5 true)=h2 at X2 n2 c2 ⊢
 simp -dsimp only[↓WB,↓Yn,WP,ae,Nat.reduceEqDiff,Nat.reduceAdd,d0,d1,d2,d3]
 refine Cs (m:=4) (n:=0) (cs:=[]) (new:=[aw o,aw a,aw b,aw c]) (B:=h.n) bn.nil (by omega) rfl rfl (by omega) (fun _=>c2) rfl rfl (by decide) fun v' h3 O3 X3=>?_
 rw[List.nil_append]at O3
 have w01:IntKind.wrap .i64 (0+1)=1:=rfl
 simp -dsimp only[↓WB,↓Yn,WP,ae,Nat.reduceEqDiff,Nat.reduceAdd,w01]
 rw[xp]
 (with_reducible repeat' (first|refine y2 ?_|simp -dsimp only[↓WB,↓Yn,WP,ae,Nat.reduceEqDiff,Nat.reduceAdd,w01]))
 exact hK _ _ O3 ((X1.trans (X2.mono (by omega))).trans X3)
abbrev A8:Fr→Heap→(Ex→Fr→Heap→Prop)→Prop:=fun fr h Q=>fm env uV fr h fun fr h=>Bi.wp env 74 none fr h Q
structure mK (fr0:Fr) (H:Heap) (r m b xb rb c:Nat) (f:List (List UInt8)) (w:List UInt8):Prop where
 g1:fr0.get 1=some (.pointer (some ⟨b,0,none⟩))
 g2:fr0.get 2=some (.pointer (some ⟨xb,0,none⟩))
 g3:fr0.get 3=some (.func (.func 109) ⟨[]⟩ ⟨[.pointer (some ⟨b,0,none⟩)]⟩)
 g22:fr0.get 22=some (.pointer (some ⟨r,0,none⟩))
 hm:H.b.get m=some (.map di 8)
 Aq:m<H.n
 lU:m≠r
 cb:cellAt H ⟨b,0,none⟩=some (.slice (some ⟨rb,0,none⟩) f.length c)
 rf:FP H rb f
 gk:rW H
 f0:f[0]?=some w
 fs:∀ w∈f,w.length≤1000000
 bx:b<xb
 rx:rb<xb
 x5:5<xb
 xr:xb<r
 xm:xb<m
 rn:r<H.n
 hD:∀ t v,fr0.get t=some v→t≤3∨(11≤t∧t≤22)
theorem uf {B r:Nat}{H:Heap}(k:fa) (h:B≤r):ai B H (bX H r k):=⟨Nat.le_refl _,fun i hi=>aG (by omega)⟩
theorem FP.YN {B j:Nat}{h h':Heap}{f:List (List UInt8)}(r:FP h j f) (x:ai B h h') (hj:j<B):FP h' j f :=
 ⟨Nat.lt_of_lt_of_le r.lt x.n,fun k hk=>aI x hj (r.at_ k hk)⟩
theorem mK.at0 {fr0:Fr}{H:Heap}{r m b xb rb c:Nat}{f:List (List UInt8)}{w:List UInt8}(x:mK fr0 H r m b xb rb c f w) {h':Heap}(X:ai xb H h') :
  cellAt h' ⟨b,0,none⟩=some (.slice (some ⟨rb,0,none⟩) f.length c)∧cellAt h' ⟨rb,0,none⟩=some (.string ⟨w.toArray⟩)∧f.length≠0:=by
 have h0:=x.f0
 obtain⟨hl,he⟩:=List.getElem?_eq_some_iff.1 h0
 have h1:=x.rf.at_ 0 hl
 rw[he]at h1
 exact⟨aI X x.bx x.cb,aI X x.rx h1,by omega⟩
theorem Vn {fr0:Fr}{H:Heap}{r m b xb rb c ix:Nat}{f:List (List UInt8)}{w:List UInt8}{o:UInt8}{s:ByteArray}(x:mK fr0 H r m b xb rb c f w) (he:rC di ix=some (.int .u8 (o.toNat:Int),.agg ⟨[.string s]⟩)) (hw:w≠(dF o.toNat).1) :
  jO A8 74 ⟨zR 22 (some 23),[],22,r,m,di,8⟩ fr0 H (.int .u8 (o.toNat:Int),.agg ⟨[.string s]⟩,ix) fun f3 h3=>jK ⟨zR 22 (some 23),[],22,r,m,di,8⟩ fr0 H (f3,h3):=by
 refine yK (by decide) ?_
 have g1:=aj x.g1
 have g22:=aj x.g22
 have xr:=x.xr
 obtain⟨cb,ca,hl⟩:=x.at0 (uf (H:=H) (r:=r) (fa.iW m ix 8) (by omega))
 have hne:¬((⟨(dF o.toNat).1.toArray⟩:ByteArray)=⟨w.toArray⟩):=fun e=>hw (str_inj.1 e).symm
 show fm env uV _ _ _
 simp -dsimp only[↓WB,↓uw,WP,ae,Nat.reduceEqDiff,Nat.reduceAdd,↓gM,↓g1,↓g22]
 refine Ha (es:=di) (p:=(.int .u8 (o.toNat:Int),.agg ⟨[.string s]⟩)) (by exact T.get_set_same _ _ _) (by rw[aG x.lU];exact x.hm) x.Aq he ?_
 simp -dsimp only[↓WB,↓uw,WP,ae,Nat.reduceEqDiff,Nat.reduceAdd,↓gM,↓g1,↓g22]
 refine kO ?_
 unfold aq
 (with_reducible repeat' (first|refine y4 ?_|simp -dsimp only[↓WB,↓uw,WP,ae,Nat.reduceEqDiff,Nat.reduceAdd,↓gM,↓g1,↓g22,cb,ca,Nat.zero_add,Nat.zero_mul,hne]))
 refine HK (Nat.le_refl _) (fun i _ hir=>aG hir) fun s v hv=>?_
 have hs:=x.hD s v hv
 repeat rw[T.ar _ _ (by omega)]
 exact hv
theorem kB (n:Int):IntKind.wrap .u8 n=((bu n).toNat:Int):=by rw[ju,IntKind.wrap_u8]
theorem Jo (n:Int):n.fdiv (2 ^ min (Int.toNat 8) IntKind.i64.bits)=n.fdiv 256:=rfl
theorem Xz {fr0:Fr}{H:Heap}{r m b xb rb c ix:Nat}{f:List (List UInt8)}{w:List UInt8}{o:UInt8}{s:ByteArray}{K:Fr→Heap→Prop}(x:mK fr0 H r m b xb rb c f w) (he:rC di ix=some (.int .u8 (o.toNat:Int),.agg ⟨[.string s]⟩)) (hw:w=(dF o.toNat).1) (ho:o.toNat<8)
  (hx:dm H xb (bD 0 0 0 0) 125)
  (hK:∀ f3 H3,(∀ t,(t≤3∨(11≤t∧t≤22))→f3.get t=fr0.get t)→ai xb H H3→dm H3 xb (bD o (fw f (dF o.toNat).2.1 (dF o.toNat).2.1.length).1 (fw f (dF o.toNat).2.1 (dF o.toNat).2.1.length).2.1 (fw f (dF o.toNat).2.1 (dF o.toNat).2.1.length).2.2) 125→(∀ i,i<H.n→i≠xb→i≠r→H3.b.get i=H.b.get i)→K f3 H3) :
  jO A8 74 ⟨zR 22 (some 23),[],22,r,m,di,8⟩ fr0 H (.int .u8 (o.toNat:Int),.agg ⟨[.string s]⟩,ix) K:=by
 refine yK (by decide) ?_
 have g1:=aj x.g1
 have g2:=aj x.g2
 have g3:=aj x.g3
 have g22:=aj x.g22
 have xr:=x.xr
 have xm:=x.xm
 have rn:=x.rn
 have x5:=x.x5
 have X1:=uf (B:=xb) (H:=H) (r:=r) (fa.iW m ix 8) (by omega)
 obtain⟨cb,ca,hl⟩:=x.at0 X1
 show fm env uV _ _ _
 simp -dsimp only[↓WB,↓uw,WP,ae,Nat.reduceEqDiff,Nat.reduceAdd,↓gM,↓g1,↓g2,↓g3,↓g22]
 refine Ha (es:=di) (p:=(.int .u8 (o.toNat:Int),.agg ⟨[.string s]⟩)) (by exact T.get_set_same _ _ _) (by rw[aG x.lU];exact x.hm) x.Aq he ?_
 simp -dsimp only[↓WB,↓uw,WP,ae,Nat.reduceEqDiff,Nat.reduceAdd,↓gM,↓g1,↓g2,↓g3,↓g22]
 refine kO ?_
 unfold aq
 subst hw
 (with_reducible repeat' (first|refine y4 ?_|simp -dsimp only[↓WB,↓nG,↓nW,↓kq,↓og,↓kN,↓oG,WP,ae,Nat.reduceEqDiff,Nat.reduceAdd,↓gM,↓kc,↓g1,↓g2,↓g3,↓g22,cb,ca,Nat.zero_add,Nat.zero_mul,eq_self]))
 have hx1:dm (bX H r (fa.iW m ix 8)) xb (bD 0 0 0 0) 125:=⟨hx.lt,by rw[aG (by omega)];exact hx.get⟩
 have ho1:∀ i,i≠r→(bX H r (fa.iW m ix 8)).b.get i=H.b.get i:=fun i hi=>aG hi
 have hn1:(bX H r (fa.iW m ix 8)).n=H.n:=rfl
 generalize bX H r (fa.iW m ix 8)=H1 at hx1 hn1 ho1 X1 ⊢
 refine bN (off:=0) (cs':=bD o 0 0 0) hx1.get rfl rfl rfl rfl (by decide) ?_
 have hx2:dm { H1 with b:=H1.b.set xb (.cells (bD o 0 0 0) 125 true) } xb (bD o 0 0 0) 125:=hx1.set
 have X2:ai xb H { H1 with b:=H1.b.set xb (.cells (bD o 0 0 0) 125 true) }:=X1.trans (ai.set _ (Nat.le_refl _))
 have ho2:∀ i,i≠xb→i≠r→({ H1 with b:=H1.b.set xb (.cells (bD o 0 0 0) 125 true) }:Heap).b.get i=H.b.get i:=fun i h1 h2=>(T.ar _ _ (Ne.symm h1)).trans (ho1 i h2)
 have hn2:({ H1 with b:=H1.b.set xb (.cells (bD o 0 0 0) 125 true) }:Heap).n=H.n:=hn1
 generalize ({ H1 with b:=H1.b.set xb (.cells (bD o 0 0 0) 125 true) }:Heap)=H2 at hx2 X2 ho2 hn2 ⊢
 have hchs:=vj ho
 have hlen:=qt o.toNat
 generalize (dF o.toNat).2.1=nm at hchs hlen hK ⊢
 simp -dsimp only[↓WB,↓uw,WP,ae,Nat.reduceEqDiff,Nat.reduceAdd,↓gM,↓kc,↓g1,↓g2,↓g3,↓g22]
 refine uH iV ?_
 have hi3:(af H2 (.aO ⟨nm.toArray⟩ 0)).b.get H.n=some (.aO ⟨nm.toArray⟩ 0):=by rw[← hn2];exact aC _ _
 have hx3:=hx2.ext (ai.new (B:=H2.n) (.aO ⟨nm.toArray⟩ 0) (Nat.le_refl _)) hx2.lt
 have X3:ai xb H (af H2 (.aO ⟨nm.toArray⟩ 0)):=X2.trans (ai.new _ (by omega))
 have ho3:∀ i,i<H.n→i≠xb→i≠r→(af H2 (.aO ⟨nm.toArray⟩ 0)).b.get i=H.b.get i:=fun i hi h1 h2=>by rw[fB _ (by omega)];exact ho2 i h1 h2
 have hn3:(af H2 (.aO ⟨nm.toArray⟩ 0)).n=H.n+1:=by rw[ae,hn2]
 rw[hn2]
 generalize af H2 (.aO ⟨nm.toArray⟩ 0)=H3 at hi3 hx3 X3 ho3 hn3 ⊢
 simp -dsimp only[↓WB,↓uw,WP,ae,Nat.reduceEqDiff,Nat.reduceAdd,↓gM,↓kc,↓dE,↓g1,↓g2,↓g3,↓g22]
 refine aE (fun k fr' h'=>∃ j:Nat,j≤nm.length∧k=nm.length-j∧ai xb H h'∧(∀ i,i<H.n→i≠xb→i≠r→h'.b.get i=H.b.get i)∧H.n<h'.n∧h'.b.get H.n=some (.aO ⟨nm.toArray⟩ j)∧dm h' xb (bD o (fw f nm j).1 (fw f nm j).2.1 (fw f nm j).2.2) 125) nm.length ?_ (by omega) ?_
 ·exact⟨0,by omega,by omega,X3,ho3,by omega,hi3,hx3⟩
 clear X3 X2 X1 hx3 hx2 hx1 ho3 ho2 ho1 hi3
 rintro k fr2 h5 ⟨j,hj,rfl,X5,ho5,n5,i5,B5⟩ hag
 have b1:=au (hag 1 rfl)
 have b2:=au (hag 2 rfl)
 have b3:=au (hag 3 rfl)
 have b41:=au (hag 41 rfl)
 by_cases aB:j<nm.length
 ·have hch:=hchs _ (List.getElem_mem aB);have hasc:nm[j].toNat<128:=by rcases hch with e|e|e|e|e<;>rw[e]<;>decide
  simp -dsimp only[↓WB,↓uw,WP,ae,Nat.reduceEqDiff,Nat.reduceAdd,↓dE,↓b1,↓b2,↓b3,↓b41,↓g1,↓g2,↓g3,↓g22];refine rK i5 aB hasc ?_;have X6:ai xb H { h5 with b:=h5.b.set H.n (.aO ⟨nm.toArray⟩ (j+1)) }:=X5.trans (ai.set _ (by omega));have i6:({ h5 with b:=h5.b.set H.n (.aO ⟨nm.toArray⟩ (j+1)) }:Heap).b.get H.n=some (.aO ⟨nm.toArray⟩ (j+1)):=T.get_set_same _ _ _;have n6:({ h5 with b:=h5.b.set H.n (.aO ⟨nm.toArray⟩ (j+1)) }:Heap).n=h5.n:=rfl;have o6:∀ i,i<H.n→i≠xb→i≠r→({ h5 with b:=h5.b.set H.n (.aO ⟨nm.toArray⟩ (j+1)) }:Heap).b.get i=H.b.get i:=fun i hi h1 h2=>(T.ar _ _ (by omega)).trans (ho5 i hi h1 h2);have B6:dm { h5 with b:=h5.b.set H.n (.aO ⟨nm.toArray⟩ (j+1)) } xb (bD o (fw f nm j).1 (fw f nm j).2.1 (fw f nm j).2.2) 125:=B5.setOther (by omega);generalize ({ h5 with b:=h5.b.set H.n (.aO ⟨nm.toArray⟩ (j+1)) }:Heap)=h6 at X6 i6 n6 o6 B6 ⊢;have w1:IntKind.wrap .i64 ((j:Int)+1)=((j+1:Nat):Int):=by rw[wrap_i64 (by omega) (by omega)];omega
  simp -dsimp only[↓WB,↓uw,WP,ae,Nat.reduceEqDiff,Nat.reduceAdd,↓dE,↓b1,↓b2,↓b3,↓b41,↓g1,↓g2,↓g3,↓g22,w1];refine vM (i:=j+1) (x.gk.ext x5 X6) (x.at0 X6).1 (x.rf.YN X6 x.rx) x.fs fun h7 X7=>?_;have n7:=X7.n;have X67:ai xb H h7:=X6.trans (X7.mono (by omega));have i7:h7.b.get H.n=some (.aO ⟨nm.toArray⟩ (j+1)):=by rw[X7.get _ (by omega)];exact i6
  have o7:∀ i,i<H.n→i≠xb→i≠r→h7.b.get i=H.b.get i:=fun i hi h1 h2=>(X7.get i (by omega)).trans (o6 i hi h1 h2);have B7:=B6.ext X7 B6.lt;have ks:fw f nm (j+1)=sP (hZ f (j+1)) (fw f nm j) nm[j]:=by rw[fw];congr 1;rw[List.getD_eq_getElem?_getD,List.getElem?_eq_getElem aB];rfl
  generalize fw f nm j=s0 at B7 ks;generalize hZ f (j+1)=nn at ks ⊢;obtain⟨s1,s2,s3⟩:=s0;have fin:∀ (h8:Heap) (s':UInt8×UInt8×UInt8),fw f nm (j+1)=s'→ai xb H h8→h8.n=h7.n→(∀ i,i≠xb→h8.b.get i=h7.b.get i)→dm h8 xb (bD o s'.1 s'.2.1 s'.2.2) 125 →
    ∃ m',m'<nm.length-j∧∃ j',j'≤nm.length∧m'=nm.length-j'∧ai xb H h8∧(∀ i,i<H.n→i≠xb→i≠r→h8.b.get i=H.b.get i)∧H.n<h8.n∧h8.b.get H.n=some (.aO ⟨nm.toArray⟩ j')∧dm h8 xb (bD o (fw f nm j').1 (fw f nm j').2.1 (fw f nm j').2.2) 125 :=
   fun h8 s' e X n8 g8 bx=>⟨nm.length-(j+1),by omega,j+1,by omega,rfl,X,fun i hi h1 h2=>(g8 i h1).trans (o7 i hi h1 h2),by omega,by rw[g8 _ (by omega)];exact i7,by rw[e];exact bx⟩
  have st1:∀ cs,dm { h7 with b:=h7.b.set xb (.cells cs 125 true) } xb cs 125:=fun cs=>B7.set;have sx1:∀ k,ai xb H { h7 with b:=h7.b.set xb k }:=fun k=>X67.trans (ai.set _ (Nat.le_refl _));have sg1:∀ k i,i≠xb→({ h7 with b:=h7.b.set xb k }:Heap).b.get i=h7.b.get i:=fun k i hi=>T.ar _ _ (Ne.symm hi);rcases hch with e|e|e|e|e
  ·have e':(nm[j].toNat:Int)=97:=by rw[e];rfl
   rw[e,sP,if_pos rfl]at ks;simp -dsimp only[↓WB,↓uw,WP,ae,Nat.reduceEqDiff,Nat.reduceAdd,↓dE,↓b1,↓b2,↓b3,↓b41,↓g1,↓g2,↓g3,↓g22,e',kB,Jo];refine bN (cs':=bD o (bu nn) s2 s3) B7.get rfl rfl rfl rfl (by decide) ?_;simp -dsimp only[↓WB,↓uw,WP,ae,Nat.reduceEqDiff,Nat.reduceAdd,↓dE,↓b1,↓b2,↓b3,↓b41,↓g1,↓g2,↓g3,↓g22,e',kB,Jo];exact fin _ _ ks (sx1 _) rfl (sg1 _) (st1 _)
  ·have e':(nm[j].toNat:Int)=98:=by rw[e];rfl
   rw[e,sP,if_neg (by decide),if_pos rfl]at ks;(with_reducible repeat' (first|refine y2 ?_|simp -dsimp only[↓WB,↓uw,WP,ae,Nat.reduceEqDiff,Nat.reduceAdd,↓dE,↓b1,↓b2,↓b3,↓b41,↓g1,↓g2,↓g3,↓g22,e',kB,Jo]));refine bN (cs':=bD o s1 (bu nn) s3) B7.get rfl rfl rfl rfl (by decide) ?_;simp -dsimp only[↓WB,↓uw,WP,ae,Nat.reduceEqDiff,Nat.reduceAdd,↓dE,↓b1,↓b2,↓b3,↓b41,↓g1,↓g2,↓g3,↓g22,e',kB,Jo];exact fin _ _ ks (sx1 _) rfl (sg1 _) (st1 _)
  ·have e':(nm[j].toNat:Int)=99:=by rw[e];rfl
   rw[e,sP,if_neg (by decide),if_neg (by decide),if_pos rfl]at ks;(with_reducible repeat' (first|refine y2 ?_|simp -dsimp only[↓WB,↓uw,WP,ae,Nat.reduceEqDiff,Nat.reduceAdd,↓dE,↓b1,↓b2,↓b3,↓b41,↓g1,↓g2,↓g3,↓g22,e',kB,Jo]));refine bN (cs':=bD o s1 s2 (bu nn)) B7.get rfl rfl rfl rfl (by decide) ?_;simp -dsimp only[↓WB,↓uw,WP,ae,Nat.reduceEqDiff,Nat.reduceAdd,↓dE,↓b1,↓b2,↓b3,↓b41,↓g1,↓g2,↓g3,↓g22,e',kB,Jo];exact fin _ _ ks (sx1 _) rfl (sg1 _) (st1 _)
  ·have e':(nm[j].toNat:Int)=110:=by rw[e];rfl
   rw[e,sP,if_neg (by decide),if_neg (by decide),if_neg (by decide)]at ks;(with_reducible repeat' (first|refine y2 ?_|refine y5 ?_|simp -dsimp only[↓WB,↓uw,WP,ae,Nat.reduceEqDiff,Nat.reduceAdd,↓dE,↓b1,↓b2,↓b3,↓b41,↓g1,↓g2,↓g3,↓g22,e',kB,Jo]));refine bN (cs':=bD o s1 (bu (nn.fdiv 256)) s3) B7.get rfl rfl rfl rfl (by decide) ?_;have C8:=st1 (bD o s1 (bu (nn.fdiv 256)) s3);have X8:=sx1 (.cells (bD o s1 (bu (nn.fdiv 256)) s3) 125 true);have G8:=sg1 (.cells (bD o s1 (bu (nn.fdiv 256)) s3) 125 true);have n8:({ h7 with b:=h7.b.set xb (.cells (bD o s1 (bu (nn.fdiv 256)) s3) 125 true) }:Heap).n=h7.n:=rfl;generalize ({ h7 with b:=h7.b.set xb (.cells (bD o s1 (bu (nn.fdiv 256)) s3) 125 true) }:Heap)=h8 at C8 X8 G8 n8 ⊢;simp -dsimp only[↓WB,↓uw,WP,ae,Nat.reduceEqDiff,Nat.reduceAdd,↓dE,↓b1,↓b2,↓b3,↓b41,↓g1,↓g2,↓g3,↓g22,e',kB,Jo];refine bN (cs':=bD o s1 (bu (nn.fdiv 256)) (bu nn)) C8.get rfl rfl rfl rfl (by decide) ?_;simp -dsimp only[↓WB,↓uw,WP,ae,Nat.reduceEqDiff,Nat.reduceAdd,↓dE,↓b1,↓b2,↓b3,↓b41,↓g1,↓g2,↓g3,↓g22,e',kB,Jo];exact fin _ _ ks (X8.trans (ai.set _ (Nat.le_refl _))) n8 (fun i hi=>(T.ar _ _ (Ne.symm hi)).trans (G8 i hi)) C8.set
  ·have e':(nm[j].toNat:Int)=100:=by rw[e];rfl
   rw[e,sP,if_neg (by decide),if_neg (by decide),if_neg (by decide)]at ks;(with_reducible repeat' (first|refine y2 ?_|refine y5 ?_|simp -dsimp only[↓WB,↓uw,WP,ae,Nat.reduceEqDiff,Nat.reduceAdd,↓dE,↓b1,↓b2,↓b3,↓b41,↓g1,↓g2,↓g3,↓g22,e',kB,Jo]));refine bN (cs':=bD o s1 (bu (nn.fdiv 256)) s3) B7.get rfl rfl rfl rfl (by decide) ?_;have C8:=st1 (bD o s1 (bu (nn.fdiv 256)) s3);have X8:=sx1 (.cells (bD o s1 (bu (nn.fdiv 256)) s3) 125 true);have G8:=sg1 (.cells (bD o s1 (bu (nn.fdiv 256)) s3) 125 true);have n8:({ h7 with b:=h7.b.set xb (.cells (bD o s1 (bu (nn.fdiv 256)) s3) 125 true) }:Heap).n=h7.n:=rfl;generalize ({ h7 with b:=h7.b.set xb (.cells (bD o s1 (bu (nn.fdiv 256)) s3) 125 true) }:Heap)=h8 at C8 X8 G8 n8 ⊢;simp -dsimp only[↓WB,↓uw,WP,ae,Nat.reduceEqDiff,Nat.reduceAdd,↓dE,↓b1,↓b2,↓b3,↓b41,↓g1,↓g2,↓g3,↓g22,e',kB,Jo];refine bN (cs':=bD o s1 (bu (nn.fdiv 256)) (bu nn)) C8.get rfl rfl rfl rfl (by decide) ?_;simp -dsimp only[↓WB,↓uw,WP,ae,Nat.reduceEqDiff,Nat.reduceAdd,↓dE,↓b1,↓b2,↓b3,↓b41,↓g1,↓g2,↓g3,↓g22,e',kB,Jo];exact fin _ _ ks (X8.trans (ai.set _ (Nat.le_refl _))) n8 (fun i hi=>(T.ar _ _ (Ne.symm hi)).trans (G8 i hi)) C8.set
 ·have hje:j=nm.length:=by omega
  subst hje;simp -dsimp only[↓WB,↓uw,WP,ae,Nat.reduceEqDiff,Nat.reduceAdd,↓dE,↓b1,↓b2,↓b3,↓b41,↓g1,↓g2,↓g3,↓g22];refine mS i5 (by rw[ak];omega) ?_;simp -dsimp only[↓WB,↓uw,WP,ae,Nat.reduceEqDiff,Nat.reduceAdd,↓dE,↓b1,↓b2,↓b3,↓b41,↓g1,↓g2,↓g3,↓g22];refine hK _ _ (fun t ht=>?_) X5 B5 ho5;have e1:fr2.get t=fr0.get t:=by
   have hw:AU.wr t=false:=by
    have key:∀ i:Fin 23,(i.1≤3∨11≤i.1)→AU.wr i.1=false:=by decide +kernel
    exact key ⟨t,by omega⟩ (by simp only;omega)
   rw[hag t hw];repeat rw[T.ar _ _ (by omega)]
  rw[← e1];repeat rw[T.ar _ _ (by omega)]
theorem eZ {D:List Nat}{fr:Fr}:∀ {ts:List Nat}{t:Nat}{v:Value},(dH D fr ts).get t=some v→fr.get t=some v
 | [],t,v,h=>by simp[dH,T.fL]at h
 | s::ts,t,v,h=>by
   simp only[dH]at h;cases hc:D.any (Nat.beq s) with
   | true=>rw[hc]at h;exact eZ (ts:=ts) h
   | false =>
     rw[hc,cond_false]at h
     split at h
     · rename_i u hu;by_cases hst:s=t;· subst hst;rw[T.get_set_same]at h;rw[hu,h]
       · rw[T.ar _ _ hst]at h;exact eZ (ts:=ts) h
     · exact eZ (ts:=ts) h
theorem uW {fr0 f:Fr}{t:Nat}{u v:Value}(h0:fr0.get t=some u) (h1:f.get t=some v):∀ {ts:List Nat},t∈ts→(eD fr0 f ts).get t=some v
 | s::ts,h=>by
   simp only[eD];by_cases hst:s=t;· subst hst;rw[h0,h1];exact T.get_set_same _ _ _
   · have hm:t∈ts:=by
       rcases List.mem_cons.1 h with h|h;· exact absurd h.symm hst
       · exact h
     split;· rw[T.ar _ _ hst];exact uW h0 h1 hm
     · exact uW h0 h1 hm
theorem sV {fr0 f:Fr}:∀ {ts:List Nat}{t:Nat}{v:Value},(eD fr0 f ts).get t=some v→∃ u,fr0.get t=some u
 | [],t,v,h=>by simp[eD,T.fL]at h
 | s::ts,t,v,h=>by
   simp only[eD]at h;split at h
   · rename_i u u' h0 h1;by_cases hst:s=t;· subst hst;exact⟨_,h0⟩
     · rw[T.ar _ _ hst]at h;exact sV (ts:=ts) h
   · exact sV (ts:=ts) h
theorem tg {w:ByteArray}:∀ {l:List (List UInt8)}{n:Nat},(∀ x∈l,w≠⟨x.toArray⟩)→nC w l n=none
 | [],_,_=>rfl
 | x::l,n,h=>by
   have:eqStr w ⟨x.toArray⟩=false:=by
     cases hc:eqStr w ⟨x.toArray⟩ with
     | true=>exact absurd (mA hc) (h x List.mem_cons_self)
     | false=>rfl
   rw[nC,this,cond_false];exact tg fun y hy=>h y (List.mem_cons_of_mem _ hy)
theorem El:oS=(List.range 8).map fun o=>(dF o).1:=by decide +kernel
theorem En (w:List UInt8):(∃ o,o<8∧w=(dF o).1∧xI w=some o)∨((∀ o,o<8→w≠(dF o).1)∧xI w=none):=by
 cases h:xI w with
 | none =>
   refine .inr ⟨fun o ho e=>?_,rfl⟩
   rw[e,ka ho]at h;cases h
 | some o =>
   have h1:=List.find?_some h
   have h2:=List.mem_of_find?_eq_some h
   exact .inl ⟨o,List.mem_range.1 h2,(of_decide_eq_true h1).symm,rfl⟩
theorem Ij {o:Nat}(ho:o<8):nC ⟨(dF o).1.toArray⟩ oS 0=some o:=by
 have key:∀ i:Fin 8,nC ⟨(dF i.1).1.toArray⟩ oS 0=some i.1:=by decide +kernel
 exact key ⟨o,ho⟩
theorem I5 {w:List UInt8}(h:∀ o,o<8→w≠(dF o).1):nC ⟨w.toArray⟩ oS 0=none:=by refine tg fun x hx e=>?_;rw[El]at hx;obtain⟨o,ho,rfl⟩:=List.mem_map.1 hx;exact h o (List.mem_range.1 ho) (str_inj.1 e)
def Vy (o:Nat):ByteArray:=match di[o]? with
 | some (_,.agg ⟨[.string s]⟩,_)=>s
 | _=>⟨#[]⟩
theorem EM {o:Nat}(ho:o<8):∃ h:o<di.length,di[o]=(.int .u8 ((UInt8.ofNat o).toNat:Int),.agg ⟨[.string (Vy o)]⟩,o):=by refine⟨ho,?_⟩;rcases o with _|_|_|_|_|_|_|_|o;all_goals first
  | rfl
  | omega
theorem Gm {o:Nat}(ho:o<8):rC di o=some (.int .u8 ((UInt8.ofNat o).toNat:Int),.agg ⟨[.string (Vy o)]⟩):=by rcases o with _|_|_|_|_|_|_|_|o;all_goals first
  | rfl
  | omega
theorem SI {o:Nat}(ho:o<8):yJ o di=some (.int .u8 ((UInt8.ofNat o).toNat:Int),.agg ⟨[.string (Vy o)]⟩,o):=by rcases o with _|_|_|_|_|_|_|_|o;all_goals first
  | rfl
  | omega
theorem AG {o:Nat}(ho:o<8):(UInt8.ofNat o).toNat=o:=by simp;omega
theorem zn {fr0:Fr}{H:Heap}{r m:Nat}{Q:Ex→Fr→Heap→Prop}(q:Q (.exit 0) ((fr0.set 23 (.tuple #[.bool false])).set 24 (.bool false)) (bX H r .dead)):vd A8 74 ⟨zR 22 (some 23),[],22,r,m,di,8⟩ fr0 H Q:=by refine Rz (by decide) ?_;show fm env uV _ _ _;simp -dsimp only[↓WB,↓uw,WP,ae,Nat.reduceEqDiff,Nat.reduceAdd];exact⟨by simp,q⟩
theorem tc {fr0:Fr}{H:Heap}{r m b xb rb c:Nat}{f:List (List UInt8)}{w:List UInt8}{sp:Option Nat}(x:mK fr0 H r m b xb rb c f w) (hs:∀ k,k<8→sp≠some k→w≠(dF k).1):wS A8 74 ⟨zR 22 (some 23),[],22,r,m,di,8⟩ sp fr0 H:=by intro e he hne;obtain⟨o,ho,rfl⟩:=List.getElem_of_mem he;have ho8:o<8:=ho;obtain⟨_,e⟩:=EM ho8;rw[e]at hne ⊢;refine Vn x (Gm ho8) ?_;rw[AG ho8];exact hs o ho8 hne
theorem Dw {fr:Fr}{H:Heap}{r m b xb rb c:Nat}{f:List (List UInt8)}{w:List UInt8}{D:List Nat}{Q:Ex→Fr→Heap→Prop}(x:mK (dH D fr (List.range 74)) H r m b xb rb c f w) (hx:dm H xb (bD 0 0 0 0) 125)
  (f22:fr.get 22=some (.pointer (some ⟨r,0,none⟩))) (f1:fr.get 1=some (.pointer (some ⟨b,0,none⟩))) (hr:H.b.get r=some (.dY (some m) 8 [] 8))
  (q:∀ fr' H',ai xb H H'→fr'.get 2=some (.pointer (some ⟨xb,0,none⟩))→dm H' xb (match xI w with|none=>bD 0 0 0 0|some o=>bD (UInt8.ofNat o) (fw f (dF o).2.1 (dF o).2.1.length).1 (fw f (dF o).2.1 (dF o).2.1.length).2.1 (fw f (dF o).2.1 (dF o).2.1.length).2.2) 125→Q (.exit 0) fr' H') :
  (GC.wR 22 (some 23) uV Bi D).wp env 74 none fr H Q:=by
 obtain⟨c1,c2,hl⟩:=x.at0 (ai.refl _ _)
 have h8:Nat.beq di.length 8=true:=rfl
 have ho:env.W8 di fr H=some (nC ⟨w.toArray⟩ oS 0):=by show VP di fr H=_;simp only[VP,h8,cond_true,f1,c1,c2]
 have xr:=x.xr
 have xm:=x.xm
 have hdead:∀ {H':Heap}(bx:List Value),dm H' xb bx 125→dm (bX H' r .dead) xb bx 125:=fun bx h=>⟨h.lt,by rw[aG (by omega)];exact h.get⟩
 rcases En w with ⟨o,ho8,hw,hof⟩|⟨hno,hof⟩
 ·rw[hof]at q;subst hw;rw[Ij ho8]at ho;refine Ct f22 hr x.hm x.rn x.Aq (Ne.symm x.lU) (by decide) ho ⟨?_,?_,_,SI ho8,?_⟩;·simp only[atR,x.g22,Nat.beq_refl]
  ·refine tc x fun k hk hne e=>hne ?_;have h1:=ka ho8;rw[e,ka hk]at h1;exact h1.symm
  have hw8:(dF o).1=(dF (UInt8.ofNat o).toNat).1:=by rw[AG ho8]
  refine Xz x (Gm ho8) hw8 (by rw[AG ho8];exact ho8) hx fun f3 H3 hf X3 B3 o3=>?_;rw[AG ho8]at B3;have n3:=X3.n;have hkeep:∀ t v,(dH D fr (List.range 74)).get t=some v→(eD (dH D fr (List.range 74)) f3 (List.range 74)).get t=some v:=fun t v hv=>by have ht:=x.hD t v hv;exact uW hv (by rw[hf t ht];exact hv) (List.mem_range.2 (by omega))
  have hm3:H3.b.get m=H.b.get m:=o3 m x.Aq (by omega) x.lU;have x3:mK (eD (dH D fr (List.range 74)) f3 (List.range 74)) H3 r m b xb rb c f (dF o).1 :=
   ⟨hkeep _ _ x.g1,hkeep _ _ x.g2,hkeep _ _ x.g3,hkeep _ _ x.g22,by rw[hm3];exact x.hm,Nat.lt_of_lt_of_le x.Aq n3,x.lU,aI X3 x.bx x.cb,x.rf.YN X3 x.rx,x.gk.ext x.x5 X3,x.f0,x.fs,x.bx,x.rx,x.x5,x.xr,x.xm,Nat.lt_of_lt_of_le x.rn n3,fun t v hv=>let ⟨u,hu⟩:=sV hv;x.hD t u hu⟩
  refine⟨n3,hm3,?_,?_,zn ?_⟩;·simp only[atR,x3.g22,Nat.beq_refl]
  ·refine tc x3 fun k hk hne e=>hne ?_;have h1:=ka ho8;rw[e,ka hk]at h1;exact h1.symm
  ·refine q _ _ (X3.trans (uf _ (by omega))) ?_ (hdead _ B3);rw[T.ar _ _ (by decide),T.ar _ _ (by decide)];exact x3.g2
 ·rw[hof]at q;rw[I5 hno]at ho;refine Ct f22 hr x.hm x.rn x.Aq (Ne.symm x.lU) (by decide) ho ⟨?_,?_,zn ?_⟩;·simp only[atR,x.g22,Nat.beq_refl]
  ·exact tc x fun k hk _=>hno k hk
  ·refine q _ _ (uf _ (by omega)) ?_ (hdead _ hx);rw[T.ar _ _ (by decide),T.ar _ _ (by decide)];exact x.g2
theorem WW:EO env 158=true:=by kernel_rfl
theorem VV (n:Int):bu (16+((bu n).toNat:Int))=bu (16+n):=gr (by rw[ju,ju];omega)
theorem HL {rb c:Nat}{f:List (List UInt8)}{h:Heap}{K:Value→Heap→Prop}(gk:rW h) (r:FP h rb f) (hl:f.length≠0) (hs:∀ w∈f,w.length≤1000000)
  (hK:∀ h',ai h.n h h'→K (.agg ⟨[.int .u8 ((dV f).1.toNat:Int),.int .u8 ((dV f).2.1.toNat:Int),.int .u8 ((dV f).2.2.1.toNat:Int),.int .u8 ((dV f).2.2.2.toNat:Int)]⟩) h'):bT env (.func 80) [.slice (some ⟨rb,0,none⟩) f.length c] h K:=by
 have gn:=gk.n
 have rlt:=r.lt
 obtain⟨w,f',rfl⟩:∃ w f',f=w::f':=by
  cases f with
  | nil=>exact absurd rfl hl
  | cons w f'=>exact⟨w,f',rfl⟩
 have ra:=r.at_ 0 (by simp)
 simp only[List.getElem_cons_zero]at ra
 have hn:(w::f').length=f'.length+1:=rfl
 refine F80 rfl ?_
 simp -dsimp only[↓WB,↓nG,↓hG,↓nW,↓kq,↓og,↓oG,WP,ae,Nat.reduceEqDiff,Nat.reduceAdd]
 have X1:ai h.n h (af h (.cells [.slice (some ⟨rb,0,none⟩) (w::f').length c] 65 true)):=ai.new _ (Nat.le_refl _)
 have c1:cellAt (af h (.cells [.slice (some ⟨rb,0,none⟩) (w::f').length c] 65 true)) ⟨h.n,0,none⟩=some (.slice (some ⟨rb,0,none⟩) (w::f').length c):=bB.trans rfl
 have n1:(af h (.cells [.slice (some ⟨rb,0,none⟩) (w::f').length c] 65 true)).n=h.n+1:=rfl
 generalize af h (.cells [.slice (some ⟨rb,0,none⟩) (w::f').length c] 65 true)=h1 at X1 c1 n1 ⊢
 have X2:ai h1.n h1 (af h1 (.cells [.int .u8 0,.int .u8 0,.int .u8 0,.int .u8 0] 125 true)):=ai.new _ (Nat.le_refl _)
 have B2:=dm.new h1 [.int .u8 0,.int .u8 0,.int .u8 0,.int .u8 0] 125
 have n2:(af h1 (.cells [.int .u8 0,.int .u8 0,.int .u8 0,.int .u8 0] 125 true)).n=h.n+2:=by show h1.n+1=_;omega
 rw[n1]at B2 ⊢
 generalize af h1 (.cells [.int .u8 0,.int .u8 0,.int .u8 0,.int .u8 0] 125 true)=h2 at X2 B2 n2 ⊢
 have X02:ai h.n h h2:=X1.trans (X2.mono (by omega))
 have c2:=aI X2 (by omega) c1
 have r2:=r.ext X02
 have ra2:=aI X02 rlt ra
 unfold aq at ra2
 have gk2:=gk.ext (B:=h.n) gn X02
 by_cases hc:w=xh
 ·have e:((⟨w.toArray⟩:ByteArray)=⟨⟨[99,97,108,108]⟩⟩)=True:=eq_true (by rw[hc];rfl);have hi:dV (w::f')=(bu (16+hZ (w::f') 1),0,0,0):=by unfold dV;rw[if_pos (by rw[hc];rfl)]
  rw[hi]at hK;(with_reducible repeat' (first|refine y4 ?_|simp -dsimp only[↓WB,↓nG,↓hG,↓nW,↓kq,↓og,↓oG,WP,ae,Nat.reduceEqDiff,Nat.reduceAdd,c2,ra2,e,Nat.zero_add,Nat.zero_mul]));refine vM (i:=1) gk2 c2 r2 hs fun h3 X3=>?_;have n3:=X3.n;have B3:=B2.ext X3 B2.lt;(with_reducible repeat' (first|refine y9 ?_|simp -dsimp only[↓WB,↓nG,↓hG,↓nW,↓kq,↓og,↓oG,WP,ae,Nat.reduceEqDiff,Nat.reduceAdd,kB,VV]));refine bN (cs':=bD (bu (16+hZ (w::f') 1)) 0 0 0) B3.get rfl rfl rfl rfl (by decide) ?_;have B4:=B3.set (cs':=bD (bu (16+hZ (w::f') 1)) 0 0 0);have X4:ai h.n h3 { h3 with b:=h3.b.set (h.n+1) (.cells (bD (bu (16+hZ (w::f') 1)) 0 0 0) 125 true) }:=ai.set _ (by omega);generalize ({ h3 with b:=h3.b.set (h.n+1) (.cells (bD (bu (16+hZ (w::f') 1)) 0 0 0) 125 true) }:Heap)=h4 at B4 X4 ⊢;have d4:ax h4 ⟨h.n+1,0,none⟩ 4=some [.int .u8 ((bu (16+hZ (w::f') 1)).toNat:Int),.int .u8 ((0:UInt8).toNat:Int),.int .u8 ((0:UInt8).toNat:Int),.int .u8 ((0:UInt8).toNat:Int)]:=aJ B4.lt B4.get rfl rfl;simp -dsimp only[↓WB,↓nG,↓hG,↓nW,↓kq,↓og,↓oG,WP,ae,Nat.reduceEqDiff,Nat.reduceAdd,d4];exact hK _ ((X02.trans (X3.mono (by omega))).trans X4)
 ·have e:¬((⟨w.toArray⟩:ByteArray)=⟨⟨[99,97,108,108]⟩⟩):=fun e=>hc (str_inj.1 e);(with_reducible repeat' (first|refine y4 ?_|simp -dsimp only[↓WB,↓nG,↓hG,↓nW,↓og,↓kN,↓oG,WP,ae,Nat.reduceEqDiff,Nat.reduceAdd,c2,ra2,e,Nat.zero_add,Nat.zero_mul]));refine FQ ?_;have X3:ai h2.n h2 (af h2 (.map di 8)):=ai.new _ (Nat.le_refl _);have m3:(af h2 (.map di 8)).b.get h2.n=some (.map di 8):=aC _ _;have n3:(af h2 (.map di 8)).n=h2.n+1:=rfl;generalize af h2 (.map di 8)=h3 at X3 m3 n3 ⊢;simp -dsimp only[↓WB,↓nG,↓hG,↓nW,↓og,↓kN,↓oG,WP,ae,Nat.reduceEqDiff,Nat.reduceAdd,↓kc];refine S4 WW m3 (by omega) ?_;have X4:ai h3.n h3 (af h3 (.dY (some h2.n) 8 [] 8)):=ai.new _ (Nat.le_refl _);have m4:(af h3 (.dY (some h2.n) 8 [] 8)).b.get h3.n=some (.dY (some h2.n) 8 [] 8):=aC _ _;have n4:(af h3 (.dY (some h2.n) 8 [] 8)).n=h3.n+1:=rfl;generalize af h3 (.dY (some h2.n) 8 [] 8)=h4 at X4 m4 n4 ⊢;have X24:ai h2.n h2 h4:=X3.trans (X4.mono (by omega));have X04:ai h.n h h4:=X02.trans (X24.mono (by omega));simp -dsimp only[↓WB,↓nG,↓hG,↓nW,↓og,↓kN,↓oG,WP,ae,Nat.reduceEqDiff,Nat.reduceAdd,↓kc];rw[kq];refine Dw (r:=h3.n) (m:=h2.n) (b:=h.n) (xb:=h.n+1) (rb:=rb) (c:=c) (f:=w::f') (w:=w) ?_ (B2.ext X24 B2.lt) ?_ ?_ m4 fun fr' h5 X5 g2 B5=>?_
  ·refine⟨oZ (by simp[T.ah]) (by decide) (by decide),oZ (by simp[T.ah]) (by decide) (by decide),oZ (by simp[T.ah]) (by decide) (by decide),oZ (by simp[T.ah]) (by decide) (by decide),by rw[X4.get _ (by omega)];exact m3,by omega,by omega,aI X24 (by omega) c2,r.ext X04,gk.ext (B:=h.n) gn X04,rfl,hs,by omega,by omega,by omega,by omega,by omega,by omega,fun t v hv=>?_⟩;have hv:=eZ hv;by_cases ht:t≤3∨(11≤t∧t≤22);·exact ht
   ·exfalso;repeat rw[T.ar _ _ (by omega)]at hv
    rw[T.fL]at hv;cases hv
  ·simp[T.ah]
  ·simp[T.ah]
  have k2:=aj g2;have n5:=X5.n;have hi:(dV (w::f'))=match xI w with|none=>(0,0,0,0)|some o=>(UInt8.ofNat o,fw (w::f') (dF o).2.1 (dF o).2.1.length):=by unfold dV;rw[if_neg (by simpa using hc)];rfl
  have B6:dm h5 (h.n+1) (bD (dV (w::f')).1 (dV (w::f')).2.1 (dV (w::f')).2.2.1 (dV (w::f')).2.2.2) 125:=by
   rw[hi];cases ho:xI w with
   | none=>rw[ho]at B5;exact B5
   | some o=>rw[ho]at B5;exact B5
  generalize dV (w::f')=s at B6 hK;have d6:ax h5 ⟨h.n+1,0,none⟩ 4=some [.int .u8 (s.1.toNat:Int),.int .u8 (s.2.1.toNat:Int),.int .u8 (s.2.2.1.toNat:Int),.int .u8 (s.2.2.2.toNat:Int)]:=aJ B6.lt B6.get rfl rfl;simp -dsimp only[↓WB,↓nG,↓hG,↓nW,↓og,↓kN,↓oG,WP,ae,Nat.reduceEqDiff,Nat.reduceAdd,↓k2,d6];refine bN (cs':=bD s.1 s.2.1 s.2.2.1 s.2.2.2) B6.get rfl rfl rfl rfl (by decide) ?_;have B7:=B6.set (cs':=bD s.1 s.2.1 s.2.2.1 s.2.2.2);have X7:ai h.n h5 { h5 with b:=h5.b.set (h.n+1) (.cells (bD s.1 s.2.1 s.2.2.1 s.2.2.2) 125 true) }:=ai.set _ (by omega);generalize ({ h5 with b:=h5.b.set (h.n+1) (.cells (bD s.1 s.2.1 s.2.2.1 s.2.2.2) 125 true) }:Heap)=h7 at B7 X7 ⊢;have d7:ax h7 ⟨h.n+1,0,none⟩ 4=some [.int .u8 (s.1.toNat:Int),.int .u8 (s.2.1.toNat:Int),.int .u8 (s.2.2.1.toNat:Int),.int .u8 (s.2.2.2.toNat:Int)]:=aJ B7.lt B7.get rfl rfl;simp -dsimp only[↓WB,↓nG,↓hG,↓nW,↓og,↓kN,↓oG,WP,ae,Nat.reduceEqDiff,Nat.reduceAdd,↓k2,d7];exact hK _ ((X04.trans (X5.mono (by omega))).trans X7)
theorem toNat1:Int.toNat 1=1:=rfl
theorem re {s:List UInt8}{c:UInt8}{h:Heap}{K:Value→Heap→Prop}(gk:rW h) (hs:s.length<1000000)
  (hK:∀ h',ai h.n h h'→FP h' h.n (aZ c s)→K (.slice (some ⟨h.n,0,none⟩) (aZ c s).length (aZ c s).length) h'):bT env (.func 40) [aq s,aq [c]] h K:=by
 refine yZ gk.i hs (hK _ (ai.new _ (Nat.le_refl _)) ⟨Nat.lt_succ_self _,fun k hk=>?_⟩)
 refine bQ (Nat.lt_succ_self _) (aC _ _) ?_
 rw[List.getElem?_map,List.getElem?_eq_getElem hk];rfl
theorem Du {ls:List (List UInt8)}{k:Nat}(hk:k<ls.length):(ls.take (k+1)).flatMap bw=(ls.take k).flatMap bw++bw ls[k]:=by rw[← List.take_append_getElem hk,List.flatMap_append];simp
theorem wh (ls:List (List UInt8)) (k:Nat):((ls.take k).flatMap bw).length≤(ls.flatMap bw).length:=by
 have h:ls.flatMap bw=(ls.take k).flatMap bw++(ls.drop k).flatMap bw:=by rw[← List.flatMap_append,List.take_append_drop]
 rw[h,List.length_append];omega
theorem bn.app {B:Nat}{h:Heap}{v y:Value}{l new:List UInt8}{K:Value→Heap→Prop}(o:bn B h 5 v l.length (l.map aw)) (r:nu h.n h y new) (hB:B≤h.n) (hn:l.length+new.length≤1000000)
  (k:∀ v' h',bn B h' 5 v' (l++new).length ((l++new).map aw)→ai B h h'→K v' h'):jN 5 1 v y h K:=by
 obtain⟨a,c,rfl,q⟩:=id r
 refine Cs (m:=new.length) (new:=new.map aw) o hB (by simp) rfl hn (fun h0=>r.first h0) (by simp) (sW new) (by decide) fun v' h' O X=>k v' h' ?_ X
 rw[List.map_append,List.length_append];exact O
theorem FX {s:List UInt8}{h:Heap}{K:Value→Heap→Prop}(gk:rW h) (hs:s.length≤20000)
   (hK:∀ v e h',ai h.n h h'→bn h.n h' 5 v (dJ s).length ((dJ s).map aw)→K (.tuple #[v,.int .i64 e]) h'):bT env (.func 44) [aq s] h K:=by
 have gn:=gk.n
 have hol:=JX s
 refine F44 rfl ?_
 unfold aq
 simp -dsimp only[↓WB,↓k9,↓kY,↓fG,↓lj,WP,ae,Nat.reduceEqDiff,Nat.reduceAdd]
 refine re (s:=s) (c:=10) gk (by omega) fun h1 X1 R1=>?_
 have hsl:=mo 10 s
 have hof:rH s=(aZ 10 s).flatMap bw:=rfl
 have hml:∀ l∈aZ 10 s,l.length≤s.length:=fun l hl=>fv hl
 have hol':((aZ 10 s).flatMap bw).length≤2*(s.length+1):=hof▸hol
 have n1:=X1.n
 have r1lt:=R1.lt
 generalize hls:aZ 10 s=ls at R1 hsl hof hol' hml ⊢
 simp -dsimp only[↓WB,↓k9,↓kY,↓fG,↓lj,WP,ae,Nat.reduceEqDiff,Nat.reduceAdd]
 refine aE (fun m fr' h'=>∃ k v,k≤ls.length∧m=ls.length-k∧ai h1.n h1 h'∧fr'.get 11=some (.int .i64 k)∧fr'.get 4=some v∧bn h1.n h' 5 v ((ls.take k).flatMap bw).length (((ls.take k).flatMap bw).map aw)) ls.length ?_ (by omega) ?_
 · exact⟨0,_,by omega,by omega,ai.refl _ _,by simp[T.ah],by simp only[T.ah];rfl,by simpa using bn.nil⟩
 rintro m fr2 h2 ⟨k,v,hk,rfl,X2,f11,f4,O2⟩ hag
 have e11:=aj f11
 have e4:=aj f4
 have b0:=au (hag 0 rfl)
 have b9:=au (hag 9 rfl)
 have b10:=au (hag 10 rfl)
 have n2:=X2.n
 have X02:ai h.n h h2:=X1.trans (X2.mono n1)
 have gk2:=gk.ext (B:=h.n) gn X02
 have R2:=R1.ext X2
 have lk:=wh ls k
 by_cases aB:k<ls.length
 · have cl:=R2.at_ k aB;have hll:=hml _ (List.getElem_mem aB);have hsuc:=Du aB;have lk1:=wh ls (k+1);have hlb:=yA ls[k];generalize ls[k]=l at cl hll hsuc hlb;unfold aq at cl;have fin:∀ (fr':Fr) (v':Value) (h':Heap),ai h1.n h1 h'→fr'.get 11=some (.int .i64 (IntKind.wrap .i64 ((k:Int)+1)))→fr'.get 4=some v'→bn h1.n h' 5 v' ((ls.take k).flatMap bw++bw l).length (((ls.take k).flatMap bw++bw l).map aw) →
       ∃ m',m'<ls.length-k∧∃ k' v'',k'≤ls.length∧m'=ls.length-k'∧ai h1.n h1 h'∧fr'.get 11=some (.int .i64 k')∧fr'.get 4=some v''∧bn h1.n h' 5 v'' ((ls.take k').flatMap bw).length (((ls.take k').flatMap bw).map aw) :=
     fun fr' v' h' X g11 g4 O=>⟨ls.length-(k+1),by omega,k+1,v',by omega,rfl,X,by rw[g11,bf (show k≤4611686018427387904 by omega)],g4,by rw[hsuc];exact O⟩
   (with_reducible repeat' (first|refine y1 ?_|refine y4 ?_|simp -dsimp only[↓WB,↓k9,↓kY,↓fG,↓lj,WP,ae,Nat.reduceEqDiff,Nat.reduceAdd,↓e11,↓e4,↓b0,↓b9,↓b10,Nat.mul_one,Nat.zero_add,cl]));refine re (s:=l) (c:=32) gk2 (by omega) fun h3 X3 R3=>?_;have n3:=X3.n;have X13:ai h1.n h1 h3:=X2.trans (X3.mono (by omega));have gk3:=gk2.ext (B:=h2.n) gk2.n X3;have O3:=O2.ext X3 (Nat.le_refl _);have hfl:=mo 32 l;have hfm:∀ w∈aZ 32 l,w.length≤l.length:=fun w hw=>fv hw;have hfn:=lT 32 l;by_cases h0:l=[]
   · have e0:((⟨l.toArray⟩:ByteArray)=⟨⟨[]⟩⟩)=True:=eq_true (by rw[h0]);simp -dsimp only[↓WB,↓k9,↓kY,↓fG,↓lj,WP,ae,Nat.reduceEqDiff,Nat.reduceAdd,↓e11,↓e4,↓b0,↓b9,↓b10,e0];refine fin _ v _ X13 (by simp[T.ah]) (by simp only[T.ah];simpa using f4) ?_;have:bw l=[]:=by unfold bw;rw[if_pos h0]
     rw[this,List.append_nil];exact O3
   have e0:¬((⟨l.toArray⟩:ByteArray)=⟨⟨[]⟩⟩):=fun e=>h0 (str_inj.1 e);obtain⟨w,f',hf⟩:∃ w f',aZ 32 l=w::f':=by
     cases hc:aZ 32 l with
     | nil=>exact absurd hc hfn
     | cons w f'=>exact⟨w,f',rfl⟩
   have c0:=R3.at_ 0 (by rw[hf];simp);simp only[hf,List.getElem_cons_zero]at c0;unfold aq at c0;have hfpos:0<(aZ 32 l).length:=by rw[hf];simp
   by_cases hraw:w=r7∧(aZ 32 l).length=2
   · obtain⟨hw,h2l⟩:=hraw;obtain⟨w2,rfl⟩:∃ w2,f'=[w2]:=by
       rw[hf]at h2l;cases f' with
       | nil=>simp at h2l
       | cons w2 f''=>cases f'' with
         | nil=>exact⟨w2,rfl⟩
         | cons=>simp at h2l
     have c1:=R3.at_ 1 (by rw[hf];simp);simp only[hf,List.getElem_cons_succ,List.getElem_cons_zero]at c1;unfold aq at c1;have hw2:=hfm w2 (by rw[hf];simp);have ew:((⟨w.toArray⟩:ByteArray)=⟨⟨[114,97,119]⟩⟩)=True:=eq_true (by rw[hw];rfl);have hlB:bw l=cD w2:=by unfold bw;rw[if_neg h0,hf,if_pos ⟨by rw[hw];rfl,rfl⟩];rfl
     rw[h2l];(with_reducible repeat' (first|refine y1 ?_|refine y4 ?_|simp -dsimp only[↓WB,↓k9,↓kY,↓fG,↓lj,WP,ae,Nat.reduceEqDiff,Nat.reduceAdd,↓e11,↓e4,↓b0,↓b9,↓b10,e0,c0,ew,Nat.zero_add,Nat.mul_one,toNat1,c1]));refine BF (s:=w2) (by omega) fun v' h4 O4 X4=>?_;have n4:=X4.n;have hb2:=ku w2;simp -dsimp only[↓WB,↓k9,↓kY,↓fG,↓lj,WP,ae,Nat.reduceEqDiff,Nat.reduceAdd,↓e11,↓e4,↓b0,↓b9,↓b10];refine bn.app (new:=cD w2) (O3.ext X4 (Nat.le_refl _)) (nu.own O4) (by omega) (by omega) fun v5 h5 O5 X5=>?_;simp -dsimp only[↓WB,↓k9,↓kY,↓fG,↓lj,WP,ae,Nat.reduceEqDiff,Nat.reduceAdd,↓e11,↓e4,↓b0,↓b9,↓b10];exact fin _ v5 _ ((X13.trans (X4.mono (by omega))).trans X5) (by simp[T.ah]) (by simp[T.ah]) (by rw[hlB];exact O5)
   · have hlB:bw l=[(dV (aZ 32 l)).1,(dV (aZ 32 l)).2.1,(dV (aZ 32 l)).2.2.1,(dV (aZ 32 l)).2.2.2]:=by unfold bw;rw[if_neg h0,if_neg];rintro⟨q1,q2⟩;rw[hf]at q1;simp only[List.head?_cons,Option.some.injEq]at q1;exact hraw ⟨q1,q2⟩
     generalize hsv:dV (aZ 32 l)=sv at hlB;have step:∀ (fr':Fr),fr'.get 4=some v→fr'.get 7=some (.slice (some ⟨h2.n,0,none⟩) (aZ 32 l).length (aZ 32 l).length)→fr'.get 11=some (.int .i64 k)→Fx.wp env 53 none fr' h3 (iM 1 (ue (FU.wp env 53 none) (tz (fun fr' h'=>∃ m,m<ls.length-k∧∃ k v,k≤ls.length∧m=ls.length-k∧ai h1.n h1 h'∧fr'.get 11=some (.int .i64 k)∧fr'.get 4=some v∧bn h1.n h' 5 v ((ls.take k).flatMap bw).length (((ls.take k).flatMap bw).map aw)) (iM 0 (ue (FA.wp env 53 none) (eY env [.tmp 2,.tmp 3] K)))))):=by
       intro fr' q4 q7 q11;have p4:=aj q4;have p7:=aj q7;have p11:=aj q11;have hl4:(bw l).length=4:=by rw[hlB];rfl
       simp -dsimp only[↓WB,↓k9,↓kY,↓fG,↓lj,WP,ae,Nat.reduceEqDiff,Nat.reduceAdd,↓p4,↓p7,↓p11];refine HL gk3 R3 (by omega) (fun w hw=>by have:=hfm w hw;omega) fun h4 X4=>?_;have n4:=X4.n;rw[hsv];(with_reducible repeat' (first|refine y8 ?_|simp -dsimp only[↓WB,↓k9,↓kY,↓fG,↓lj,WP,ae,Nat.reduceEqDiff,Nat.reduceAdd,↓p4,↓p7,↓p11]));have X5:ai h4.n h4 (af h4 (.cells (Value.agg ⟨[.int .u8 (sv.1.toNat:Int),.int .u8 (sv.2.1.toNat:Int),.int .u8 (sv.2.2.1.toNat:Int),.int .u8 (sv.2.2.2.toNat:Int)]⟩).cells.toList 125 true)):=ai.new _ (Nat.le_refl _);have c5:ax (af h4 (.cells (Value.agg ⟨[.int .u8 (sv.1.toNat:Int),.int .u8 (sv.2.1.toNat:Int),.int .u8 (sv.2.2.1.toNat:Int),.int .u8 (sv.2.2.2.toNat:Int)]⟩).cells.toList 125 true)) ⟨h4.n,0,none⟩ 4=some [.int .u8 (sv.1.toNat:Int),.int .u8 (sv.2.1.toNat:Int),.int .u8 (sv.2.2.1.toNat:Int),.int .u8 (sv.2.2.2.toNat:Int)]:=bA rfl;have n5:(af h4 (.cells (Value.agg ⟨[.int .u8 (sv.1.toNat:Int),.int .u8 (sv.2.1.toNat:Int),.int .u8 (sv.2.2.1.toNat:Int),.int .u8 (sv.2.2.2.toNat:Int)]⟩).cells.toList 125 true)).n=h4.n+1:=rfl;generalize af h4 (.cells (Value.agg ⟨[.int .u8 (sv.1.toNat:Int),.int .u8 (sv.2.1.toNat:Int),.int .u8 (sv.2.2.1.toNat:Int),.int .u8 (sv.2.2.2.toNat:Int)]⟩).cells.toList 125 true)=h5 at X5 c5 n5 ⊢;refine D9 (by omega) c5 fun v6 h6 O6 X6=>?_;have n6:=X6.n;have X36:ai h3.n h3 h6:=(X4.trans (X5.mono n4)).trans (X6.mono (by omega));simp -dsimp only[↓WB,↓k9,↓kY,↓fG,↓lj,WP,ae,Nat.reduceEqDiff,Nat.reduceAdd,↓p4,↓p7,↓p11];refine bn.app (new:=bw l) (O3.ext X36 (Nat.le_refl _)) (nu.own (by rw[hlB];exact O6)) (by omega) (by omega) fun v7 h7 O7 X7=>?_;simp -dsimp only[↓WB,↓k9,↓kY,↓fG,↓lj,WP,ae,Nat.reduceEqDiff,Nat.reduceAdd,↓p4,↓p7,↓p11];exact fin _ v7 _ ((X13.trans (X36.mono (by omega))).trans X7) (by simp[T.ah]) (by simp[T.ah]) O7
     by_cases hwr:w=r7;· have ew:((⟨w.toArray⟩:ByteArray)=⟨⟨[114,97,119]⟩⟩)=True:=eq_true (by rw[hwr];rfl);have h2l:¬(((aZ 32 l).length:Int)=2):=fun e=>hraw ⟨hwr,by omega⟩;(with_reducible repeat' (first|refine y4 ?_|simp -dsimp only[↓WB,↓k9,↓kY,↓lj,WP,ae,Nat.reduceEqDiff,Nat.reduceAdd,↓e11,↓e4,↓b0,↓b9,↓b10,e0,c0,ew,Nat.zero_add,Nat.zero_mul,h2l]));exact step _ (by simp[T.ah,f4]) (by simp[T.ah]) (by simp[T.ah,f11])
     · have ew:¬((⟨w.toArray⟩:ByteArray)=⟨⟨[114,97,119]⟩⟩):=fun e=>hwr (str_inj.1 e);(with_reducible repeat' (first|refine y4 ?_|simp -dsimp only[↓WB,↓k9,↓kY,↓lj,WP,ae,Nat.reduceEqDiff,Nat.reduceAdd,↓e11,↓e4,↓b0,↓b9,↓b10,e0,c0,ew,Nat.zero_add,Nat.zero_mul]));exact step _ (by simp[T.ah,f4]) (by simp[T.ah]) (by simp[T.ah,f11])
 · have hke:k=ls.length:=by omega
   subst hke;rw[List.take_length,← hof]at O2;have hp:(rH s).length≤50000:=by omega
   obtain⟨va,vc,ev⟩:=gm O2;subst ev;(with_reducible repeat' (first|refine y2 ?_|simp -dsimp only[↓WB,↓W44,WP,ae,Nat.reduceEqDiff,Nat.reduceAdd,↓e11,↓e4,↓b0,↓b9,↓b10]));refine ql (B:=h2.n) (Jp.own O2) gk2 (Nat.le_refl _) hp fun h3 X3=>?_;have X03:ai h.n h h3:=X02.trans (X3.mono (by omega));have O3:=(O2.ext X3 (Nat.le_refl _));by_cases ht:c_ (rH s)=s
   · rw[ht];unfold aq;by_cases hl:(rH s).length≤1024
     · have hc:dJ s=rH s:=by unfold dJ;rw[if_pos ⟨ht,hl⟩]
       rw[hc]at hK;(with_reducible repeat' (first|refine y2 ?_|simp -dsimp only[↓WB,↓W44,WP,ae,Nat.reduceEqDiff,Nat.reduceAdd,↓e11,↓e4,↓b0,↓b9,↓b10]));exact hK _ _ _ X03 (yD O3 n1)
     · have hc:dJ s=[]:=by unfold dJ;rw[if_neg (fun h=>hl h.2)]
       rw[hc]at hK;(with_reducible repeat' (first|refine y1 ?_|simp -dsimp only[↓WB,↓W44,WP,ae,Nat.reduceEqDiff,Nat.reduceAdd,↓e11,↓e4,↓b0,↓b9,↓b10]));exact hK _ _ _ X03 .nil
   · have hne:¬((⟨(c_ (rH s)).toArray⟩:ByteArray)=⟨s.toArray⟩):=fun e=>ht (str_inj.1 e);have hc:dJ s=[]:=by unfold dJ;rw[if_neg (fun h=>ht h.1)]
     rw[hc]at hK;unfold aq;simp -dsimp only[↓WB,↓W44,WP,ae,Nat.reduceEqDiff,Nat.reduceAdd,↓e11,↓e4,↓b0,↓b9,↓b10,hne];exact hK _ _ _ X03 .nil
end Go.Proofs.YtohjaacnlmkhbaaGreatDoor
