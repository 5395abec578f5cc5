/- A SCRIPT's PARTS; lines, words, numbers, in plain Lean. Conditions: none beyond each theorem's own. -/
import Derived.Test.YtohjaacnlmkhbaaGreatDoorWG
import Derived.Test.YtohjaacnlmkhbaaGreatDoorYP
import Derived.Test.YtohjaacnlmkhbaaGreatDoorYF
import Derived.Test.YtohjaacnlmkhbaaGreatDoorXT
import Derived.Lib.AtoiAll
set_option linter.unusedSimpArgs false
set_option linter.unusedVariables false
namespace Go.Proofs.YtohjaacnlmkhbaaGreatDoor
open Go.Ev
set_option maxRecDepth 100000
set_option maxHeartbeats 400000
theorem LS:a_ env 62=some (.map 9 20):=by kernel_rfl
theorem VZ:a_ env 9=some .string:=by kernel_rfl
theorem Wn:zero env 20=some .nilIface:=by kernel_rfl
def eJ (i:Nat):List (Nat×Value×Value):=[(26844,.string ⟨⟨[103,115]⟩⟩,.iface 106 (.pointer (some ⟨i,2,none⟩))),(29157,.string ⟨⟨[112,115]⟩⟩,.iface 106 (.pointer (some ⟨i,0,none⟩))),(6634059,.string ⟨⟨[99,112,117]⟩⟩,.iface 107 (.pointer (some ⟨i,10,none⟩))),(1737907093,.string ⟨⟨[101,97,99,104]⟩⟩,.iface 107 (.pointer (some ⟨i,13,none⟩))),(1959108020,.string ⟨⟨[114,105,110,103]⟩⟩,.iface 106 (.pointer (some ⟨i,1,none⟩))),(429531799580,.string ⟨⟨[97,117,100,105,116]⟩⟩,.iface 106 (.pointer (some ⟨i,8,none⟩))),(486142066206,.string ⟨⟨[110,111,100,101,115]⟩⟩,.iface 106 (.pointer (some ⟨i,5,none⟩))),(507903824149,.string ⟨⟨[115,108,105,99,101]⟩⟩,.iface 106 (.pointer (some ⟨i,9,none⟩))),(507904224826,.string ⟨⟨[115,108,111,116,115]⟩⟩,.iface 106 (.pointer (some ⟨i,6,none⟩))),(111510827249281,.string ⟨⟨[98,117,100,103,101,116]⟩⟩,.iface 107 (.pointer (some ⟨i,12,none⟩))),(127137434004617,.string ⟨⟨[112,101,114,105,111,100]⟩⟩,.iface 107 (.pointer (some ⟨i,11,none⟩))),(29227868449386994,.string ⟨⟨[100,111,109,97,105,110,115]⟩⟩,.iface 106 (.pointer (some ⟨i,4,none⟩))),(33250541804377080,.string ⟨⟨[114,101,102,105,108,108,115]⟩⟩,.iface 106 (.pointer (some ⟨i,7,none⟩))),(7437512235935528832,.string ⟨⟨[99,111,110,116,101,120,116,115]⟩⟩,.iface 106 (.pointer (some ⟨i,3,none⟩)))]
def jS:List (Nat×Value×Value)→Nat→List (Nat×Value×Value)
 | [],_=>[]
 | (n,k,.iface t (.pointer (some ⟨i,p,s⟩)))::l,m=>cond (Nat.blt p m) ((n,k,.iface t (.pointer (some ⟨i,p,s⟩)))::jS l m) (jS l m)
 | _::l,m=>jS l m
theorem lh {h h0:Heap}{es es':List (Nat×Value×Value)}{k v:Value}{K:Value→Heap→Prop}(X:ai h.n h h0) (m:h0.b.get h.n=some (.smap es)) (n:h0.n=h.n+1) (hc:(iT .string&&cI env 20 9 k)=true) (ha:pC .string k v es=some es')
  (q:∀ h1:Heap,ai h.n h h1→h1.b.get h.n=some (.smap es')→h1.n=h.n+1→K undef h1):Iq env 62 (.map (some h.n)) k v h0 K:=by
 refine kQ (by omega) m LS VZ hc ha (q _ ?_ (T.get_set_same _ _ _) n)
 exact X.trans (ai.set _ (Nat.le_refl _))
theorem zH {i:Nat}{h:Heap}{K:Value→Heap→Prop}(hK:∀ h',ai h.n h h'→h.n<h'.n→h'.b.get h.n=some (.smap (eJ i))→K (.map (some h.n)) h'):bT env (.func 27) [.pointer (some ⟨i,0,none⟩)] h K:=by
 refine F27 rfl ?_;have X0:ai h.n h (af h (.smap [])):=ai.new _ (Nat.le_refl _);have m0:(af h (.smap [])).b.get h.n=some (.smap []):=aC _ _;have n0:(af h (.smap [])).n=h.n+1:=rfl;(with_reducible repeat' (first|refine y5 ?_|simp -dsimp only[↓WB,↓rD,WP,ae,Nat.reduceEqDiff,Nat.reduceAdd]));refine⟨yQ (s:=3) (t:=62) (r:=h.n) (es:=[]) rfl rfl (by simp[T.ah]) (by omega) m0,?_⟩;generalize af h (.smap [])=h0 at X0 m0 n0 ⊢;skip;refine lh (es':=jS (eJ i) 1) X0 m0 n0 (by kernel_rfl) (by kernel_rfl) fun h0 X0 m0 n0=>?_;refine⟨by omega,?_,?_⟩;·simp -dsimp only[↓WB,↓rD,WP,ae,Nat.reduceEqDiff,Nat.reduceAdd]
 simp -dsimp only[↓WB,↓rD,WP,ae,Nat.reduceEqDiff,Nat.reduceAdd];refine lh (es':=jS (eJ i) 2) X0 m0 n0 (by kernel_rfl) (by kernel_rfl) fun h0 X0 m0 n0=>?_;refine⟨by omega,?_,?_⟩;·simp -dsimp only[↓WB,↓rD,WP,ae,Nat.reduceEqDiff,Nat.reduceAdd]
 simp -dsimp only[↓WB,↓rD,WP,ae,Nat.reduceEqDiff,Nat.reduceAdd];refine lh (es':=jS (eJ i) 3) X0 m0 n0 (by kernel_rfl) (by kernel_rfl) fun h0 X0 m0 n0=>?_;refine⟨by omega,?_,?_⟩;·simp -dsimp only[↓WB,↓rD,WP,ae,Nat.reduceEqDiff,Nat.reduceAdd]
 simp -dsimp only[↓WB,↓rD,WP,ae,Nat.reduceEqDiff,Nat.reduceAdd];refine lh (es':=jS (eJ i) 4) X0 m0 n0 (by kernel_rfl) (by kernel_rfl) fun h0 X0 m0 n0=>?_;refine⟨by omega,?_,?_⟩;·simp -dsimp only[↓WB,↓rD,WP,ae,Nat.reduceEqDiff,Nat.reduceAdd]
 simp -dsimp only[↓WB,↓rD,WP,ae,Nat.reduceEqDiff,Nat.reduceAdd];refine lh (es':=jS (eJ i) 5) X0 m0 n0 (by kernel_rfl) (by kernel_rfl) fun h0 X0 m0 n0=>?_;refine⟨by omega,?_,?_⟩;·simp -dsimp only[↓WB,↓rD,WP,ae,Nat.reduceEqDiff,Nat.reduceAdd]
 simp -dsimp only[↓WB,↓rD,WP,ae,Nat.reduceEqDiff,Nat.reduceAdd];refine lh (es':=jS (eJ i) 6) X0 m0 n0 (by kernel_rfl) (by kernel_rfl) fun h0 X0 m0 n0=>?_;refine⟨by omega,?_,?_⟩;·simp -dsimp only[↓WB,↓rD,WP,ae,Nat.reduceEqDiff,Nat.reduceAdd]
 simp -dsimp only[↓WB,↓rD,WP,ae,Nat.reduceEqDiff,Nat.reduceAdd];refine lh (es':=jS (eJ i) 7) X0 m0 n0 (by kernel_rfl) (by kernel_rfl) fun h0 X0 m0 n0=>?_;refine⟨by omega,?_,?_⟩;·simp -dsimp only[↓WB,↓rD,WP,ae,Nat.reduceEqDiff,Nat.reduceAdd]
 simp -dsimp only[↓WB,↓rD,WP,ae,Nat.reduceEqDiff,Nat.reduceAdd];refine lh (es':=jS (eJ i) 8) X0 m0 n0 (by kernel_rfl) (by kernel_rfl) fun h0 X0 m0 n0=>?_;refine⟨by omega,?_,?_⟩;·simp -dsimp only[↓WB,↓rD,WP,ae,Nat.reduceEqDiff,Nat.reduceAdd]
 simp -dsimp only[↓WB,↓rD,WP,ae,Nat.reduceEqDiff,Nat.reduceAdd];refine lh (es':=jS (eJ i) 9) X0 m0 n0 (by kernel_rfl) (by kernel_rfl) fun h0 X0 m0 n0=>?_;refine⟨by omega,?_,?_⟩;·simp -dsimp only[↓WB,↓rD,WP,ae,Nat.reduceEqDiff,Nat.reduceAdd]
 simp -dsimp only[↓WB,↓rD,WP,ae,Nat.reduceEqDiff,Nat.reduceAdd];refine lh (es':=jS (eJ i) 10) X0 m0 n0 (by kernel_rfl) (by kernel_rfl) fun h0 X0 m0 n0=>?_;refine⟨by omega,?_,?_⟩;·simp -dsimp only[↓WB,↓rD,WP,ae,Nat.reduceEqDiff,Nat.reduceAdd]
 simp -dsimp only[↓WB,↓rD,WP,ae,Nat.reduceEqDiff,Nat.reduceAdd];refine lh (es':=jS (eJ i) 11) X0 m0 n0 (by kernel_rfl) (by kernel_rfl) fun h0 X0 m0 n0=>?_;refine⟨by omega,?_,?_⟩;·simp -dsimp only[↓WB,↓rD,WP,ae,Nat.reduceEqDiff,Nat.reduceAdd]
 simp -dsimp only[↓WB,↓rD,WP,ae,Nat.reduceEqDiff,Nat.reduceAdd];refine lh (es':=jS (eJ i) 12) X0 m0 n0 (by kernel_rfl) (by kernel_rfl) fun h0 X0 m0 n0=>?_;refine⟨by omega,?_,?_⟩;·simp -dsimp only[↓WB,↓rD,WP,ae,Nat.reduceEqDiff,Nat.reduceAdd]
 simp -dsimp only[↓WB,↓rD,WP,ae,Nat.reduceEqDiff,Nat.reduceAdd];refine lh (es':=jS (eJ i) 13) X0 m0 n0 (by kernel_rfl) (by kernel_rfl) fun h0 X0 m0 n0=>?_;refine⟨by omega,?_,?_⟩;·simp -dsimp only[↓WB,↓rD,WP,ae,Nat.reduceEqDiff,Nat.reduceAdd]
 simp -dsimp only[↓WB,↓rD,WP,ae,Nat.reduceEqDiff,Nat.reduceAdd];refine lh (es':=eJ i) X0 m0 n0 (by kernel_rfl) (by kernel_rfl) fun h0 X0 m0 n0=>?_;refine⟨by omega,?_,?_⟩;·simp -dsimp only[↓WB,↓rD,WP,ae,Nat.reduceEqDiff,Nat.reduceAdd]
 simp -dsimp only[↓WB,↓rD,WP,ae,Nat.reduceEqDiff,Nat.reduceAdd];exact hK _ X0 (by omega) m0
theorem iY {d:TypeDesc}{k:Value}:∀ {es:List (Nat×Value×Value)},(∀ e∈es,eH d k e.2.1=some false)→nI d k es=some none
 | [],_=>rfl
 | e::es,h=>by have h1:=h e List.mem_cons_self;have h2:=iY (fun x hx=>h x (List.mem_cons_of_mem _ hx));simp only[nI,h1,h2]
theorem MN {k:Nat}(h:k<10):Dc k=106:=by unfold Dc;rw[if_pos h]
theorem Nk {k:Nat}(h:¬k<10):Dc k=107:=by unfold Dc;rw[if_neg h]
theorem FC {w:List UInt8}{i r:Nat}{h:Heap}{K:Value→Prop}(hr:r<h.n) (hb:h.b.get r=some (.smap (eJ i))) (q1:∀ k (hk:k<aM.length),w=aM[k]→K (.iface (Dc k) (.pointer (some ⟨i,k,none⟩)))) (q2:w∉aM→K .nilIface) :
  qo env 62 (.map (some r)) (aq w) false h K:=by
 by_cases hw:w∈aM
 ·obtain⟨k,hk,e⟩:=List.getElem_of_mem hw;have q:=q1 k hk e.symm;rw[← e];rcases k with _|_|_|_|_|_|_|_|_|_|_|_|_|_|k;all_goals first
   | (exfalso;have h14:aM.length=14:=rfl;omega)
   | (exact iZ hr hb LS VZ rfl rfl (by kernel_rfl) q)
 ·refine E3 hr hb LS VZ rfl rfl Wn (iY fun e he=>?_) (q2 hw);have hk:∃ k,∃ hk:k<aM.length,e.2.1=aq aM[k]:=by
   simp only[eJ,List.mem_cons,List.not_mem_nil,or_false]at he;rcases he with rfl|rfl|rfl|rfl|rfl|rfl|rfl|rfl|rfl|rfl|rfl|rfl|rfl|rfl;·exact⟨2,by decide,rfl⟩
   ·exact⟨0,by decide,rfl⟩
   ·exact⟨10,by decide,rfl⟩
   ·exact⟨13,by decide,rfl⟩
   ·exact⟨1,by decide,rfl⟩
   ·exact⟨8,by decide,rfl⟩
   ·exact⟨5,by decide,rfl⟩
   ·exact⟨9,by decide,rfl⟩
   ·exact⟨6,by decide,rfl⟩
   ·exact⟨12,by decide,rfl⟩
   ·exact⟨11,by decide,rfl⟩
   ·exact⟨4,by decide,rfl⟩
   ·exact⟨7,by decide,rfl⟩
   ·exact⟨3,by decide,rfl⟩
  obtain⟨k,hk,ek⟩:=hk;rw[ek];have hne:w≠aM[k]:=fun e=>hw (by rw[e];exact List.getElem_mem _);show eH .string (aq w) (aq aM[k])=some false;have:eqStr ⟨w.toArray⟩ ⟨(aM[k]).toArray⟩=false:=by rw[iU];exact decide_eq_false fun e=>hne (str_inj.1 e)
  simp only[eH,aq,this]
def Mi (c:Nat→Int):Prop:=(∀ k,k<10→-9223372036854775808≤c k∧c k≤9223372036854775807)∧(∀ k,10≤k→k<14→0≤c k∧c k≤18446744073709551615)
theorem GK {c:Nat→Int}(ok:Mi c) {k:Nat}(hk:k<14):(Lib.itoa (c k)).length≤21:=by
 by_cases h10:k<10;·have:=ok.1 k h10;exact cA _ this.1 this.2
 ·obtain⟨h0,h1⟩:=ok.2 k (by omega) hk;obtain⟨u,hu⟩:=Int.eq_ofNat_of_zero_le h0;rw[hu,Lib.itoa_nonneg];have:=sn (u:=u) (by omega);omega
theorem mI {i k:Nat}{c:Nat→Int}{cs:List Value}{e:TypeId}{h:Heap}{K:Value→Heap→Prop}(gk:rW h) (ok:Mi c) (hk:k<14) (hx:cellAt h ⟨i,k,none⟩=some (.int (if k<10 then .i64 else .u64) (c k)))
  (hK:∀ h',ai h.n h h'→K (aq (Lib.itoa (c k))) h'):bT env (.func 30) [.iface (Dc k) (.pointer (some ⟨i,k,none⟩))] h K:=by
 have gn:=gk.n
 refine F30 rfl ?_
 by_cases h10:k<10
 ·rw[if_pos h10]at hx;rw[MN h10];have hb:=ok.1 k h10;simp -dsimp only[↓WB,↓W30,WP,ae,Nat.reduceEqDiff,Nat.reduceAdd,hx];refine nQ gk.t (by omega) hb.1 hb.2 fun h' X=>?_;unfold aq at hK;unfold qX;simp -dsimp only[↓WB,↓W30,WP,ae,Nat.reduceEqDiff,Nat.reduceAdd,hx];exact hK _ X
 ·rw[if_neg h10]at hx;rw[Nk h10];obtain⟨h0,h1⟩:=ok.2 k (by omega) hk;obtain⟨u,hu⟩:=Int.eq_ofNat_of_zero_le h0;rw[hu]at hx;rw[hu,Lib.itoa_nonneg]at hK;simp -dsimp only[↓WB,↓W30,WP,ae,Nat.reduceEqDiff,Nat.reduceAdd,hx];refine vJ gk.t (by omega) (by omega) fun h' X=>?_;unfold aq at hK;unfold Ff;simp -dsimp only[↓WB,↓W30,WP,ae,Nat.reduceEqDiff,Nat.reduceAdd,hx];exact hK _ X
theorem ux {B b:Nat}{l s:List UInt8}{h:Heap}{K:Value→Heap→Prop}(k:xO B h b l) (hl:l.length+s.length+1≤1000000)
  (hK:∀ v h',Kp B b h h'→xO B h' b (l++cL s)→K v h'):bT env (.func 25) [aq s,.pointer (some ⟨b,0,none⟩)] h K:=by
 refine F25 rfl ?_
 have hend:∀ l:List UInt8,(⟨l.toArray⟩:ByteArray)++⟨⟨[10]⟩⟩=⟨(cL l).toArray⟩:=fun l=>aY l [10]
 have s10:(⟨⟨[10]⟩⟩:ByteArray).size=1:=rfl
 unfold aq
 (with_reducible repeat' (first|refine y5 ?_|simp -dsimp only[↓WB,↓W25,WP,ae,Nat.reduceEqDiff,Nat.reduceAdd,hend,ak,s10]))
 refine sT (s:=cL s) k (by simp[cL]) (by simp[cL];omega) fun v h' X D=>?_
 simp -dsimp only[↓WB,↓W25,WP,ae,Nat.reduceEqDiff,Nat.reduceAdd]
 exact hK _ _ X D
theorem Jm {h:Heap}{K:Value→Heap→Prop}(ht:eK bz h=true) (hK:K (.slice (some ⟨h.n,0,none⟩) 14 14) (af h (.cells iH 9 true))):bT env (.func 28) [] h K:=by refine bT.FI ?_ hK;show rJ bz 28 iH 9 KJ 28 [] h=_;simp only[rJ,Nat.beq_refl,cond_true,ht];rfl
theorem yZ {s:List UInt8}{c:UInt8}{h:Heap}{K:Value→Heap→Prop}(hi:U' (cellAt h ⟨3,0,none⟩)=true) (hs:s.length<1000000)
  (hK:K (.slice (some ⟨h.n,0,none⟩) (aZ c s).length (aZ c s).length) (af h (.cells ((aZ c s).map aq) 9 true))):bT env (.func 40) [aq s,aq [c]] h K:=by
 refine bT.FI ?_ hK
 show xo 40 AE VM 40 [aq s,aq [c]] h=_
 have:Nat.blt s.length 1000000=true:=by rw[blt_eq];exact decide_eq_true hs
 simp only[xo,Nat.beq_refl,cond_true,AE,aq,ak,this,hi,Bool.and_self,Option.map_some]
 rfl
def tX (B:Nat) (h:Heap) (v:Value) (P:List (List UInt8)):Prop :=
 ∃ a c,v=.slice a P.length c∧∀ (k:Nat) l,P[k]?=some l→∃ i o u,a=some ⟨i,o,none⟩∧i<B∧cellAt h ⟨i,o+k,none⟩=some u∧Jp B h u l
theorem tX.rd {B:Nat}{h:Heap}{v:Value}{P:List (List UInt8)}(r:tX B h v P):qk B h v P:=by obtain⟨a,c,e,q⟩:=r;exact⟨a,c,e,fun k l hk=>let ⟨i,o,u,e1,e2,e3,e4⟩:=q k l hk;⟨i,o,u,e1,e2,e3,e4.1⟩⟩
theorem tX.ext {B:Nat}{h h':Heap}{v:Value}{l:List (List UInt8)}(r:tX B h v l) (x:ai B h h'):tX B h' v l:=by obtain⟨a,c,e,q⟩:=r;exact⟨a,c,e,fun k y hy=>let ⟨i,o,u,e1,e2,e3,e4⟩:=q k y hy;⟨i,o,u,e1,e2,aI x e2 e3,e4.ext x⟩⟩
theorem tX.at_ {B:Nat}{h:Heap}{a:Option Addr}{n c:Nat}{P:List (List UInt8)}(r:tX B h (.slice a n c) P) {k:Nat}(hk:k<P.length) :
  ∃ i o ua uc,a=some ⟨i,o,none⟩∧i<B∧cellAt h ⟨i,o+k,none⟩=some (.slice ua P[k].length uc)∧Jp B h (.slice ua P[k].length uc) P[k]:=by
 obtain⟨a',c',e,q⟩:=r
 cases e
 obtain⟨i,o,u,e1,hi,hc,hb⟩:=q k _ (List.getElem?_eq_getElem hk)
 obtain⟨ua,uc,rfl,_⟩:=id hb.1
 exact⟨i,o,ua,uc,e1,hi,hc,hb⟩
theorem tX.own {B:Nat}{h:Heap}{v:Value}{P:List (List UInt8)}(o:iS B h v P):tX h.n h v P:=by
 obtain⟨us,e1,e2,e3,e4⟩:=o;generalize hn:P.length=n at e2 e1;cases e2 with
 | nil=>exact⟨_,_,by rw[hn],fun k l e=>by have:=(List.getElem?_eq_some_iff.1 e).1;omega⟩
 | emp i hi=>exact⟨_,_,by rw[hn],fun k l e=>by have:=(List.getElem?_eq_some_iff.1 e).1;omega⟩
 | row i n us g1 g2 g3 =>
   refine⟨_,_,by rw[hn],fun k l e=>?_⟩
   have hk:=(List.getElem?_eq_some_iff.1 e).1
   have hu:us[k]?=some (us[k]'(by omega)):=List.getElem?_eq_getElem _
   exact⟨i,0,_,rfl,g2,bQ g2 g3 (by rw[Nat.zero_add];exact hu),Jp.own (e4 k _ l hu e)⟩
theorem jy (l:List UInt8):(cL l).length=l.length+1:=by simp[cL]
def sG (c:Nat→Int) (k:Nat):List UInt8:=(List.range k).flatMap fun j=>cL (dh c j)
theorem s6 (c:Nat→Int) (k:Nat):sG c (k+1)=sG c k++cL (dh c k):=by unfold sG;rw[List.range_succ,List.flatMap_append];simp
theorem wW {k:Nat}:(aM.getD k []).length≤8:=by
 by_cases hk:k<aM.length
 ·rw[List.getD_eq_getElem?_getD,List.getElem?_eq_getElem hk];have:aM.all (fun l=>decide (l.length≤8))=true:=by decide
  exact of_decide_eq_true (List.all_eq_true.1 this _ (List.getElem_mem hk))
 ·rw[List.getD_eq_getElem?_getD,List.getElem?_eq_none (by omega)];simp
theorem sC {c:Nat→Int}(ok:Mi c) {k:Nat}(hk:k<14):(dh c k).length≤30:=by have h1:=wW (k:=k);have h2:=GK ok hk;unfold dh;simp only[List.length_append,List.length_cons,List.length_nil];omega
theorem n_ {c:Nat→Int}(ok:Mi c):∀ {k:Nat},k≤14→(sG c k).length≤31*k
 | 0,_=>by simp[sG]
 | k+1,h=>by have:=n_ ok (k:=k) (by omega);have:=sC ok (k:=k) (by omega);rw[s6,List.length_append,jy];omega
def vg (p:List UInt8) (k:Nat):List UInt8:=((bp p).take k).flatMap fun l=>cL (32::l)
theorem sH {p:List UInt8}{k:Nat}(hk:k<(bp p).length):vg p (k+1)=vg p k++cL (32::(bp p)[k]):=by unfold vg;rw[← List.take_append_getElem hk,List.flatMap_append];simp
theorem pQ (p:List UInt8):(bp p).length=(p.length+3) / 4:=by simp[bp]
theorem pW {p:List UInt8}{l:List UInt8}(h:l∈bp p):l.length≤71:=by unfold bp at h;obtain⟨k,_,rfl⟩:=List.mem_map.1 h;exact oU _ (by rw[fq];omega)
theorem qK (p:List UInt8):∀ {k:Nat},k≤(bp p).length→(vg p k).length≤73*k
 | 0,_=>by simp[vg]
 | k+1,h=>by have:=qK p (k:=k) (by omega);have:=pW (List.getElem_mem (l:=bp p) (n:=k) (by omega));rw[sH (by omega),List.length_append,jy,List.length_cons];omega
theorem sj (p:List UInt8):ym p=[112,114,111,103,114,97,109,10]++vg p (bp p).length:=by unfold ym vg;rw[List.take_length];rfl
def gd (P:List (List UInt8)) (k:Nat):List UInt8:=(P.take k).flatMap ym
theorem oD {P:List (List UInt8)}{k:Nat}(hk:k<P.length):gd P (k+1)=gd P k++ym P[k]:=by unfold gd;rw[← List.take_append_getElem hk,List.flatMap_append];simp
theorem mv {P:List (List UInt8)}(hp:∀ p∈P,p.length≤1024):∀ {k:Nat},k≤P.length→(gd P k).length≤18770*k
 | 0,_=>by simp[gd]
 | k+1,h=>by have:=mv hp (k:=k) (by omega);have h1:=hp _ (List.getElem_mem (l:=P) (n:=k) (by omega));have h2:=qK P[k] (Nat.le_refl _);have h3:=pQ P[k];rw[oD (by omega),List.length_append,sj,List.length_append];simp only[List.length_cons,List.length_nil];omega
def kH (A:List ba) (k:Nat):List UInt8:=(A.take k).flatMap fun a=>cL (de a)
theorem pD {A:List ba}{k:Nat}(hk:k<A.length):kH A (k+1)=kH A k++cL (de A[k]):=by unfold kH;rw[← List.take_append_getElem hk,List.flatMap_append];simp
theorem oN {A:List ba}(ok:∀ a∈A,xA a):∀ {k:Nat},k≤A.length→(kH A k).length≤71*k
 | 0,_=>by simp[kH]
 | k+1,h=>by have:=oN ok (k:=k) (by omega);have:=qs (ok _ (List.getElem_mem (l:=A) (n:=k) (by omega)));rw[pD (by omega),List.length_append,jy];omega
theorem AW (c:Nat→Int) (P:List (List UInt8)) (A:List ba):cU c P A=sG c 14++gd P P.length++kH A A.length:=by unfold cU sG gd kH de;rw[List.take_length,List.take_length]
theorem th {c:Nat→Int}{P:List (List UInt8)}{A:List ba}(h:iz c P A=0):(∀ i,i<14→oM c i=true)∧P.length≤16∧1≤P.length∧(∀ p∈P,p.length≤1024)∧A.all ft=true:=by
 unfold iz at h;by_cases hm:kU c P=0
 ·rw[if_neg (by simpa using hm)]at h;by_cases ha:A.all ft=true
  ·unfold kU at hm;by_cases hr:(List.range 14).all (oM c)=true
   ·rw[if_pos hr]at hm;by_cases hl:P.length<1∨16<P.length;·rw[if_pos hl]at hm;cases hm
    ·rw[if_neg hl]at hm;by_cases hp:P.any (fun p=>decide (1024<p.length))=true;·rw[if_pos hp]at hm;cases hm
     ·refine⟨jr.1 hr,by omega,by omega,fun p hpm=>?_,ha⟩;rcases Nat.lt_or_ge 1024 p.length with aB|hge;·exact absurd (List.any_eq_true.2 ⟨p,hpm,decide_eq_true aB⟩) hp
      ·exact hge
   ·rw[if_neg hr]at hm;cases hm
  ·rw[if_neg ha]at h;cases h
 ·rw[if_pos (by simpa using hm)]at h;exact absurd h hm
theorem lP {c:UInt8}:∀ {l:List UInt8},c∉l→aZ c l=[l]
 | [],_=>rfl
 | x::l,h=>by have hx:x≠c:=fun e=>h (by rw[e];exact List.mem_cons_self);rw[aZ,if_neg hx,lP (fun m=>h (List.mem_cons_of_mem _ m))]
theorem jq {c:UInt8}:∀ {a:List UInt8}(b:List UInt8),c∉a→aZ c (a++c::b)=a::aZ c b
 | [],b,_=>by rw[List.nil_append,aZ,if_pos rfl]
 | x::a,b,h=>by have hx:x≠c:=fun e=>h (by rw[e];exact List.mem_cons_self);rw[List.cons_append,aZ,if_neg hx,jq b (fun m=>h (List.mem_cons_of_mem _ m))]
theorem yM:∀ {ls:List (List UInt8)}(r:List UInt8),(∀ l∈ls,(10:UInt8)∉l)→aZ 10 (ls.flatMap cL++r)=ls++aZ 10 r
 | [],r,_=>rfl
 | l::ls,r,h=>by
   have h1:(l::ls).flatMap cL++r=l++10::(ls.flatMap cL++r):=by simp[cL]
   rw[h1,jq _ (h l List.mem_cons_self),yM r (fun x hx=>h x (List.mem_cons_of_mem _ hx))];rfl
theorem mz {ls:List (List UInt8)}(h:∀ l∈ls,(10:UInt8)∉l):aZ 10 (ls.flatMap cL)=ls++[[]]:=by have:=yM [] h;rwa [List.append_nil]at this
def uN (c:UInt8):List (List UInt8)→List UInt8
 | []=>[]
 | [l]=>l
 | l::ls=>l++c::uN c ls
theorem lZ (c:UInt8):∀ l:List UInt8,uN c (aZ c l)=l
 | []=>rfl
 | x::l=>by
   have ih:=lZ c l;have hne:=lT c l;rw[aZ];split
   · rename_i e;cases hs:aZ c l with
     | nil=>exact absurd hs hne
     | cons y ys =>rw[hs]at ih;show []++c::uN c (y::ys)=_;rw[ih,e];rfl
   · cases hs:aZ c l with
     | nil=>exact absurd hs hne
     | cons y ys =>
       rw[hs]at ih
       cases ys with
       | nil=>simp only[uN]at ih ⊢;rw[ih]
       | cons z zs=>simp only[uN,List.cons_append]at ih ⊢;rw[ih]
theorem yW (c:UInt8):∀ {l w:List UInt8},w∈aZ c l→c∉w
 | [],w,h=>by simp only[aZ,List.mem_singleton]at h;subst h;simp
 | x::l,w,h=>by
   have ih:=fun {w}=>yW c (l:=l) (w:=w);rw[aZ]at h;split at h
   · rcases List.mem_cons.1 h with rfl|h;· simp
     · exact ih h
   · rename_i hx;cases hs:aZ c l with
     | nil=>exact absurd hs (lT c l)
     | cons y ys =>
       rw[hs]at h ih;rcases List.mem_cons.1 h with rfl|h
       · intro hm;rcases List.mem_cons.1 hm with e|hm;· exact hx e.symm
         · exact ih List.mem_cons_self hm
       · exact ih (List.mem_cons_of_mem _ h)
theorem mo (c:UInt8):∀ l:List UInt8,(aZ c l).length≤l.length+1
 | []=>by simp[aZ]
 | x::l=>by
   have:=mo c l;rw[aZ];split;· simp;omega
   · split<;>rename_i hs;· simp
     · rw[hs]at this;simp at this ⊢;omega
theorem qJ (c:UInt8):∀ l:List UInt8,((aZ c l).map List.length).sum+(aZ c l).length=l.length+1
 | []=>by simp[aZ]
 | x::l=>by
   have:=qJ c l;rw[aZ];split;· simp;omega
   · split<;>rename_i hs;· exact absurd hs (lT c l)
     · rw[hs]at this;simp at this ⊢;omega
theorem u9:∀ {l:List Nat}{x:Nat},x∈l→x≤l.sum
 | y::l,x,h=>by
   rw[List.sum_cons];rcases List.mem_cons.1 h with rfl|h;· omega
   · have:=u9 h;omega
theorem fv {c:UInt8}{l w:List UInt8}(h:w∈aZ c l):w.length≤l.length:=by
 have h1:=qJ c l;have h2:w.length≤((aZ c l).map List.length).sum:=by exact u9 (List.mem_map_of_mem h)
 have h3:1≤(aZ c l).length:=by
  cases hs:aZ c l with
  | nil=>exact absurd hs (lT c l)
  | cons y ys=>simp
 omega
def Yt (x:UInt8):Prop:=x=45∨(48≤x.toNat∧x.toNat≤57)
theorem eX:∀ (k u:Nat),u≤k→∀ x∈Lib.decDigits u,48≤x.toNat∧x.toNat≤57:=by
 have h1:∀ d,d<10→48≤(UInt8.ofNat (48+d)).toNat∧(UInt8.ofNat (48+d)).toNat≤57:=by
   intro d hd;have:(UInt8.ofNat (48+d)).toNat=48+d:=by simp;omega
   omega
 intro k;induction k with
 | zero =>
   intro u hu x hx
   rw[gU (by omega),List.mem_singleton]at hx
   subst hx;exact h1 u (by omega)
 | succ k ih =>
   intro u hu x hx
   by_cases h:u<10
   · rw[gU h,List.mem_singleton]at hx;subst hx;exact h1 u h
   · rw[rI h]at hx;rcases List.mem_append.1 hx with hx|hx;· exact ih (u / 10) (by omega) x hx
     · rw[List.mem_singleton]at hx;subst hx;exact h1 _ (by omega)
theorem Jr {n:Int}{x:UInt8}(hx:x∈Lib.itoa n):Yt x:=by
 unfold Lib.itoa at hx;split at hx
 ·rcases List.mem_cons.1 hx with rfl|hx;·exact .inl rfl
  ·exact .inr (eX _ _ (Nat.le_refl _) x hx)
 ·exact .inr (eX _ _ (Nat.le_refl _) x hx)
theorem SM {x y:UInt8}(h:Yt x) (h1:y.toNat<45∨57<y.toNat):y≠x:=by
 rintro rfl;rcases h with rfl|h;·revert h1;decide
 ·omega
theorem jo {n:Int}{y:UInt8}(h1:y.toNat<45∨57<y.toNat):y∉Lib.itoa n:=fun h=>SM (Jr h) h1 rfl
theorem gD (u:Nat):Lib.decDigits u≠[]:=by
 by_cases h:u<10;·rw[gU h];simp
 ·rw[rI h];simp
theorem um {n:UInt8}(h:n.toNat<16) {y:UInt8}(hy:y.toNat<48):y≠cW n:=by
 have key:∀ n:Fin 16,48≤(cW (UInt8.ofNat n.1)).toNat:=by decide
 have h1:=key ⟨n.toNat,h⟩;simp only[UInt8.ofNat_toNat]at h1;rintro rfl;omega
theorem zJ (w:List UInt8):(10:UInt8)∉lH w:=by
 unfold lH;intro h;rcases List.mem_append.1 h with h|h;·revert h;decide
 ·obtain⟨x,_,hx⟩:=List.mem_flatMap.1 h;simp only[List.mem_cons,List.not_mem_nil,or_false]at hx;rcases hx with hx|hx;·exact um (vO x) (by decide) hx
  ·exact um (mod_lt x) (by decide) hx
theorem tE (o:Nat) {y:UInt8}(hy:y.toNat<97):y∉(dF o).1:=by
 have:∀ x∈(dF o).1,97≤x.toNat:=by rcases eM o with ⟨_,e⟩|⟨_,e⟩|⟨_,e⟩|⟨_,e⟩|⟨_,e⟩|⟨_,e⟩|⟨_,e⟩|⟨_,e⟩|⟨_,e⟩|⟨_,e⟩<;>rw[e]<;>decide
 intro h;have:=this y h;omega
theorem HV (o a b c:UInt8):(10:UInt8)∉e_ o a b c:=by
 unfold e_;intro h;rcases List.mem_append.1 h with h|h;·exact tE _ (by decide) h
 ·obtain⟨x,_,hx⟩:=List.mem_flatMap.1 h;rcases List.mem_cons.1 hx with hx|hx;·revert hx;decide
  ·exact jo (by decide) hx
theorem FH (w:List UInt8):(10:UInt8)∉fk w:=by
 unfold fk;split
 ·split;·exact HV _ _ _ _
  ·exact zJ _
 ·exact zJ _
theorem nX {p l:List UInt8}(h:l∈bp p):(10:UInt8)∉l:=by unfold bp at h;obtain⟨k,_,rfl⟩:=List.mem_map.1 h;exact FH _
theorem iX (p:List UInt8):aZ 10 (c_ p)=bp p++[[]]:=mz fun _ h=>nX h
theorem yV {w:List UInt8}(h:w∈aM):∀ x∈w,97≤x.toNat:=by
 have:aM.all (fun w=>w.all fun x=>decide (97≤x.toNat))=true:=by decide
 intro x hx;exact of_decide_eq_true (List.all_eq_true.1 (List.all_eq_true.1 this w h) x hx)
theorem qd {k:Nat}(hk:k<14):aM.getD k []∈aM:=by have h14:aM.length=14:=rfl;rw[List.getD_eq_getElem?_getD,List.getElem?_eq_getElem (by omega)];exact List.getElem_mem _
theorem kl {c:Nat→Int}{k:Nat}(hk:k<14):aZ 32 (dh c k)=[aM.getD k [],Lib.itoa (c k)]:=by
 unfold dh;have h1:(32:UInt8)∉aM.getD k []:=fun h=>by have:=yV (qd hk) _ h;revert this;decide
 have e:aM.getD k []++[32]++Lib.itoa (c k)=aM.getD k []++32::Lib.itoa (c k):=by simp
 rw[e,jq _ h1,lP (jo (by decide))]
theorem EV {c:Nat→Int}{k:Nat}(hk:k<14):(10:UInt8)∉dh c k:=by
 unfold dh;intro h;rcases List.mem_append.1 h with h|h
 ·rcases List.mem_append.1 h with h|h;·have:=yV (qd hk) _ h;revert this;decide
  ·revert h;decide
 ·exact jo (by decide) h
def dM:List UInt8:=[112,114,111,103,114,97,109]
def gy:List UInt8:=[99,108,111,99,107]
def jZ:List UInt8:=[114,117,110]
theorem zW (p v c:Int):aZ 32 (jZ++[32]++Lib.itoa p++[32]++Lib.itoa v++[32]++Lib.itoa c)=[jZ,Lib.itoa p,Lib.itoa v,Lib.itoa c]:=by
 have e:jZ++[32]++Lib.itoa p++[32]++Lib.itoa v++[32]++Lib.itoa c=jZ++32::(Lib.itoa p++32::(Lib.itoa v++32::Lib.itoa c)):=by simp
 rw[e,jq _ (by decide),jq _ (jo (by decide)),jq _ (jo (by decide)),lP (jo (by decide))]
theorem jv {a:ba}(h:a.k≠2):de a=jZ++[32]++Lib.itoa a.p++[32]++Lib.itoa a.v++[32]++Lib.itoa a.c:=by unfold de uM;rw[if_neg h];rfl
theorem jh {a:ba}(h:a.k=2):de a=gy:=by unfold de uM;rw[if_pos h];rfl
theorem IS (a:ba):(10:UInt8)∉de a:=by
 by_cases h:a.k=2;·rw[jh h];decide
 ·rw[jv h];intro hm;simp only[List.mem_append]at hm;rcases hm with (((((hm|hm)|hm)|hm)|hm)|hm)|hm;·revert hm;decide
  ·revert hm;decide
  ·exact jo (by decide) hm
  ·revert hm;decide
  ·exact jo (by decide) hm
  ·revert hm;decide
  ·exact jo (by decide) hm
def ct (p:List UInt8):List (List UInt8):=dM::(bp p).map (32::·)
def cO (c:Nat→Int) (P:List (List UInt8)) (A:List ba):List (List UInt8):=(List.range 14).map (dh c)++P.flatMap ct++A.map de
theorem B8 (c:Nat→Int) (P:List (List UInt8)) (A:List ba):cU c P A=(cO c P A).flatMap cL:=by unfold cU cO;rw[List.flatMap_append,List.flatMap_append,List.flatMap_map,List.flatMap_map,List.flatMap_assoc];congr 2;congr 1;funext p;unfold ym ct;rw[List.flatMap_cons,List.flatMap_map];rfl
theorem BT {c:Nat→Int}{P:List (List UInt8)}{A:List ba}{l:List UInt8}(h:l∈cO c P A):(10:UInt8)∉l:=by
 unfold cO at h;rcases List.mem_append.1 h with h|h
 ·rcases List.mem_append.1 h with h|h;·obtain⟨k,hk,rfl⟩:=List.mem_map.1 h;exact EV (List.mem_range.1 hk)
  ·obtain⟨p,_,h⟩:=List.mem_flatMap.1 h;rcases List.mem_cons.1 h with rfl|h;·decide
   ·obtain⟨l,hl,rfl⟩:=List.mem_map.1 h;intro hm;rcases List.mem_cons.1 hm with hm|hm;·revert hm;decide
    ·exact nX hl hm
 ·obtain⟨a,_,rfl⟩:=List.mem_map.1 h;exact IS a
theorem l6 (c:Nat→Int) (P:List (List UInt8)) (A:List ba):aZ 10 (cU c P A)=cO c P A++[[]]:=by rw[B8];exact mz fun _ h=>BT h
def pk (w:List UInt8):Int:=match Lib.atoiAll w with
 | .ok n=>n
 | .range=>Lib.atoiSat w
 | _=>0
theorem iF:∀ (x y:List UInt8) (a:Nat),Lib.decFrom a (x++y)=(Lib.decFrom a x).bind fun m=>Lib.decFrom m y
 | [],y,a=>rfl
 | b::x,y,a=>by
   simp only[List.cons_append,Lib.decFrom];cases Lib.digitVal b with
   | none=>rfl
   | some d=>exact iF x y _
theorem qe:∀ (l:List UInt8) (a n:Nat),Lib.decFrom a l=some n→a≤n
 | [],a,n,h=>by simp only[Lib.decFrom,Option.some.injEq]at h;omega
 | b::l,a,n,h=>by
   simp only[Lib.decFrom]at h;cases hd:Lib.digitVal b with
   | none=>rw[hd]at h;cases h
   | some d=>rw[hd]at h;have:=qe l _ n h;omega
theorem jQ {l:List UInt8}{k m n:Nat}(h:Lib.decFrom 0 l=some n) (hm:Lib.decFrom 0 (l.take k)=some m):m≤n:=by have:=iF (l.take k) (l.drop k) 0;rw[List.take_append_drop,hm,h,Option.bind_some]at this;exact qe _ _ _ this.symm
theorem gq:∀ (k u:Nat),u≤k→Lib.decFrom 0 (Lib.decDigits u)=some u:=by
 intro k;induction k with
 | zero =>
   intro u hu
   have:u=0:=by omega
   subst this
   rw[gU (by decide)];rfl
 | succ k ih =>
   intro u hu
   have dg:∀ d:Nat,d<10→Lib.digitVal (UInt8.ofNat (48+d))=some d:=by
     intro d hd;have h3:(UInt8.ofNat (48+d)).toNat=48+d:=by simp;omega
     unfold Lib.digitVal;rw[h3,if_pos (by omega)];congr 1;omega
   by_cases h:u<10
   · rw[gU h];simp only[Lib.decFrom,dg u h];congr 1;omega
   · rw[rI h,iF,ih (u / 10) (by omega),Option.bind_some];simp only[Lib.decFrom,dg (u%10) (by omega)];congr 1;omega
theorem zk:∀ (l:List UInt8) (a n:Nat),Lib.decFrom a l=some n→n<18446744073709551616→Lib.parseUint10 a l=.ok n
 | [],a,n,h,_=>by simp only[Lib.decFrom,Option.some.injEq]at h;subst h;rfl
 | b::l,a,n,h,hn=>by
   simp only[Lib.decFrom]at h;cases hd:Lib.digitVal b with
   | none=>rw[hd]at h;cases h
   | some d =>
     rw[hd]at h
     have hge:=qe _ _ _ h
     unfold Lib.digitVal at hd
     split at hd
     · rename_i hb;simp only[Option.some.injEq]at hd;subst hd;simp only[Lib.parseUint10,if_pos hb];rw[if_neg (by omega),if_neg (by omega)];exact zk l _ n h hn
     · cases hd
theorem nf {u:Nat}(hu:u<18446744073709551616):Lib.parseMag (Lib.decDigits u)=.ok u:=by unfold Lib.parseMag;rw[if_neg (gD u)];exact zk _ _ _ (gq u u (Nat.le_refl _)) hu
theorem ja {n:Int}(h0 : -9223372036854775808≤n) (h1:n≤9223372036854775807):pk (Lib.itoa n)=n:=by
 have key:Lib.atoiAll (Lib.itoa n)=.ok n:=by
   by_cases hn:n<0
   · have e:Lib.itoa n=45::Lib.decDigits n.natAbs:=by unfold Lib.itoa;rw[if_pos hn]
     rw[e];have hm:=nf (u:=n.natAbs) (by omega);simp only[Lib.atoiAll];have c45:(45:UInt8).toNat=45:=rfl;simp only[c45,or_true,if_true,hm,not_true_eq_false,false_and,if_false,true_and];rw[if_neg (by omega)];congr 1;omega
   · have e:Lib.itoa n=Lib.decDigits n.toNat:=by unfold Lib.itoa;rw[if_neg hn]
     have hm:=nf (u:=n.toNat) (by omega);have hd:=eX _ n.toNat (Nat.le_refl _);rw[e];cases hl:Lib.decDigits n.toNat with
     | nil=>exact absurd hl (gD _)
     | cons b r =>
       have hb:=hd b (by rw[hl];exact List.mem_cons_self)
       rw[hl]at hm
       have n1:¬(b.toNat=43∨b.toNat=45):=by omega
       have n2:¬b.toNat=45:=by omega
       unfold Lib.atoiAll
       dsimp only
       rw[if_neg n1,hm]
       dsimp only
       rw[if_neg (by rintro ⟨_,h⟩;omega),if_neg (by rintro ⟨h,_⟩;exact n2 h),if_neg n2]
       congr 1;omega
 unfold pk;rw[key]
theorem M7 (w:List UInt8) : -9223372036854775808≤pk w∧pk w≤9223372036854775807:=by
 unfold pk;split
 ·rename_i n h;unfold Lib.atoiAll at h;split at h;·cases h
  ·rename_i c r;split at h;·cases h
   ·cases h
   ·rename_i u hu;dsimp only at h;split at h;·cases h
    ·split at h;·cases h
     ·rename_i h1 h2;injection h with h;subst h;split<;>omega
 ·unfold Lib.atoiSat;split<;>omega
 ·omega
def hZ (f:List (List UInt8)) (i:Nat):Int:=match f[i]? with
 | none=>0
 | some w=>pk w
theorem Bl (f:List (List UInt8)) (i:Nat) : -9223372036854775808≤hZ f i∧hZ f i≤9223372036854775807:=by
 unfold hZ;split;·omega
 ·exact M7 _
def kP (f:List (List UInt8)):ba:=⟨1,hZ f 1,hZ f 2,hZ f 3⟩
structure St where
 c:Nat→Int
 Q:List (List UInt8)
 A:List ba
def St.set (s:St) (k:Nat) (v:Int):St:={ s with c:=fun i=>if i=k then v else s.c i }
inductive Step (l:List UInt8) (s:St):St→Prop
 | prog:l=dM→Step l s { s with Q:=s.Q++[[]] }
 | ind (r q:List UInt8) (Q:List (List UInt8)):l=32::r→s.Q=Q++[q]→Step l s { s with Q:=Q++[q++cL r] }
 | clock:l=gy→Step l s { s with A:=s.A++[⟨2,0,0,0⟩] }
 | run:(aZ 32 l).head?=some jZ→Step l s { s with A:=s.A++[kP (aZ 32 l)] }
 | set (k:Nat) (w:List UInt8) (v:Int):k<14→aZ 32 l=[aM.getD k [],w]→0≤v→v<1099511627776→(∀ n:Int,0≤n→n≤4294967296→w=Lib.itoa n→v=n)→Step l s (s.set k v)
inductive pB:St→List (List UInt8)→St→Prop
 | nil (s:St):pB s [] s
 | cons {l:List UInt8}{ls:List (List UInt8)}{s s' s'':St}:Step l s s'→pB s' ls s''→pB s (l::ls) s''
structure Stop (l:List UInt8) (s:St):Prop where
 prog:l≠dM
 ind:∀ r,l=32::r→s.Q=[]
 clock:l≠gy
 run:(aZ 32 l).head?≠some jZ
 set:∀ k w,k<14→aZ 32 l≠[aM.getD k [],w]
theorem pB.app {a b:List (List UInt8)}{s s' s'':St}(h1:pB s a s') (h2:pB s' b s''):pB s (a++b) s'':=by
 induction h1 with
 | nil=>exact h2
 | cons st _ ih=>exact .cons st (ih h2)
theorem pB.one {l:List UInt8}{a:List (List UInt8)}{s s' s'':St}(h1:pB s a s') (h2:Step l s' s''):pB s (a++[l]) s'':=h1.app (.cons h2 (.nil _))
theorem pB.split:∀ {a b:List (List UInt8)}{s s'':St},pB s (a++b) s''→∃ s',pB s a s'∧pB s' b s''
 | [],b,s,s'',h=>⟨s,.nil _,h⟩
 | l::a,b,s,s'',h=>by
   cases h with
   | cons st r=>obtain⟨s',h1,h2⟩:=pB.split (a:=a) r;exact⟨s',.cons st h1,h2⟩
theorem vf (r:List UInt8):aZ 32 (32::r)=[]::aZ 32 r:=by rw[aZ,if_pos rfl]
theorem ta:aZ 32 dM=[dM]:=by decide
theorem pG:aZ 32 gy=[gy]:=by decide
theorem zO {k:Nat}(hk:k<14):aM.getD k []≠[]∧aM.getD k []≠jZ:=by
 have:∀ i:Fin 14,aM.getD i.1 []≠[]∧aM.getD i.1 []≠jZ:=by decide
 exact this ⟨k,hk⟩
theorem word_inj {k j:Nat}(hk:k<14) (hj:j<14) (h:aM.getD k []=aM.getD j []):k=j:=by
 have:∀ i j:Fin 14,aM.getD i.1 []=aM.getD j.1 []→i=j:=by decide
 exact congrArg Fin.val (this ⟨k,hk⟩ ⟨j,hj⟩ h)
structure Good (c:Nat→Int) (P:List (List UInt8)) (A:List ba):Prop where
 c:∀ i,i<14→oM c i=true
 p1:1≤P.length
 Y8:P.length≤16
 p:∀ p∈P,p.length≤1024
 a:A.all ft=true
 ok:∀ a∈A,xA a
theorem sf {c:Nat→Int}{k:Nat}(hk:k<14) (h:oM c k=true):0<c k∧c k≤4294967296:=by unfold oM at h;simp only[Bool.and_eq_true,decide_eq_true_eq]at h;have:=F4 hk;omega
theorem Ko {c:Nat→Int}{k:Nat}{s s':St}(hk:k<14) (hb:0<c k∧c k≤4294967296) (h:Step (dh c k) s s'):s'=s.set k (c k):=by
 have hs:=kl (c:=c) hk;have hw:=zO hk;cases h with
 | prog e=>rw[e,ta]at hs;simp at hs
 | ind r q Q e _=>rw[e,vf]at hs;simp only[List.cons.injEq]at hs;exact absurd hs.1.symm hw.1
 | clock e=>rw[e,pG]at hs;simp at hs
 | run e=>rw[hs]at e;simp only[List.head?_cons,Option.some.injEq]at e;exact absurd e hw.2
 | set j w v hj e v0 v1 hv =>
   rw[hs]at e
   simp only[List.cons.injEq,and_true]at e
   have:=word_inj hk hj e.1
   subst this
   rw[hv (c k) (by omega) hb.2 e.2.symm]
theorem x_ {s s':St}(h:Step dM s s'):s'={ s with Q:=s.Q++[[]] }:=by
 cases h with
 | prog e=>rfl
 | ind r q Q e _=>simp[dM]at e
 | clock e=>exact absurd e (by decide)
 | run e=>exact absurd e (by decide)
 | set j w v hj e v0 v1 hv=>rw[ta]at e;simp at e
theorem Kg {r:List UInt8}{s s':St}(h:Step (32::r) s s'):∃ q Q,s.Q=Q++[q]∧s'={ s with Q:=Q++[q++cL r] }:=by
 cases h with
 | prog e=>simp[dM]at e
 | ind r' q Q e e2=>simp only[List.cons.injEq,true_and]at e;subst e;exact⟨q,Q,e2,rfl⟩
 | clock e=>simp[gy]at e
 | run e=>rw[vf]at e;simp[jZ]at e
 | set j w v hj e v0 v1 hv =>
   rw[vf]at e
   simp only[List.cons.injEq]at e
   exact absurd e.1.symm (zO hj).1
theorem Bh {a:ba}(h:ft a=true):a.k=1∨a=⟨2,0,0,0⟩:=by
 obtain⟨k,p,v,c⟩:=a;simp only[ft,Bool.or_eq_true,Bool.and_eq_true,decide_eq_true_eq]at h;rcases h with h|⟨⟨⟨h1,h2⟩,h3⟩,h4⟩;·exact .inl h
 ·exact .inr (by subst h1;subst h2;subst h3;subst h4;rfl)
theorem ED {p v c:Int}(hp : -9223372036854775808≤p∧p≤9223372036854775807) (hv : -9223372036854775808≤v∧v≤9223372036854775807) (hc : -9223372036854775808≤c∧c≤9223372036854775807):kP [jZ,Lib.itoa p,Lib.itoa v,Lib.itoa c]=⟨1,p,v,c⟩:=by unfold kP hZ;simp only[List.getElem?_cons_succ,List.getElem?_cons_zero,ja hp.1 hp.2,ja hv.1 hv.2,ja hc.1 hc.2]
theorem Qo {a:ba}{s s':St}(hb:ft a=true) (ok:xA a) (h:Step (de a) s s'):s'={ s with A:=s.A++[a] }:=by
 rcases Bh hb with hk|rfl
 · have hs:aZ 32 (de a)=[jZ,Lib.itoa a.p,Lib.itoa a.v,Lib.itoa a.c]:=by rw[jv (by omega),zW]
   cases h with
   | prog e=>rw[e,ta]at hs;simp at hs
   | ind r q Q e _=>rw[e,vf]at hs;simp[jZ]at hs
   | clock e=>rw[e,pG]at hs;simp at hs
   | run e =>
     rw[hs,ED ok.1 ok.2.1 ok.2.2]
     obtain⟨k,p,v,c⟩:=a
     simp only at hk
     subst hk;rfl
   | set j w v hj e v0 v1 hv=>rw[hs]at e;simp at e
 · have e0:de ⟨2,0,0,0⟩=gy:=jh rfl;rw[e0]at h;cases h with
   | prog e=>exact absurd e (by decide)
   | ind r q Q e _=>simp[gy]at e
   | clock e=>rfl
   | run e=>exact absurd e (by decide)
   | set j w v hj e v0 v1 hv=>rw[pG]at e;simp at e
theorem J0 {s s':St}(h:Step [] s s'):False:=by
 cases h with
 | prog e=>simp[dM]at e
 | ind r q Q e _=>simp at e
 | clock e=>simp[gy]at e
 | run e=>simp[aZ,jZ]at e
 | set j w v hj e v0 v1 hv=>simp[aZ]at e
def DM:St:=⟨fun _=>0,[],[]⟩
theorem GH {c:Nat→Int}{s:St}:∀ {m:Nat}{s':St},m≤14→(∀ i,i<14→0<c i∧c i≤4294967296)→pB s ((List.range m).map (dh c)) s'→s'.Q=s.Q∧s'.A=s.A∧∀ k,s'.c k=if k<m then c k else s.c k
 | 0,s',_,_,h=>by cases h;exact⟨rfl,rfl,fun k=>by rw[if_neg (by omega)]⟩
 | m+1,s',hm,hb,h=>by
   rw[List.range_succ,List.map_append]at h;obtain⟨s1,h1,h2⟩:=h.split;obtain⟨e1,e2,e3⟩:=GH (by omega) hb h1;cases h2 with
   | cons st r =>
     cases r
     rw[Ko (by omega) (hb m (by omega)) st]
     refine⟨e1,e2,fun k=>?_⟩
     show (if k=m then c m else s1.c k)=_
     by_cases hk:k=m
     · subst hk;rw[if_pos rfl,if_pos (by omega)]
     · rw[if_neg hk,e3 k];by_cases hk2:k<m;· rw[if_pos hk2,if_pos (by omega)]
       · rw[if_neg hk2,if_neg (by omega)]
theorem Gq:∀ {ls:List (List UInt8)}{s s':St}{q:List UInt8}{Q:List (List UInt8)},s.Q=Q++[q]→pB s (ls.map (32::·)) s'→s'.c=s.c∧s'.A=s.A∧s'.Q=Q++[q++ls.flatMap cL]
 | [],s,s',q,Q,hq,h=>by cases h;exact⟨rfl,rfl,by rw[hq];simp⟩
 | l::ls,s,s',q,Q,hq,h=>by
   cases h with
   | cons st r =>
     obtain⟨q',Q',e1,rfl⟩:=Kg st
     have e2:=hq.symm.trans e1
     have e3:=List.append_inj' e2 rfl
     simp only[List.cons.injEq,and_true]at e3
     obtain⟨rfl,rfl⟩:=e3
     obtain⟨h1,h2,h3⟩:=Gq (q:=q++cL l) (Q:=Q) rfl r
     exact⟨h1,h2,by rw[h3];simp⟩
theorem yT:∀ {P:List (List UInt8)}{s s':St},pB s (P.flatMap ct) s'→s'.c=s.c∧s'.A=s.A∧s'.Q=s.Q++P.map c_
 | [],s,s',h=>by cases h;exact⟨rfl,rfl,by simp⟩
 | p::P,s,s',h=>by
   rw[List.flatMap_cons]at h;obtain⟨s1,h1,h2⟩:=h.split;cases h1 with
   | cons st r =>
     rw[x_ st]at r
     obtain⟨e1,e2,e3⟩:=Gq (q:=[]) (Q:=s.Q) rfl r
     obtain⟨g1,g2,g3⟩:=yT h2
     exact⟨g1.trans e1,g2.trans e2,by rw[g3,e3];simp[c_]⟩
theorem Cw:∀ {A:List ba}{s s':St},A.all ft=true→(∀ a∈A,xA a)→pB s (A.map de) s'→s'.c=s.c∧s'.Q=s.Q∧s'.A=s.A++A
 | [],s,s',_,_,h=>by cases h;exact⟨rfl,rfl,by simp⟩
 | a::A,s,s',hb,ok,h=>by
   rw[List.all_cons,Bool.and_eq_true]at hb;cases h with
   | cons st r =>
     rw[Qo hb.1 (ok a List.mem_cons_self) st]at r
     obtain⟨g1,g2,g3⟩:=Cw hb.2 (fun x hx=>ok x (List.mem_cons_of_mem _ hx)) r
     exact⟨g1,g2,by rw[g3];simp⟩
theorem LC {c:Nat→Int}{P:List (List UInt8)}{A:List ba}{s:St}(g:Good c P A) (h:pB DM (cO c P A) s):(∀ k,k<14→s.c k=c k)∧s.Q=P.map c_∧s.A=A:=by
 unfold cO at h;obtain⟨s2,h12,h3⟩:=h.split;obtain⟨s1,h1,h2⟩:=h12.split;obtain⟨a1,a2,a3⟩:=GH (Nat.le_refl _) (fun i hi=>sf hi (g.c i hi)) h1;obtain⟨b1,b2,b3⟩:=yT h2;obtain⟨c1,c2,c3⟩:=Cw g.a g.ok h3;refine⟨fun k hk=>?_,?_,?_⟩;·rw[c1,b1,a3 k,if_pos hk]
 ·rw[c2,b3,a1];rfl
 ·rw[c3,b2,a2];rfl
theorem S8 {ls:List (List UInt8)}{s s':St}(h:pB s ls s'):(s.Q≠[]→s'.Q≠[])∧(dM∈ls→s'.Q≠[]):=by
 induction h with
 | nil=>exact⟨id,fun h=>by cases h⟩
 | @cons l ls s s1 s2 st r ih =>
   have h1:s.Q≠[]→s1.Q≠[]:=by
     intro h;cases st with
     | prog e=>simp
     | ind r q Q e e2=>simp
     | clock e=>exact h
     | run e=>exact h
     | set j w v hj e v0 v1 hv=>exact h
   refine⟨fun h=>ih.1 (h1 h),fun h=>?_⟩
   rcases List.mem_cons.1 h with e|h
   · subst e;rw[x_ st]at ih;exact ih.1 (by simp)
   · exact ih.2 h
theorem It {c:Nat→Int}{P:List (List UInt8)}{A:List ba}{s:St}{k:Nat}(g:Good c P A) (hk:k<(cO c P A++[[]]).length) (h:pB DM ((cO c P A++[[]]).take k) s) (hs:Stop (cO c P A++[[]])[k] s):k=(cO c P A).length:=by
 rcases Nat.lt_or_ge k (cO c P A).length with aB|hge
 ·exfalso;have e1:(cO c P A++[[]])[k]=(cO c P A)[k]:=List.getElem_append_left aB;have e2:(cO c P A++[[]]).take k=(cO c P A).take k:=List.take_append_of_le_length (by omega);rw[e1]at hs;rw[e2]at h;have hm:=List.getElem_mem aB;generalize hl:(cO c P A)[k]=l at hs hm;unfold cO at hm;rcases List.mem_append.1 hm with hm|hm
  ·rcases List.mem_append.1 hm with hm|hm;·obtain⟨j,hj,rfl⟩:=List.mem_map.1 hm;have hj:=List.mem_range.1 hj;exact hs.set j _ hj (kl hj)
   ·obtain⟨p,hp,hm⟩:=List.mem_flatMap.1 hm;rcases List.mem_cons.1 hm with e|hm;·exact hs.prog e
    ·obtain⟨r,_,rfl⟩:=List.mem_map.1 hm;have hQ:=hs.ind r rfl;refine(S8 h).2 ?_ hQ;have h14:∃ hh:14<(cO c P A).length,(cO c P A)[14]=dM:=by
      obtain⟨p0,P',rfl⟩:∃ p0 P',P=p0::P':=by
       cases P with
       | nil=>have:=g.p1;simp at this
       | cons p0 P'=>exact⟨p0,P',rfl⟩
      have hlen:14<(cO c (p0::P') A).length:=by simp[cO,ct]
      refine⟨hlen,?_⟩;simp only[cO,ct,List.flatMap_cons,List.cons_append,List.append_assoc];rw[List.getElem_append_right (by simp)];simp
     obtain⟨hh,QV⟩:=h14;have hk14:14<k:=by
      rcases Nat.lt_trichotomy k 14 with h1|h1|h1
      ·exfalso;have:(cO c P A)[k]=dh c k:=by simp only[cO,List.append_assoc];rw[List.getElem_append_left (by simpa using h1)];simp
       rw[this]at hl;have hs2:=kl (c:=c) h1;rw[hl,vf]at hs2;simp only[List.cons.injEq]at hs2;exact(zO h1).1 hs2.1.symm
      ·exfalso;subst h1;rw[QV]at hl;simp[dM]at hl
      ·exact h1
     have:((cO c P A).take k)[14]'(by simp;omega)=dM:=by rw[List.getElem_take];exact QV
     rw[← this];exact List.getElem_mem _
  ·obtain⟨a,ha,rfl⟩:=List.mem_map.1 hm;rcases Bh (List.all_eq_true.1 g.a a ha) with hk1|rfl;·refine hs.run ?_;rw[jv (by omega),zW];rfl
   ·exact hs.clock (jh rfl)
 ·simp only[List.length_append,List.length_cons,List.length_nil]at hk;omega
def zo (ls:List (List UInt8)) (s:St):Prop:=pB DM ls s∨∃ k,∃ h:k<ls.length,pB DM (ls.take k) s∧Stop ls[k] s
theorem mN {c:Nat→Int}{P:List (List UInt8)}{A:List ba}{s:St}{t:List UInt8}(g:Good c P A) (ht:t=cU c P A) (h:zo (aZ 10 t) s):(∀ k,k<14→s.c k=c k)∧s.Q=P.map c_∧s.A=A:=by
 rw[ht,l6]at h;rcases h with h|⟨k,hk,h1,h2⟩
 ·obtain⟨s1,_,h2⟩:=h.split;cases h2 with
  | cons st _=>exact(J0 st).elim
 ·have e:=It g hk h1 h2;subst e;rw[List.take_left']at h1;·exact LC g h1
  ·rfl
theorem Ia {ls:List (List UInt8)}{s s':St}(h:pB s ls s'):s'.A.length+s'.Q.length≤s.A.length+s.Q.length+ls.length∧∀ B,(∀ q∈s.Q,q.length≤B)→∀ q∈s'.Q,q.length≤B+(ls.map fun l=>l.length+1).sum:=by
 induction h with
 | nil=>exact⟨by simp,fun B hB q hq=>by simpa using hB q hq⟩
 | @cons l ls s s1 s2 st r ih =>
   obtain⟨i1,i2⟩:=ih
   refine⟨?_,fun B hB q hq=>?_⟩
   · have:s1.A.length+s1.Q.length≤s.A.length+s.Q.length+1:=by
       cases st with
       | prog e=>simp;omega
       | ind r q Q e e2=>rw[e2];simp
       | clock e=>simp;omega
       | run e=>simp;omega
       | set j w v hj e v0 v1 hv=>simp[St.set]
     simp only[List.length_cons];omega
   · have hB1:∀ q∈s1.Q,q.length≤B+(l.length+1):=by
       cases st with
       | prog e =>
         intro q hq
         rcases List.mem_append.1 hq with hq|hq
         · have:=hB q hq;omega
         · rw[List.mem_singleton]at hq;subst hq;simp
       | ind r q0 Q e e2 =>
         intro q hq
         rcases List.mem_append.1 hq with hq|hq
         · have:=hB q (by rw[e2];exact List.mem_append_left _ hq);omega
         · rw[List.mem_singleton]at hq;subst hq;have:=hB q0 (by rw[e2];simp);rw[e,List.length_append,jy,List.length_cons];omega
       | clock e=>intro q hq;have:=hB q hq;omega
       | run e=>intro q hq;have:=hB q hq;omega
       | set j w v hj e v0 v1 hv=>intro q hq;have:=hB q hq;omega
     have:=i2 _ hB1 q hq;simp only[List.map_cons,List.sum_cons];omega
def GL (s:St):Prop:=(∀ k,0≤s.c k∧s.c k<1099511627776)∧∀ a∈s.A,xA a
theorem RJ (f:List (List UInt8)):xA (kP f):=⟨Bl f 1,Bl f 2,Bl f 3⟩
theorem Step.GL {l:List UInt8}{s s':St}(h:Step l s s') (ok:GL s):GL s':=by
 obtain⟨o1,o2⟩:=ok;cases h with
 | prog e=>exact⟨o1,o2⟩
 | ind r q Q e e2=>exact⟨o1,o2⟩
 | clock e =>
   refine⟨o1,fun a ha=>?_⟩
   rcases List.mem_append.1 ha with ha|ha
   · exact o2 a ha
   · rw[List.mem_singleton]at ha;subst ha;unfold xA;dsimp only;omega
 | run e =>
   refine⟨o1,fun a ha=>?_⟩
   rcases List.mem_append.1 ha with ha|ha
   · exact o2 a ha
   · rw[List.mem_singleton]at ha;subst ha;exact RJ _
 | set j w v hj e v0 v1 hv =>
   refine⟨fun k=>?_,o2⟩
   show 0≤(if k=j then v else s.c k)∧_
   by_cases hk:k=j
   · subst hk;simp only[St.set,if_true];exact⟨v0,v1⟩
   · simp only[St.set,if_neg hk];exact o1 k
theorem pB.GL {ls:List (List UInt8)}{s s':St}(h:pB s ls s'):Go.Proofs.YtohjaacnlmkhbaaGreatDoor.GL s→Go.Proofs.YtohjaacnlmkhbaaGreatDoor.GL s':=by
 induction h with
 | nil=>exact id
 | cons st _ ih=>exact fun o=>ih (st.GL o)
theorem Xv:GL DM:=⟨fun _=>by simp[DM],fun a ha=>by cases ha⟩
theorem GL.Mi {s:St}(o:GL s):Mi s.c:=⟨fun k _=>by have:=o.1 k;omega,fun k _ _=>by have:=o.1 k;omega⟩
def xh:List UInt8:=[99,97,108,108]
def r7:List UInt8:=[114,97,119]
def bu (n:Int):UInt8:=UInt8.ofNat (n%256).toNat
theorem ju (n:Int):((bu n).toNat:Int)=n%256:=by
 unfold bu;have h0:=Int.emod_nonneg n (b:=256) (by decide);have h1:=Int.emod_lt_of_pos n (b:=256) (by decide);have h2:(UInt8.ofNat (n%256).toNat).toNat=(n%256).toNat%256:=by simp
 rw[h2,Nat.mod_eq_of_lt (by omega)];omega
theorem gr {n:Int}{x:UInt8}(h:n%256=(x.toNat:Int)):bu n=x:=by apply UInt8.toNat_inj.1;have:=ju n;omega
def sP (n:Int) (s:UInt8×UInt8×UInt8) (ch:UInt8):UInt8×UInt8×UInt8 :=
 if ch=97 then (bu n,s.2.1,s.2.2) else if ch=98 then (s.1,bu n,s.2.2) else if ch=99 then (s.1,s.2.1,bu n) else (s.1,bu (n.fdiv 256),bu n)
def fw (f:List (List UInt8)) (nm:List UInt8):Nat→UInt8×UInt8×UInt8
 | 0=>(0,0,0)
 | k+1=>sP (hZ f (k+1)) (fw f nm k) (nm.getD k 0)
def xI (w:List UInt8):Option Nat:=(List.range 8).find? fun o=>decide ((dF o).1=w)
def dV (f:List (List UInt8)):UInt8×UInt8×UInt8×UInt8 :=
 if f.head?=some xh then (bu (16+hZ f 1),0,0,0)
 else match xI (f.headD []) with
  | none=>(0,0,0,0)
  | some o=>(UInt8.ofNat o,fw f (dF o).2.1 (dF o).2.1.length)
theorem mc {o a b c:UInt8}:aZ 32 (e_ o a b c)=(dF o.toNat).1::(dF o.toNat).2.1.map fun ch=>Lib.itoa (gV o a b c ch):=by
 have key:∀ (w nm:List UInt8),(32:UInt8)∉w→aZ 32 (w++nm.flatMap fun ch=>32::Lib.itoa (gV o a b c ch))=w::nm.map fun ch=>Lib.itoa (gV o a b c ch):=by
   intro w nm;induction nm generalizing w with
   | nil=>intro hw;rw[List.flatMap_nil,List.append_nil,lP hw];rfl
   | cons ch nm ih =>
     intro hw
     rw[List.flatMap_cons,List.cons_append,jq _ hw,ih _ (jo (by decide))];rfl
 exact key _ _ (tE _ (by decide))
theorem ka {o:Nat}(ho:o<8):xI (dF o).1=some o:=by
 have:∀ i:Fin 8,xI (dF i.1).1=some i.1:=by decide
 exact this ⟨o,ho⟩
theorem Nn {o:Nat}(h:(dF o).2.2=true):(o<8∧(dF o).1≠xh)∨((17≤o∧o≤38)∧dF o=(xh,[107],true)):=by
 rcases eM o with ⟨e0,e⟩|⟨e0,e⟩|⟨e0,e⟩|⟨e0,e⟩|⟨e0,e⟩|⟨e0,e⟩|⟨e0,e⟩|⟨e0,e⟩|⟨e0,e⟩|⟨e0,e⟩;·exact .inl ⟨by omega,by rw[e];decide⟩
 ·exact .inl ⟨by omega,by rw[e];decide⟩
 ·exact .inl ⟨by omega,by rw[e];decide⟩
 ·exact .inl ⟨by omega,by rw[e];decide⟩
 ·exact .inl ⟨by omega,by rw[e];decide⟩
 ·exact .inl ⟨by omega,by rw[e];decide⟩
 ·exact .inl ⟨by omega,by rw[e];decide⟩
 ·exact .inl ⟨by omega,by rw[e];decide⟩
 ·exact .inr ⟨e0,e⟩
 ·rw[e]at h;cases h
theorem FN (b c:UInt8):(bS (256*b.toNat+c.toNat)).fdiv 256%256=(b.toNat:Int)∧bS (256*b.toNat+c.toNat)%256=(c.toNat:Int):=by have hb:=b.toNat_lt;have hc:=c.toNat_lt;unfold bS;rw[Int.fdiv_eq_ediv_of_nonneg _ (by decide)];split<;>omega
theorem HZ (b c:UInt8):(((256*b.toNat+c.toNat:Nat):Int)).fdiv 256%256=(b.toNat:Int)∧((256*b.toNat+c.toNat:Nat):Int)%256=(c.toNat:Int):=by have hb:=b.toNat_lt;have hc:=c.toNat_lt;rw[Int.fdiv_eq_ediv_of_nonneg _ (by decide)];omega
theorem Ja {o a b c ch:UInt8}{s:UInt8×UInt8×UInt8}(h:ch=97∨ch=98∨ch=99∨ch=110∨ch=100):sP (gV o a b c ch) s ch=eF a b c s ch:=by
 have hb:∀ x:UInt8,bu (x.toNat:Int)=x:=fun x=>gr (by have:=x.toNat_lt;omega);rcases h with rfl|rfl|rfl|rfl|rfl;·simp[sP,eF,gV,hb]
 ·simp[sP,eF,gV,hb]
 ·simp[sP,eF,gV,hb]
 ·have:=HZ b c;have e1:gV o a b c 110=((256*b.toNat+c.toNat:Nat):Int):=rfl;rw[e1];unfold sP eF;rw[gr this.1,gr this.2];rfl
 ·have:=FN b c;have e1:gV o a b c 100=bS (256*b.toNat+c.toNat):=rfl;rw[e1];unfold sP eF;rw[gr this.1,gr this.2];rfl
theorem vj {o:Nat}(ho:o<8):∀ ch∈(dF o).2.1,ch=97∨ch=98∨ch=99∨ch=110∨ch=100:=by
 have:∀ i:Fin 8,∀ ch∈(dF i.1).2.1,ch=97∨ch=98∨ch=99∨ch=110∨ch=100:=by decide
 exact this ⟨o,ho⟩
theorem Co {o a b c:UInt8}{w nm:List UInt8}{k:Nat}(hk:k<nm.length):hZ (w::nm.map fun ch=>Lib.itoa (gV o a b c ch)) (k+1)=gV o a b c nm[k]:=by unfold hZ;rw[List.getElem?_cons_succ,List.getElem?_map,List.getElem?_eq_getElem hk];have:=oT o a b c nm[k];exact ja (by omega) (by omega)
theorem vh {o a b c:UInt8}{w nm:List UInt8}(h:∀ ch∈nm,ch=97∨ch=98∨ch=99∨ch=110∨ch=100):∀ {k:Nat},k≤nm.length→fw (w::nm.map fun ch=>Lib.itoa (gV o a b c ch)) nm k=bR (nm.take k) a b c
 | 0,_=>rfl
 | k+1,hk=>by
   rw[fw,vh h (by omega),wT (by omega),Co (by omega)];have e:nm.getD k 0=nm[k]:=by rw[List.getD_eq_getElem?_getD,List.getElem?_eq_getElem (by omega)];rfl
   rw[e];exact Ja (h _ (List.getElem_mem _))
theorem Ep {o a b c:UInt8}(hd:eE o a b c=true) (hp:bZ o a b c=true):dV (aZ 32 (e_ o a b c))=(o,a,b,c):=by
 rw[mc];unfold eE at hd;rw[Bool.and_eq_true]at hd;unfold bZ at hp;have hp:=of_decide_eq_true hp;unfold dV;rcases Nn hd.1 with ⟨h8,hne⟩|⟨h17,e⟩;·rw[if_neg (by simpa using hne)];show (match xI (dF o.toNat).1 with|none=>_|some o'=>_)=_;rw[ka h8];show (UInt8.ofNat o.toNat,fw _ (dF o.toNat).2.1 (dF o.toNat).2.1.length)=_;rw[vh (vj h8) (Nat.le_refl _),List.take_length,hp];simp
 ·rw[e]at hp ⊢;have hp:((0:UInt8),(0:UInt8),(0:UInt8))=(a,b,c):=hp;rw[if_pos (by rfl)];have hn:hZ (xh::List.map (fun ch=>Lib.itoa (gV o a b c ch)) [107]) 1=((o-16).toNat:Int):=(Co (w:=xh) (nm:=[107]) (k:=0) (by decide)).trans rfl;show (bu (16+hZ (xh::List.map (fun ch=>Lib.itoa (gV o a b c ch)) [107]) 1),(0:UInt8),(0:UInt8),(0:UInt8))=_;rw[hn];have h16:(o-16).toNat=o.toNat-16:=by rw[UInt8.toNat_sub_of_le _ _ (by rw[UInt8.le_iff_toNat_le];show 16≤o.toNat;omega)];rfl
  have h1:bu (16+((o-16).toNat:Int))=o:=gr (by rw[h16];have:=o.toNat_lt;omega);rw[h1];exact congrArg (Prod.mk o) hp
def fy (ch:UInt8):Nat:=(max (Lib.indexByte pJ ch) 0).toNat
def cD:List UInt8→List UInt8
 | a::b::r=>UInt8.ofNat (16*fy a+fy b)::cD r
 | _=>[]
theorem An {n:UInt8}(h:n.toNat<16):fy (cW n)=n.toNat:=by
 have key:∀ n:Fin 16,fy (cW (UInt8.ofNat n.1))=n.1:=by decide
 have:=key ⟨n.toNat,h⟩;simpa only[UInt8.ofNat_toNat]using this
theorem wV:∀ w:List UInt8,cD (gP w)=w
 | []=>rfl
 | x::w=>by
   have e:gP (x::w)=cW (x / 16)::cW (x%16)::gP w:=rfl;rw[e,cD,wV w,An (vO x),An (mod_lt x)];congr 1;have h1:(x / 16).toNat=x.toNat / 16:=by rw[UInt8.toNat_div];rfl
   have h2:(x%16).toNat=x.toNat%16:=by rw[UInt8.toNat_mod];rfl
   rw[h1,h2,show 16*(x.toNat / 16)+x.toNat%16=x.toNat by omega,UInt8.ofNat_toNat]
theorem ku:∀ l:List UInt8,2*(cD l).length≤l.length
 | []=>by simp[cD]
 | [a]=>by simp[cD]
 | a::b::r=>by have:=ku r;simp only[cD,List.length_cons];omega
def bw (l:List UInt8):List UInt8 :=
 if l=[] then [] else if (aZ 32 l).head?=some r7∧(aZ 32 l).length=2 then cD ((aZ 32 l).getD 1 [])
 else [(dV (aZ 32 l)).1,(dV (aZ 32 l)).2.1,(dV (aZ 32 l)).2.2.1,(dV (aZ 32 l)).2.2.2]
theorem zF (w:List UInt8):(32:UInt8)∉gP w:=by
 intro h;obtain⟨x,_,hx⟩:=List.mem_flatMap.1 h;simp only[List.mem_cons,List.not_mem_nil,or_false]at hx;rcases hx with hx|hx;·exact um (vO x) (by decide) hx
 ·exact um (mod_lt x) (by decide) hx
theorem yv (w:List UInt8):bw (lH w)=w:=by
 have e:lH w=r7++32::gP w:=rfl;have hs:aZ 32 (lH w)=[r7,gP w]:=by rw[e,jq _ (by decide),lP (zF w)]
 unfold bw;rw[hs,if_neg (by rw[e];simp[r7]),if_pos ⟨rfl,rfl⟩];exact wV w
theorem qV {o:Nat}:(dF o).1≠r7:=by rcases eM o with ⟨_,e⟩|⟨_,e⟩|⟨_,e⟩|⟨_,e⟩|⟨_,e⟩|⟨_,e⟩|⟨_,e⟩|⟨_,e⟩|⟨_,e⟩|⟨_,e⟩<;>rw[e]<;>decide
theorem nO (w:List UInt8):bw (fk w)=w:=by
 unfold fk;split
 ·rename_i o a b c;split;·rename_i h;rw[Bool.and_eq_true]at h;have hd:=h.1;unfold eE at hd;rw[Bool.and_eq_true]at hd;unfold bw;rw[if_neg (Gy hd.1),if_neg,Ep h.1 h.2];rintro⟨h1,_⟩;rw[mc]at h1;simp only[List.head?_cons,Option.some.injEq]at h1;exact qV h1
  ·exact yv _
 ·exact yv _
def rH (s:List UInt8):List UInt8:=(aZ 10 s).flatMap bw
theorem pX (p:List UInt8):∀ n,((List.range n).flatMap (chunk p))=p.take (4*n)
 | 0=>by simp
 | n+1=>by rw[List.range_succ,List.flatMap_append,pX p n];simp only[List.flatMap_cons,List.flatMap_nil,List.append_nil];rw[show 4*(n+1)=4*n+4 by omega,List.take_add];rfl
theorem mP (p:List UInt8):rH (c_ p)=p:=by
 unfold rH;rw[iX,List.flatMap_append];have h0:[[]].flatMap bw=[]:=rfl;rw[h0,List.append_nil];unfold bp;rw[List.flatMap_map];have:(fun k=>bw (fk (chunk p k)))=chunk p:=by funext k;exact nO _
 rw[this,pX,List.take_of_length_le (by omega)]
theorem yA (l:List UInt8):(bw l).length≤2*(l.length+1):=by
 unfold bw;split;·simp
 ·rename_i h;split
  ·have h1:=ku ((aZ 32 l).getD 1 []);have h2:((aZ 32 l).getD 1 []).length≤l.length:=by
    rw[List.getD_eq_getElem?_getD];cases he:(aZ 32 l)[1]? with
    | none=>simp
    | some w=>exact fv (List.mem_of_getElem? he)
   omega
  ·have:1≤l.length:=by cases l with|nil=>exact absurd rfl h|cons=>simp
   simp only[List.length_cons,List.length_nil];omega
theorem oB:∀ ls:List (List UInt8),(ls.flatMap bw).length≤2*((ls.map List.length).sum+ls.length)
 | []=>by simp
 | l::ls=>by have:=oB ls;have:=yA l;simp only[List.flatMap_cons,List.length_append,List.map_cons,List.sum_cons,List.length_cons];omega
theorem JX (s:List UInt8):(rH s).length≤2*(s.length+1):=by have h1:=oB (aZ 10 s);have h2:=qJ 10 s;unfold rH;omega
def dJ (s:List UInt8):List UInt8:=if c_ (rH s)=s∧(rH s).length≤1024 then rH s else []
theorem xT {p:List UInt8}(h:p.length≤1024):dJ (c_ p)=p:=by unfold dJ;rw[mP,if_pos ⟨rfl,h⟩]
end Go.Proofs.YtohjaacnlmkhbaaGreatDoor
