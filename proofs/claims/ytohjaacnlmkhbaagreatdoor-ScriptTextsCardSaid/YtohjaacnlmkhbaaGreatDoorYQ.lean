/- A SCRIPT's PARTS; lines, words, numbers, in plain Lean. Conditions: none beyond each theorem's own. -/
import Derived.Test.YtohjaacnlmkhbaaGreatDoorWG
import Derived.Test.YtohjaacnlmkhbaaGreatDoorYP
import Derived.Test.YtohjaacnlmkhbaaGreatDoorYF
import Derived.Test.YtohjaacnlmkhbaaGreatDoorXT
import Derived.Lib.AtoiAll
set_option linter.unusedSimpArgs false
set_option linter.unusedVariables false
namespace Go.Proofs.YtohjaacnlmkhbaaGreatDoor
open Go.Ev
set_option maxRecDepth 100000
set_option maxHeartbeats 400000
theorem und62:und env 62=some (.map 9 20):=by kernel_rfl
theorem und9:und env 9=some .string:=by kernel_rfl
theorem zero20:zero env 20=some .nilIface:=by kernel_rfl
def partsE (i:Nat):List (Nat×Value×Value):=[(26844,.string ⟨⟨[103,115]⟩⟩,.iface 106 (.pointer (some ⟨i,2,none⟩))),(29157,.string ⟨⟨[112,115]⟩⟩,.iface 106 (.pointer (some ⟨i,0,none⟩))),(6634059,.string ⟨⟨[99,112,117]⟩⟩,.iface 107 (.pointer (some ⟨i,10,none⟩))),(1737907093,.string ⟨⟨[101,97,99,104]⟩⟩,.iface 107 (.pointer (some ⟨i,13,none⟩))),(1959108020,.string ⟨⟨[114,105,110,103]⟩⟩,.iface 106 (.pointer (some ⟨i,1,none⟩))),(429531799580,.string ⟨⟨[97,117,100,105,116]⟩⟩,.iface 106 (.pointer (some ⟨i,8,none⟩))),(486142066206,.string ⟨⟨[110,111,100,101,115]⟩⟩,.iface 106 (.pointer (some ⟨i,5,none⟩))),(507903824149,.string ⟨⟨[115,108,105,99,101]⟩⟩,.iface 106 (.pointer (some ⟨i,9,none⟩))),(507904224826,.string ⟨⟨[115,108,111,116,115]⟩⟩,.iface 106 (.pointer (some ⟨i,6,none⟩))),(111510827249281,.string ⟨⟨[98,117,100,103,101,116]⟩⟩,.iface 107 (.pointer (some ⟨i,12,none⟩))),(127137434004617,.string ⟨⟨[112,101,114,105,111,100]⟩⟩,.iface 107 (.pointer (some ⟨i,11,none⟩))),(29227868449386994,.string ⟨⟨[100,111,109,97,105,110,115]⟩⟩,.iface 106 (.pointer (some ⟨i,4,none⟩))),(33250541804377080,.string ⟨⟨[114,101,102,105,108,108,115]⟩⟩,.iface 106 (.pointer (some ⟨i,7,none⟩))),(7437512235935528832,.string ⟨⟨[99,111,110,116,101,120,116,115]⟩⟩,.iface 106 (.pointer (some ⟨i,3,none⟩)))]
def partE:List (Nat×Value×Value)→Nat→List (Nat×Value×Value)
 | [],_=>[]
 | (n,k,.iface t (.pointer (some ⟨i,p,s⟩)))::l,m=>cond (Nat.blt p m) ((n,k,.iface t (.pointer (some ⟨i,p,s⟩)))::partE l m) (partE l m)
 | _::l,m=>partE l m
theorem upd_n {h h0:Heap}{es es':List (Nat×Value×Value)}{k v:Value}{K:Value→Heap→Prop}(X:ExtB h.n h h0) (m:h0.b.get h.n=some (.smap es)) (n:h0.n=h.n+1) (hc:(keyOk .string&&acheck env 20 9 k)=true) (ha:sadd .string k v es=some es')
  (q:∀ h1:Heap,ExtB h.n h h1→h1.b.get h.n=some (.smap es')→h1.n=h.n+1→K undef h1):updK env 62 (.map (some h.n)) k v h0 K:=by
 refine upd_smap (by omega) m und62 und9 hc ha (q _ ?_ (T.get_set_same _ _ _) n)
 exact X.trans (ExtB.set _ (Nat.le_refl _))
theorem parts_ret {i:Nat}{h:Heap}{K:Value→Heap→Prop}(hK:∀ h',ExtB h.n h h'→h.n<h'.n→h'.b.get h.n=some (.smap (partsE i))→K (.map (some h.n)) h'):Ret env (.func 27) [.pointer (some ⟨i,0,none⟩)] h K:=by
 refine F27 rfl ?_
 have X0:ExtB h.n h (newBlk h (.smap [])):=ExtB.new _ (Nat.le_refl _)
 have m0:(newBlk h (.smap [])).b.get h.n=some (.smap []):=newBlk_same _ _
 have n0:(newBlk h (.smap [])).n=h.n+1:=rfl
 (with_reducible repeat' (first|(refine And.intro ?_ ?_;(· omega))|simp -dsimp only[↓WB,↓W27,WP,newBlk_n,Nat.reduceEqDiff,Nat.reduceAdd]))
 refine⟨insAll_of (s:=3) (t:=62) (r:=h.n) (es:=[]) rfl rfl (by simp[T.get_set]) (by omega) m0,?_⟩
 generalize newBlk h (.smap [])=h0 at X0 m0 n0 ⊢
 skip
 refine upd_n (es':=partE (partsE i) 1) X0 m0 n0 (by kernel_rfl) (by kernel_rfl) fun h0 X0 m0 n0=>?_
 refine⟨by omega,?_,?_⟩
 ·simp -dsimp only[↓WB,↓W27,WP,newBlk_n,Nat.reduceEqDiff,Nat.reduceAdd]
 simp -dsimp only[↓WB,↓W27,WP,newBlk_n,Nat.reduceEqDiff,Nat.reduceAdd]
 refine upd_n (es':=partE (partsE i) 2) X0 m0 n0 (by kernel_rfl) (by kernel_rfl) fun h0 X0 m0 n0=>?_
 refine⟨by omega,?_,?_⟩
 ·simp -dsimp only[↓WB,↓W27,WP,newBlk_n,Nat.reduceEqDiff,Nat.reduceAdd]
 simp -dsimp only[↓WB,↓W27,WP,newBlk_n,Nat.reduceEqDiff,Nat.reduceAdd]
 refine upd_n (es':=partE (partsE i) 3) X0 m0 n0 (by kernel_rfl) (by kernel_rfl) fun h0 X0 m0 n0=>?_
 refine⟨by omega,?_,?_⟩
 ·simp -dsimp only[↓WB,↓W27,WP,newBlk_n,Nat.reduceEqDiff,Nat.reduceAdd]
 simp -dsimp only[↓WB,↓W27,WP,newBlk_n,Nat.reduceEqDiff,Nat.reduceAdd]
 refine upd_n (es':=partE (partsE i) 4) X0 m0 n0 (by kernel_rfl) (by kernel_rfl) fun h0 X0 m0 n0=>?_
 refine⟨by omega,?_,?_⟩
 ·simp -dsimp only[↓WB,↓W27,WP,newBlk_n,Nat.reduceEqDiff,Nat.reduceAdd]
 simp -dsimp only[↓WB,↓W27,WP,newBlk_n,Nat.reduceEqDiff,Nat.reduceAdd]
 refine upd_n (es':=partE (partsE i) 5) X0 m0 n0 (by kernel_rfl) (by kernel_rfl) fun h0 X0 m0 n0=>?_
 refine⟨by omega,?_,?_⟩
 ·simp -dsimp only[↓WB,↓W27,WP,newBlk_n,Nat.reduceEqDiff,Nat.reduceAdd]
 simp -dsimp only[↓WB,↓W27,WP,newBlk_n,Nat.reduceEqDiff,Nat.reduceAdd]
 refine upd_n (es':=partE (partsE i) 6) X0 m0 n0 (by kernel_rfl) (by kernel_rfl) fun h0 X0 m0 n0=>?_
 refine⟨by omega,?_,?_⟩
 ·simp -dsimp only[↓WB,↓W27,WP,newBlk_n,Nat.reduceEqDiff,Nat.reduceAdd]
 simp -dsimp only[↓WB,↓W27,WP,newBlk_n,Nat.reduceEqDiff,Nat.reduceAdd]
 refine upd_n (es':=partE (partsE i) 7) X0 m0 n0 (by kernel_rfl) (by kernel_rfl) fun h0 X0 m0 n0=>?_
 refine⟨by omega,?_,?_⟩
 ·simp -dsimp only[↓WB,↓W27,WP,newBlk_n,Nat.reduceEqDiff,Nat.reduceAdd]
 simp -dsimp only[↓WB,↓W27,WP,newBlk_n,Nat.reduceEqDiff,Nat.reduceAdd]
 refine upd_n (es':=partE (partsE i) 8) X0 m0 n0 (by kernel_rfl) (by kernel_rfl) fun h0 X0 m0 n0=>?_
 refine⟨by omega,?_,?_⟩
 ·simp -dsimp only[↓WB,↓W27,WP,newBlk_n,Nat.reduceEqDiff,Nat.reduceAdd]
 simp -dsimp only[↓WB,↓W27,WP,newBlk_n,Nat.reduceEqDiff,Nat.reduceAdd]
 refine upd_n (es':=partE (partsE i) 9) X0 m0 n0 (by kernel_rfl) (by kernel_rfl) fun h0 X0 m0 n0=>?_
 refine⟨by omega,?_,?_⟩
 ·simp -dsimp only[↓WB,↓W27,WP,newBlk_n,Nat.reduceEqDiff,Nat.reduceAdd]
 simp -dsimp only[↓WB,↓W27,WP,newBlk_n,Nat.reduceEqDiff,Nat.reduceAdd]
 refine upd_n (es':=partE (partsE i) 10) X0 m0 n0 (by kernel_rfl) (by kernel_rfl) fun h0 X0 m0 n0=>?_
 refine⟨by omega,?_,?_⟩
 ·simp -dsimp only[↓WB,↓W27,WP,newBlk_n,Nat.reduceEqDiff,Nat.reduceAdd]
 simp -dsimp only[↓WB,↓W27,WP,newBlk_n,Nat.reduceEqDiff,Nat.reduceAdd]
 refine upd_n (es':=partE (partsE i) 11) X0 m0 n0 (by kernel_rfl) (by kernel_rfl) fun h0 X0 m0 n0=>?_
 refine⟨by omega,?_,?_⟩
 ·simp -dsimp only[↓WB,↓W27,WP,newBlk_n,Nat.reduceEqDiff,Nat.reduceAdd]
 simp -dsimp only[↓WB,↓W27,WP,newBlk_n,Nat.reduceEqDiff,Nat.reduceAdd]
 refine upd_n (es':=partE (partsE i) 12) X0 m0 n0 (by kernel_rfl) (by kernel_rfl) fun h0 X0 m0 n0=>?_
 refine⟨by omega,?_,?_⟩
 ·simp -dsimp only[↓WB,↓W27,WP,newBlk_n,Nat.reduceEqDiff,Nat.reduceAdd]
 simp -dsimp only[↓WB,↓W27,WP,newBlk_n,Nat.reduceEqDiff,Nat.reduceAdd]
 refine upd_n (es':=partE (partsE i) 13) X0 m0 n0 (by kernel_rfl) (by kernel_rfl) fun h0 X0 m0 n0=>?_
 refine⟨by omega,?_,?_⟩
 ·simp -dsimp only[↓WB,↓W27,WP,newBlk_n,Nat.reduceEqDiff,Nat.reduceAdd]
 simp -dsimp only[↓WB,↓W27,WP,newBlk_n,Nat.reduceEqDiff,Nat.reduceAdd]
 refine upd_n (es':=partsE i) X0 m0 n0 (by kernel_rfl) (by kernel_rfl) fun h0 X0 m0 n0=>?_
 refine⟨by omega,?_,?_⟩
 ·simp -dsimp only[↓WB,↓W27,WP,newBlk_n,Nat.reduceEqDiff,Nat.reduceAdd]
 simp -dsimp only[↓WB,↓W27,WP,newBlk_n,Nat.reduceEqDiff,Nat.reduceAdd]
 exact hK _ X0 (by omega) m0
theorem slook_none {d:TypeDesc}{k:Value}:∀ {es:List (Nat×Value×Value)},(∀ e∈es,akeyEq d k e.2.1=some false)→slook d k es=some none
 | [],_=>rfl
 | e::es,h=>by
   have h1:=h e List.mem_cons_self
   have h2:=slook_none (fun x hx=>h x (List.mem_cons_of_mem _ hx))
   simp only[slook,h1,h2]
theorem ptT_lo {k:Nat}(h:k<10):ptT k=106:=by unfold ptT;rw[if_pos h]
theorem ptT_hi {k:Nat}(h:¬k<10):ptT k=107:=by unfold ptT;rw[if_neg h]
theorem look62 {w:List UInt8}{i r:Nat}{h:Heap}{K:Value→Prop}(hr:r<h.n) (hb:h.b.get r=some (.smap (partsE i))) (q1:∀ k (hk:k<wordsP.length),w=wordsP[k]→K (.iface (ptT k) (.pointer (some ⟨i,k,none⟩)))) (q2:w∉wordsP→K .nilIface) :
  lookK env 62 (.map (some r)) (strV w) false h K:=by
 by_cases hw:w∈wordsP
 ·obtain⟨k,hk,e⟩:=List.getElem_of_mem hw
  have q:=q1 k hk e.symm
  rw[← e]
  rcases k with _|_|_|_|_|_|_|_|_|_|_|_|_|_|k
  all_goals first
   | (exfalso;have h14:wordsP.length=14:=rfl;omega)
   | (exact look_smap hr hb und62 und9 rfl rfl (by kernel_rfl) q)
 ·refine look_smap0 hr hb und62 und9 rfl rfl zero20 (slook_none fun e he=>?_) (q2 hw)
  have hk:∃ k,∃ hk:k<wordsP.length,e.2.1=strV wordsP[k]:=by
   simp only[partsE,List.mem_cons,List.not_mem_nil,or_false]at he
   rcases he with rfl|rfl|rfl|rfl|rfl|rfl|rfl|rfl|rfl|rfl|rfl|rfl|rfl|rfl
   ·exact⟨2,by decide,rfl⟩
   ·exact⟨0,by decide,rfl⟩
   ·exact⟨10,by decide,rfl⟩
   ·exact⟨13,by decide,rfl⟩
   ·exact⟨1,by decide,rfl⟩
   ·exact⟨8,by decide,rfl⟩
   ·exact⟨5,by decide,rfl⟩
   ·exact⟨9,by decide,rfl⟩
   ·exact⟨6,by decide,rfl⟩
   ·exact⟨12,by decide,rfl⟩
   ·exact⟨11,by decide,rfl⟩
   ·exact⟨4,by decide,rfl⟩
   ·exact⟨7,by decide,rfl⟩
   ·exact⟨3,by decide,rfl⟩
  obtain⟨k,hk,ek⟩:=hk
  rw[ek]
  have hne:w≠wordsP[k]:=fun e=>hw (by rw[e];exact List.getElem_mem _)
  show akeyEq .string (strV w) (strV wordsP[k])=some false
  have:eqStr ⟨w.toArray⟩ ⟨(wordsP[k]).toArray⟩=false:=by
   rw[eqStr_dec];exact decide_eq_false fun e=>hne (str_inj.1 e)
  simp only[akeyEq,strV,this]
def okC (c:Nat→Int):Prop:=(∀ k,k<10→-9223372036854775808≤c k∧c k≤9223372036854775807)∧(∀ k,10≤k→k<14→0≤c k∧c k≤18446744073709551615)
theorem okC_len {c:Nat→Int}(ok:okC c) {k:Nat}(hk:k<14):(Lib.itoa (c k)).length≤21:=by
 by_cases h10:k<10
 ·have:=ok.1 k h10;exact itoa_len _ this.1 this.2
 ·obtain⟨h0,h1⟩:=ok.2 k (by omega) hk
  obtain⟨u,hu⟩:=Int.eq_ofNat_of_zero_le h0
  rw[hu,Lib.itoa_nonneg]
  have:=dec_le (u:=u) (by omega)
  omega
theorem number_ret {i k:Nat}{c:Nat→Int}{cs:List Value}{e:TypeId}{h:Heap}{K:Value→Heap→Prop}(gk:GOk h) (ok:okC c) (hk:k<14) (hx:cellAt h ⟨i,k,none⟩=some (.int (if k<10 then .i64 else .u64) (c k)))
  (hK:∀ h',ExtB h.n h h'→K (strV (Lib.itoa (c k))) h'):Ret env (.func 30) [.iface (ptT k) (.pointer (some ⟨i,k,none⟩))] h K:=by
 have gn:=gk.n
 refine F30 rfl ?_
 by_cases h10:k<10
 ·rw[if_pos h10]at hx
  rw[ptT_lo h10]
  have hb:=ok.1 k h10
  simp -dsimp only[↓WB,↓W30,WP,newBlk_n,Nat.reduceEqDiff,Nat.reduceAdd,hx]
  refine Itoa_ret gk.t (by omega) hb.1 hb.2 fun h' X=>?_
  unfold strV at hK
  unfold itoaV
  simp -dsimp only[↓WB,↓W30,WP,newBlk_n,Nat.reduceEqDiff,Nat.reduceAdd,hx]
  exact hK _ X
 ·rw[if_neg h10]at hx
  rw[ptT_hi h10]
  obtain⟨h0,h1⟩:=ok.2 k (by omega) hk
  obtain⟨u,hu⟩:=Int.eq_ofNat_of_zero_le h0
  rw[hu]at hx
  rw[hu,Lib.itoa_nonneg]at hK
  simp -dsimp only[↓WB,↓W30,WP,newBlk_n,Nat.reduceEqDiff,Nat.reduceAdd,hx]
  refine FormatUint_ret gk.t (by omega) (by omega) fun h' X=>?_
  unfold strV at hK
  unfold decV
  simp -dsimp only[↓WB,↓W30,WP,newBlk_n,Nat.reduceEqDiff,Nat.reduceAdd,hx]
  exact hK _ X
theorem put_ret {B b:Nat}{l s:List UInt8}{h:Heap}{K:Value→Heap→Prop}(k:Bld B h b l) (hl:l.length+s.length+1≤1000000)
  (hK:∀ v h',Kp B b h h'→Bld B h' b (l++endL s)→K v h'):Ret env (.func 25) [strV s,.pointer (some ⟨b,0,none⟩)] h K:=by
 refine F25 rfl ?_
 have hend:∀ l:List UInt8,(⟨l.toArray⟩:ByteArray)++⟨⟨[10]⟩⟩=⟨(endL l).toArray⟩:=fun l=>app_str l [10]
 have s10:(⟨⟨[10]⟩⟩:ByteArray).size=1:=rfl
 unfold strV
 (with_reducible repeat' (first|(refine And.intro ?_ ?_;(· omega))|simp -dsimp only[↓WB,↓W25,WP,newBlk_n,Nat.reduceEqDiff,Nat.reduceAdd,hend,str_size,s10]))
 refine write_ret (s:=endL s) k (by simp[endL]) (by simp[endL];omega) fun v h' X D=>?_
 simp -dsimp only[↓WB,↓W25,WP,newBlk_n,Nat.reduceEqDiff,Nat.reduceAdd]
 exact hK _ _ X D
theorem words_ret {h:Heap}{K:Value→Heap→Prop}(ht:tabsOk tabs h=true) (hK:K (.slice (some ⟨h.n,0,none⟩) 14 14) (newBlk h (.cells wordsL 9 true))):Ret env (.func 28) [] h K:=by
 refine Ret.extH ?_ hK
 show extTabN tabs 28 wordsL 9 ext10 28 [] h=_
 simp only[extTabN,Nat.beq_refl,cond_true,ht]
 rfl
theorem split_ret {s:List UInt8}{c:UInt8}{h:Heap}{K:Value→Heap→Prop}(hi:isI (cellAt h ⟨3,0,none⟩)=true) (hs:s.length<1000000)
  (hK:K (.slice (some ⟨h.n,0,none⟩) (spl c s).length (spl c s).length) (newBlk h (.cells ((spl c s).map strV) 9 true))):Ret env (.func 40) [strV s,strV [c]] h K:=by
 refine Ret.extH ?_ hK
 show extNew 40 splitG ext6 40 [strV s,strV [c]] h=_
 have:Nat.blt s.length 1000000=true:=by rw[blt_eq];exact decide_eq_true hs
 simp only[extNew,Nat.beq_refl,cond_true,splitG,strV,str_size,this,hi,Bool.and_self,Option.map_some]
 rfl
def RdPU (B:Nat) (h:Heap) (v:Value) (P:List (List UInt8)):Prop :=
 ∃ a c,v=.slice a P.length c∧∀ (k:Nat) l,P[k]?=some l→∃ i o u,a=some ⟨i,o,none⟩∧i<B∧cellAt h ⟨i,o+k,none⟩=some u∧RdU B h u l
theorem RdPU.rd {B:Nat}{h:Heap}{v:Value}{P:List (List UInt8)}(r:RdPU B h v P):RdP B h v P:=by
 obtain⟨a,c,e,q⟩:=r
 exact⟨a,c,e,fun k l hk=>let ⟨i,o,u,e1,e2,e3,e4⟩:=q k l hk;⟨i,o,u,e1,e2,e3,e4.1⟩⟩
theorem RdPU.ext {B:Nat}{h h':Heap}{v:Value}{l:List (List UInt8)}(r:RdPU B h v l) (x:ExtB B h h'):RdPU B h' v l:=by
 obtain⟨a,c,e,q⟩:=r
 exact⟨a,c,e,fun k y hy=>let ⟨i,o,u,e1,e2,e3,e4⟩:=q k y hy;⟨i,o,u,e1,e2,cellAt_ext x e2 e3,e4.ext x⟩⟩
theorem RdPU.at_ {B:Nat}{h:Heap}{a:Option Addr}{n c:Nat}{P:List (List UInt8)}(r:RdPU B h (.slice a n c) P) {k:Nat}(hk:k<P.length) :
  ∃ i o ua uc,a=some ⟨i,o,none⟩∧i<B∧cellAt h ⟨i,o+k,none⟩=some (.slice ua P[k].length uc)∧RdU B h (.slice ua P[k].length uc) P[k]:=by
 obtain⟨a',c',e,q⟩:=r
 cases e
 obtain⟨i,o,u,e1,hi,hc,hb⟩:=q k _ (List.getElem?_eq_getElem hk)
 obtain⟨ua,uc,rfl,_⟩:=id hb.1
 exact⟨i,o,ua,uc,e1,hi,hc,hb⟩
theorem RdPU.own {B:Nat}{h:Heap}{v:Value}{P:List (List UInt8)}(o:OwnP B h v P):RdPU h.n h v P:=by
 obtain⟨us,e1,e2,e3,e4⟩:=o
 generalize hn:P.length=n at e2 e1
 cases e2 with
 | nil=>exact⟨_,_,by rw[hn],fun k l e=>by have:=(List.getElem?_eq_some_iff.1 e).1;omega⟩
 | emp i hi=>exact⟨_,_,by rw[hn],fun k l e=>by have:=(List.getElem?_eq_some_iff.1 e).1;omega⟩
 | row i n us g1 g2 g3 =>
   refine⟨_,_,by rw[hn],fun k l e=>?_⟩
   have hk:=(List.getElem?_eq_some_iff.1 e).1
   have hu:us[k]?=some (us[k]'(by omega)):=List.getElem?_eq_getElem _
   exact⟨i,0,_,rfl,g2,cellAt_blk g2 g3 (by rw[Nat.zero_add];exact hu),RdU.own (e4 k _ l hu e)⟩
theorem endL_len (l:List UInt8):(endL l).length=l.length+1:=by simp[endL]
def cfgK (c:Nat→Int) (k:Nat):List UInt8:=(List.range k).flatMap fun j=>endL (cfgLn c j)
theorem cfgK_succ (c:Nat→Int) (k:Nat):cfgK c (k+1)=cfgK c k++endL (cfgLn c k):=by
 unfold cfgK;rw[List.range_succ,List.flatMap_append];simp
theorem wordsP_len {k:Nat}:(wordsP.getD k []).length≤8:=by
 by_cases hk:k<wordsP.length
 ·rw[List.getD_eq_getElem?_getD,List.getElem?_eq_getElem hk]
  have:wordsP.all (fun l=>decide (l.length≤8))=true:=by decide
  exact of_decide_eq_true (List.all_eq_true.1 this _ (List.getElem_mem hk))
 ·rw[List.getD_eq_getElem?_getD,List.getElem?_eq_none (by omega)];simp
theorem cfgLn_len {c:Nat→Int}(ok:okC c) {k:Nat}(hk:k<14):(cfgLn c k).length≤30:=by
 have h1:=wordsP_len (k:=k)
 have h2:=okC_len ok hk
 unfold cfgLn
 simp only[List.length_append,List.length_cons,List.length_nil]
 omega
theorem cfgK_len {c:Nat→Int}(ok:okC c):∀ {k:Nat},k≤14→(cfgK c k).length≤31*k
 | 0,_=>by simp[cfgK]
 | k+1,h=>by
   have:=cfgK_len ok (k:=k) (by omega)
   have:=cfgLn_len ok (k:=k) (by omega)
   rw[cfgK_succ,List.length_append,endL_len]
   omega
def indK (p:List UInt8) (k:Nat):List UInt8:=((linesP p).take k).flatMap fun l=>endL (32::l)
theorem indK_succ {p:List UInt8}{k:Nat}(hk:k<(linesP p).length):indK p (k+1)=indK p k++endL (32::(linesP p)[k]):=by
 unfold indK;rw[← List.take_append_getElem hk,List.flatMap_append];simp
theorem linesP_len (p:List UInt8):(linesP p).length=(p.length+3) / 4:=by simp[linesP]
theorem linesP_mem {p:List UInt8}{l:List UInt8}(h:l∈linesP p):l.length≤71:=by
 unfold linesP at h
 obtain⟨k,_,rfl⟩:=List.mem_map.1 h
 exact lineL_len _ (by rw[chunk_len];omega)
theorem indK_len (p:List UInt8):∀ {k:Nat},k≤(linesP p).length→(indK p k).length≤73*k
 | 0,_=>by simp[indK]
 | k+1,h=>by
   have:=indK_len p (k:=k) (by omega)
   have:=linesP_mem (List.getElem_mem (l:=linesP p) (n:=k) (by omega))
   rw[indK_succ (by omega),List.length_append,endL_len,List.length_cons]
   omega
theorem progL_ind (p:List UInt8):progL p=[112,114,111,103,114,97,109,10]++indK p (linesP p).length:=by
 unfold progL indK;rw[List.take_length];rfl
def progsK (P:List (List UInt8)) (k:Nat):List UInt8:=(P.take k).flatMap progL
theorem progsK_succ {P:List (List UInt8)}{k:Nat}(hk:k<P.length):progsK P (k+1)=progsK P k++progL P[k]:=by
 unfold progsK;rw[← List.take_append_getElem hk,List.flatMap_append];simp
theorem progsK_len {P:List (List UInt8)}(hp:∀ p∈P,p.length≤1024):∀ {k:Nat},k≤P.length→(progsK P k).length≤18770*k
 | 0,_=>by simp[progsK]
 | k+1,h=>by
   have:=progsK_len hp (k:=k) (by omega)
   have h1:=hp _ (List.getElem_mem (l:=P) (n:=k) (by omega))
   have h2:=indK_len P[k] (Nat.le_refl _)
   have h3:=linesP_len P[k]
   rw[progsK_succ (by omega),List.length_append,progL_ind,List.length_append]
   simp only[List.length_cons,List.length_nil]
   omega
def actsK (A:List ActD) (k:Nat):List UInt8:=(A.take k).flatMap fun a=>endL (actS a)
theorem actsK_succ {A:List ActD}{k:Nat}(hk:k<A.length):actsK A (k+1)=actsK A k++endL (actS A[k]):=by
 unfold actsK;rw[← List.take_append_getElem hk,List.flatMap_append];simp
theorem actsK_len {A:List ActD}(ok:∀ a∈A,okA a):∀ {k:Nat},k≤A.length→(actsK A k).length≤71*k
 | 0,_=>by simp[actsK]
 | k+1,h=>by
   have:=actsK_len ok (k:=k) (by omega)
   have:=actS_len (ok _ (List.getElem_mem (l:=A) (n:=k) (by omega)))
   rw[actsK_succ (by omega),List.length_append,endL_len]
   omega
theorem TextL_K (c:Nat→Int) (P:List (List UInt8)) (A:List ActD):TextL c P A=cfgK c 14++progsK P P.length++actsK A A.length:=by
 unfold TextL cfgK progsK actsK actS;rw[List.take_length,List.take_length]
theorem mayS_bounds {c:Nat→Int}{P:List (List UInt8)}{A:List ActD}(h:mayS c P A=0):(∀ i,i<14→inB c i=true)∧P.length≤16∧1≤P.length∧(∀ p∈P,p.length≤1024)∧A.all actB=true:=by
 unfold mayS at h
 by_cases hm:mayC c P=0
 ·rw[if_neg (by simpa using hm)]at h
  by_cases ha:A.all actB=true
  ·unfold mayC at hm
   by_cases hr:(List.range 14).all (inB c)=true
   ·rw[if_pos hr]at hm
    by_cases hl:P.length<1∨16<P.length
    ·rw[if_pos hl]at hm;cases hm
    ·rw[if_neg hl]at hm
     by_cases hp:P.any (fun p=>decide (1024<p.length))=true
     ·rw[if_pos hp]at hm;cases hm
     ·refine⟨range14.1 hr,by omega,by omega,fun p hpm=>?_,ha⟩
      rcases Nat.lt_or_ge 1024 p.length with hlt|hge
      ·exact absurd (List.any_eq_true.2 ⟨p,hpm,decide_eq_true hlt⟩) hp
      ·exact hge
   ·rw[if_neg hr]at hm;cases hm
  ·rw[if_neg ha]at h;cases h
 ·rw[if_pos (by simpa using hm)]at h;exact absurd h hm
theorem spl_no {c:UInt8}:∀ {l:List UInt8},c∉l→spl c l=[l]
 | [],_=>rfl
 | x::l,h=>by
   have hx:x≠c:=fun e=>h (by rw[e];exact List.mem_cons_self)
   rw[spl,if_neg hx,spl_no (fun m=>h (List.mem_cons_of_mem _ m))]
theorem spl_app {c:UInt8}:∀ {a:List UInt8}(b:List UInt8),c∉a→spl c (a++c::b)=a::spl c b
 | [],b,_=>by rw[List.nil_append,spl,if_pos rfl]
 | x::a,b,h=>by
   have hx:x≠c:=fun e=>h (by rw[e];exact List.mem_cons_self)
   rw[List.cons_append,spl,if_neg hx,spl_app b (fun m=>h (List.mem_cons_of_mem _ m))]
theorem spl_lines:∀ {ls:List (List UInt8)}(r:List UInt8),(∀ l∈ls,(10:UInt8)∉l)→spl 10 (ls.flatMap endL++r)=ls++spl 10 r
 | [],r,_=>rfl
 | l::ls,r,h=>by
   have h1:(l::ls).flatMap endL++r=l++10::(ls.flatMap endL++r):=by simp[endL]
   rw[h1,spl_app _ (h l List.mem_cons_self),spl_lines r (fun x hx=>h x (List.mem_cons_of_mem _ hx))];rfl
theorem spl_lines0 {ls:List (List UInt8)}(h:∀ l∈ls,(10:UInt8)∉l):spl 10 (ls.flatMap endL)=ls++[[]]:=by
 have:=spl_lines [] h
 rwa [List.append_nil]at this
theorem spl_len (c:UInt8):∀ l:List UInt8,(spl c l).length≤l.length+1
 | []=>by simp[spl]
 | x::l=>by
   have:=spl_len c l
   rw[spl]
   split
   · simp;omega
   · split<;>rename_i hs
     · simp
     · rw[hs]at this;simp at this ⊢;omega
theorem spl_sum (c:UInt8):∀ l:List UInt8,((spl c l).map List.length).sum+(spl c l).length=l.length+1
 | []=>by simp[spl]
 | x::l=>by
   have:=spl_sum c l
   rw[spl]
   split
   · simp;omega
   · split<;>rename_i hs
     · exact absurd hs (spl_ne c l)
     · rw[hs]at this;simp at this ⊢;omega
theorem le_sum_mem:∀ {l:List Nat}{x:Nat},x∈l→x≤l.sum
 | y::l,x,h=>by
   rw[List.sum_cons]
   rcases List.mem_cons.1 h with rfl|h
   · omega
   · have:=le_sum_mem h;omega
theorem spl_mem_len {c:UInt8}{l w:List UInt8}(h:w∈spl c l):w.length≤l.length:=by
 have h1:=spl_sum c l
 have h2:w.length≤((spl c l).map List.length).sum:=by
  exact le_sum_mem (List.mem_map_of_mem h)
 have h3:1≤(spl c l).length:=by
  cases hs:spl c l with
  | nil=>exact absurd hs (spl_ne c l)
  | cons y ys=>simp
 omega
def digC (x:UInt8):Prop:=x=45∨(48≤x.toNat∧x.toNat≤57)
theorem decDigits_dig:∀ (k u:Nat),u≤k→∀ x∈Lib.decDigits u,48≤x.toNat∧x.toNat≤57:=by
 have h1:∀ d,d<10→48≤(UInt8.ofNat (48+d)).toNat∧(UInt8.ofNat (48+d)).toNat≤57:=by
   intro d hd
   have:(UInt8.ofNat (48+d)).toNat=48+d:=by simp;omega
   omega
 intro k
 induction k with
 | zero =>
   intro u hu x hx
   rw[dec_small (by omega),List.mem_singleton]at hx
   subst hx;exact h1 u (by omega)
 | succ k ih =>
   intro u hu x hx
   by_cases h:u<10
   · rw[dec_small h,List.mem_singleton]at hx
     subst hx;exact h1 u h
   · rw[dec_big h]at hx
     rcases List.mem_append.1 hx with hx|hx
     · exact ih (u / 10) (by omega) x hx
     · rw[List.mem_singleton]at hx
       subst hx;exact h1 _ (by omega)
theorem itoa_dig {n:Int}{x:UInt8}(hx:x∈Lib.itoa n):digC x:=by
 unfold Lib.itoa at hx
 split at hx
 ·rcases List.mem_cons.1 hx with rfl|hx
  ·exact .inl rfl
  ·exact .inr (decDigits_dig _ _ (Nat.le_refl _) x hx)
 ·exact .inr (decDigits_dig _ _ (Nat.le_refl _) x hx)
theorem digC_ne {x y:UInt8}(h:digC x) (h1:y.toNat<45∨57<y.toNat):y≠x:=by
 rintro rfl
 rcases h with rfl|h
 ·revert h1;decide
 ·omega
theorem itoa_no {n:Int}{y:UInt8}(h1:y.toNat<45∨57<y.toNat):y∉Lib.itoa n:=fun h=>digC_ne (itoa_dig h) h1 rfl
theorem decDigits_ne (u:Nat):Lib.decDigits u≠[]:=by
 by_cases h:u<10
 ·rw[dec_small h];simp
 ·rw[dec_big h];simp
theorem hexB_no {n:UInt8}(h:n.toNat<16) {y:UInt8}(hy:y.toNat<48):y≠hexB n:=by
 have key:∀ n:Fin 16,48≤(hexB (UInt8.ofNat n.1)).toNat:=by decide
 have h1:=key ⟨n.toNat,h⟩
 simp only[UInt8.ofNat_toNat]at h1
 rintro rfl
 omega
theorem rawL_no10 (w:List UInt8):(10:UInt8)∉rawL w:=by
 unfold rawL
 intro h
 rcases List.mem_append.1 h with h|h
 ·revert h;decide
 ·obtain⟨x,_,hx⟩:=List.mem_flatMap.1 h
  simp only[List.mem_cons,List.not_mem_nil,or_false]at hx
  rcases hx with hx|hx
  ·exact hexB_no (div_lt x) (by decide) hx
  ·exact hexB_no (mod_lt x) (by decide) hx
theorem opT_word_no (o:Nat) {y:UInt8}(hy:y.toNat<97):y∉(opT o).1:=by
 have:∀ x∈(opT o).1,97≤x.toNat:=by
  rcases opT_cases o with ⟨_,e⟩|⟨_,e⟩|⟨_,e⟩|⟨_,e⟩|⟨_,e⟩|⟨_,e⟩|⟨_,e⟩|⟨_,e⟩|⟨_,e⟩|⟨_,e⟩<;>rw[e]<;>decide
 intro h
 have:=this y h
 omega
theorem insL_no10 (o a b c:UInt8):(10:UInt8)∉insL o a b c:=by
 unfold insL
 intro h
 rcases List.mem_append.1 h with h|h
 ·exact opT_word_no _ (by decide) h
 ·obtain⟨x,_,hx⟩:=List.mem_flatMap.1 h
  rcases List.mem_cons.1 hx with hx|hx
  ·revert hx;decide
  ·exact itoa_no (by decide) hx
theorem lineL_no10 (w:List UInt8):(10:UInt8)∉lineL w:=by
 unfold lineL
 split
 ·split
  ·exact insL_no10 _ _ _ _
  ·exact rawL_no10 _
 ·exact rawL_no10 _
theorem linesP_no10 {p l:List UInt8}(h:l∈linesP p):(10:UInt8)∉l:=by
 unfold linesP at h
 obtain⟨k,_,rfl⟩:=List.mem_map.1 h
 exact lineL_no10 _
theorem spl_textP (p:List UInt8):spl 10 (textP p)=linesP p++[[]]:=spl_lines0 fun _ h=>linesP_no10 h
theorem wordsP_ch {w:List UInt8}(h:w∈wordsP):∀ x∈w,97≤x.toNat:=by
 have:wordsP.all (fun w=>w.all fun x=>decide (97≤x.toNat))=true:=by decide
 intro x hx
 exact of_decide_eq_true (List.all_eq_true.1 (List.all_eq_true.1 this w h) x hx)
theorem wordsP_get {k:Nat}(hk:k<14):wordsP.getD k []∈wordsP:=by
 have h14:wordsP.length=14:=rfl
 rw[List.getD_eq_getElem?_getD,List.getElem?_eq_getElem (by omega)]
 exact List.getElem_mem _
theorem spl_cfgLn {c:Nat→Int}{k:Nat}(hk:k<14):spl 32 (cfgLn c k)=[wordsP.getD k [],Lib.itoa (c k)]:=by
 unfold cfgLn
 have h1:(32:UInt8)∉wordsP.getD k []:=fun h=>by have:=wordsP_ch (wordsP_get hk) _ h;revert this;decide
 have e:wordsP.getD k []++[32]++Lib.itoa (c k)=wordsP.getD k []++32::Lib.itoa (c k):=by simp
 rw[e,spl_app _ h1,spl_no (itoa_no (by decide))]
theorem cfgLn_no10 {c:Nat→Int}{k:Nat}(hk:k<14):(10:UInt8)∉cfgLn c k:=by
 unfold cfgLn
 intro h
 rcases List.mem_append.1 h with h|h
 ·rcases List.mem_append.1 h with h|h
  ·have:=wordsP_ch (wordsP_get hk) _ h;revert this;decide
  ·revert h;decide
 ·exact itoa_no (by decide) h
def progW:List UInt8:=[112,114,111,103,114,97,109]
def clockW:List UInt8:=[99,108,111,99,107]
def runW:List UInt8:=[114,117,110]
theorem spl_run (p v c:Int):spl 32 (runW++[32]++Lib.itoa p++[32]++Lib.itoa v++[32]++Lib.itoa c)=[runW,Lib.itoa p,Lib.itoa v,Lib.itoa c]:=by
 have e:runW++[32]++Lib.itoa p++[32]++Lib.itoa v++[32]++Lib.itoa c=runW++32::(Lib.itoa p++32::(Lib.itoa v++32::Lib.itoa c)):=by simp
 rw[e,spl_app _ (by decide),spl_app _ (itoa_no (by decide)),spl_app _ (itoa_no (by decide)),spl_no (itoa_no (by decide))]
theorem actS_run {a:ActD}(h:a.k≠2):actS a=runW++[32]++Lib.itoa a.p++[32]++Lib.itoa a.v++[32]++Lib.itoa a.c:=by
 unfold actS actL;rw[if_neg h];rfl
theorem actS_clock {a:ActD}(h:a.k=2):actS a=clockW:=by
 unfold actS actL;rw[if_pos h];rfl
theorem actS_no10 (a:ActD):(10:UInt8)∉actS a:=by
 by_cases h:a.k=2
 ·rw[actS_clock h];decide
 ·rw[actS_run h]
  intro hm
  simp only[List.mem_append]at hm
  rcases hm with (((((hm|hm)|hm)|hm)|hm)|hm)|hm
  ·revert hm;decide
  ·revert hm;decide
  ·exact itoa_no (by decide) hm
  ·revert hm;decide
  ·exact itoa_no (by decide) hm
  ·revert hm;decide
  ·exact itoa_no (by decide) hm
def progLines (p:List UInt8):List (List UInt8):=progW::(linesP p).map (32::·)
def linesT (c:Nat→Int) (P:List (List UInt8)) (A:List ActD):List (List UInt8):=(List.range 14).map (cfgLn c)++P.flatMap progLines++A.map actS
theorem TextL_lines (c:Nat→Int) (P:List (List UInt8)) (A:List ActD):TextL c P A=(linesT c P A).flatMap endL:=by
 unfold TextL linesT
 rw[List.flatMap_append,List.flatMap_append,List.flatMap_map,List.flatMap_map,List.flatMap_assoc]
 congr 2
 congr 1
 funext p
 unfold progL progLines
 rw[List.flatMap_cons,List.flatMap_map]
 rfl
theorem linesT_no10 {c:Nat→Int}{P:List (List UInt8)}{A:List ActD}{l:List UInt8}(h:l∈linesT c P A):(10:UInt8)∉l:=by
 unfold linesT at h
 rcases List.mem_append.1 h with h|h
 ·rcases List.mem_append.1 h with h|h
  ·obtain⟨k,hk,rfl⟩:=List.mem_map.1 h
   exact cfgLn_no10 (List.mem_range.1 hk)
  ·obtain⟨p,_,h⟩:=List.mem_flatMap.1 h
   rcases List.mem_cons.1 h with rfl|h
   ·decide
   ·obtain⟨l,hl,rfl⟩:=List.mem_map.1 h
    intro hm
    rcases List.mem_cons.1 hm with hm|hm
    ·revert hm;decide
    ·exact linesP_no10 hl hm
 ·obtain⟨a,_,rfl⟩:=List.mem_map.1 h
  exact actS_no10 a
theorem spl_TextL (c:Nat→Int) (P:List (List UInt8)) (A:List ActD):spl 10 (TextL c P A)=linesT c P A++[[]]:=by
 rw[TextL_lines];exact spl_lines0 fun _ h=>linesT_no10 h
def atoiV (w:List UInt8):Int:=match Lib.atoiAll w with
 | .ok n=>n
 | .range=>Lib.atoiSat w
 | _=>0
theorem decFrom_append:∀ (x y:List UInt8) (a:Nat),Lib.decFrom a (x++y)=(Lib.decFrom a x).bind fun m=>Lib.decFrom m y
 | [],y,a=>rfl
 | b::x,y,a=>by
   simp only[List.cons_append,Lib.decFrom]
   cases Lib.digitVal b with
   | none=>rfl
   | some d=>exact decFrom_append x y _
theorem decFrom_ge:∀ (l:List UInt8) (a n:Nat),Lib.decFrom a l=some n→a≤n
 | [],a,n,h=>by simp only[Lib.decFrom,Option.some.injEq]at h;omega
 | b::l,a,n,h=>by
   simp only[Lib.decFrom]at h
   cases hd:Lib.digitVal b with
   | none=>rw[hd]at h;cases h
   | some d=>rw[hd]at h;have:=decFrom_ge l _ n h;omega
theorem decFrom_take_le {l:List UInt8}{k m n:Nat}(h:Lib.decFrom 0 l=some n) (hm:Lib.decFrom 0 (l.take k)=some m):m≤n:=by
 have:=decFrom_append (l.take k) (l.drop k) 0
 rw[List.take_append_drop,hm,h,Option.bind_some]at this
 exact decFrom_ge _ _ _ this.symm
theorem decFrom_digits:∀ (k u:Nat),u≤k→Lib.decFrom 0 (Lib.decDigits u)=some u:=by
 intro k
 induction k with
 | zero =>
   intro u hu
   have:u=0:=by omega
   subst this
   rw[dec_small (by decide)];rfl
 | succ k ih =>
   intro u hu
   have dg:∀ d:Nat,d<10→Lib.digitVal (UInt8.ofNat (48+d))=some d:=by
     intro d hd
     have h3:(UInt8.ofNat (48+d)).toNat=48+d:=by simp;omega
     unfold Lib.digitVal
     rw[h3,if_pos (by omega)]
     congr 1;omega
   by_cases h:u<10
   · rw[dec_small h]
     simp only[Lib.decFrom,dg u h]
     congr 1;omega
   · rw[dec_big h,decFrom_append,ih (u / 10) (by omega),Option.bind_some]
     simp only[Lib.decFrom,dg (u%10) (by omega)]
     congr 1;omega
theorem parse_dec:∀ (l:List UInt8) (a n:Nat),Lib.decFrom a l=some n→n<18446744073709551616→Lib.parseUint10 a l=.ok n
 | [],a,n,h,_=>by simp only[Lib.decFrom,Option.some.injEq]at h;subst h;rfl
 | b::l,a,n,h,hn=>by
   simp only[Lib.decFrom]at h
   cases hd:Lib.digitVal b with
   | none=>rw[hd]at h;cases h
   | some d =>
     rw[hd]at h
     have hge:=decFrom_ge _ _ _ h
     unfold Lib.digitVal at hd
     split at hd
     · rename_i hb
       simp only[Option.some.injEq]at hd
       subst hd
       simp only[Lib.parseUint10,if_pos hb]
       rw[if_neg (by omega),if_neg (by omega)]
       exact parse_dec l _ n h hn
     · cases hd
theorem parseMag_digits {u:Nat}(hu:u<18446744073709551616):Lib.parseMag (Lib.decDigits u)=.ok u:=by
 unfold Lib.parseMag
 rw[if_neg (decDigits_ne u)]
 exact parse_dec _ _ _ (decFrom_digits u u (Nat.le_refl _)) hu
theorem atoiV_itoa {n:Int}(h0 : -9223372036854775808≤n) (h1:n≤9223372036854775807):atoiV (Lib.itoa n)=n:=by
 have key:Lib.atoiAll (Lib.itoa n)=.ok n:=by
   by_cases hn:n<0
   · have e:Lib.itoa n=45::Lib.decDigits n.natAbs:=by unfold Lib.itoa;rw[if_pos hn]
     rw[e]
     have hm:=parseMag_digits (u:=n.natAbs) (by omega)
     simp only[Lib.atoiAll]
     have c45:(45:UInt8).toNat=45:=rfl
     simp only[c45,or_true,if_true,hm,not_true_eq_false,false_and,if_false,true_and]
     rw[if_neg (by omega)]
     congr 1;omega
   · have e:Lib.itoa n=Lib.decDigits n.toNat:=by unfold Lib.itoa;rw[if_neg hn]
     have hm:=parseMag_digits (u:=n.toNat) (by omega)
     have hd:=decDigits_dig _ n.toNat (Nat.le_refl _)
     rw[e]
     cases hl:Lib.decDigits n.toNat with
     | nil=>exact absurd hl (decDigits_ne _)
     | cons b r =>
       have hb:=hd b (by rw[hl];exact List.mem_cons_self)
       rw[hl]at hm
       have n1:¬(b.toNat=43∨b.toNat=45):=by omega
       have n2:¬b.toNat=45:=by omega
       unfold Lib.atoiAll
       dsimp only
       rw[if_neg n1,hm]
       dsimp only
       rw[if_neg (by rintro ⟨_,h⟩;omega),if_neg (by rintro ⟨h,_⟩;exact n2 h),if_neg n2]
       congr 1;omega
 unfold atoiV;rw[key]
theorem atoiV_bd (w:List UInt8) : -9223372036854775808≤atoiV w∧atoiV w≤9223372036854775807:=by
 unfold atoiV
 split
 ·rename_i n h
  unfold Lib.atoiAll at h
  split at h
  ·cases h
  ·rename_i c r
   split at h
   ·cases h
   ·cases h
   ·rename_i u hu
    dsimp only at h
    split at h
    ·cases h
    ·split at h
     ·cases h
     ·rename_i h1 h2
      injection h with h
      subst h
      split<;>omega
 ·unfold Lib.atoiSat;split<;>omega
 ·omega
def numF (f:List (List UInt8)) (i:Nat):Int:=match f[i]? with
 | none=>0
 | some w=>atoiV w
theorem numF_bd (f:List (List UInt8)) (i:Nat) : -9223372036854775808≤numF f i∧numF f i≤9223372036854775807:=by
 unfold numF
 split
 ·omega
 ·exact atoiV_bd _
def runAct (f:List (List UInt8)):ActD:=⟨1,numF f 1,numF f 2,numF f 3⟩
structure St where
 c:Nat→Int
 Q:List (List UInt8)
 A:List ActD
def St.set (s:St) (k:Nat) (v:Int):St:={ s with c:=fun i=>if i=k then v else s.c i }
inductive Step (l:List UInt8) (s:St):St→Prop
 | prog:l=progW→Step l s { s with Q:=s.Q++[[]] }
 | ind (r q:List UInt8) (Q:List (List UInt8)):l=32::r→s.Q=Q++[q]→Step l s { s with Q:=Q++[q++endL r] }
 | clock:l=clockW→Step l s { s with A:=s.A++[⟨2,0,0,0⟩] }
 | run:(spl 32 l).head?=some runW→Step l s { s with A:=s.A++[runAct (spl 32 l)] }
 | set (k:Nat) (w:List UInt8) (v:Int):k<14→spl 32 l=[wordsP.getD k [],w]→0≤v→v<1099511627776→(∀ n:Int,0≤n→n≤4294967296→w=Lib.itoa n→v=n)→Step l s (s.set k v)
inductive Run:St→List (List UInt8)→St→Prop
 | nil (s:St):Run s [] s
 | cons {l:List UInt8}{ls:List (List UInt8)}{s s' s'':St}:Step l s s'→Run s' ls s''→Run s (l::ls) s''
structure Stop (l:List UInt8) (s:St):Prop where
 prog:l≠progW
 ind:∀ r,l=32::r→s.Q=[]
 clock:l≠clockW
 run:(spl 32 l).head?≠some runW
 set:∀ k w,k<14→spl 32 l≠[wordsP.getD k [],w]
theorem Run.app {a b:List (List UInt8)}{s s' s'':St}(h1:Run s a s') (h2:Run s' b s''):Run s (a++b) s'':=by
 induction h1 with
 | nil=>exact h2
 | cons st _ ih=>exact .cons st (ih h2)
theorem Run.one {l:List UInt8}{a:List (List UInt8)}{s s' s'':St}(h1:Run s a s') (h2:Step l s' s''):Run s (a++[l]) s'':=h1.app (.cons h2 (.nil _))
theorem Run.split:∀ {a b:List (List UInt8)}{s s'':St},Run s (a++b) s''→∃ s',Run s a s'∧Run s' b s''
 | [],b,s,s'',h=>⟨s,.nil _,h⟩
 | l::a,b,s,s'',h=>by
   cases h with
   | cons st r=>obtain⟨s',h1,h2⟩:=Run.split (a:=a) r;exact⟨s',.cons st h1,h2⟩
theorem spl_sp (r:List UInt8):spl 32 (32::r)=[]::spl 32 r:=by rw[spl,if_pos rfl]
theorem spl_progW:spl 32 progW=[progW]:=by decide
theorem spl_clockW:spl 32 clockW=[clockW]:=by decide
theorem word_ne {k:Nat}(hk:k<14):wordsP.getD k []≠[]∧wordsP.getD k []≠runW:=by
 have:∀ i:Fin 14,wordsP.getD i.1 []≠[]∧wordsP.getD i.1 []≠runW:=by decide
 exact this ⟨k,hk⟩
theorem word_inj {k j:Nat}(hk:k<14) (hj:j<14) (h:wordsP.getD k []=wordsP.getD j []):k=j:=by
 have:∀ i j:Fin 14,wordsP.getD i.1 []=wordsP.getD j.1 []→i=j:=by decide
 exact congrArg Fin.val (this ⟨k,hk⟩ ⟨j,hj⟩ h)
structure Good (c:Nat→Int) (P:List (List UInt8)) (A:List ActD):Prop where
 c:∀ i,i<14→inB c i=true
 p1:1≤P.length
 p16:P.length≤16
 p:∀ p∈P,p.length≤1024
 a:A.all actB=true
 ok:∀ a∈A,okA a
theorem inB_bd {c:Nat→Int}{k:Nat}(hk:k<14) (h:inB c k=true):0<c k∧c k≤4294967296:=by
 unfold inB at h
 simp only[Bool.and_eq_true,decide_eq_true_eq]at h
 have:=lo_hi hk
 omega
theorem step_cfg {c:Nat→Int}{k:Nat}{s s':St}(hk:k<14) (hb:0<c k∧c k≤4294967296) (h:Step (cfgLn c k) s s'):s'=s.set k (c k):=by
 have hs:=spl_cfgLn (c:=c) hk
 have hw:=word_ne hk
 cases h with
 | prog e=>rw[e,spl_progW]at hs;simp at hs
 | ind r q Q e _=>rw[e,spl_sp]at hs;simp only[List.cons.injEq]at hs;exact absurd hs.1.symm hw.1
 | clock e=>rw[e,spl_clockW]at hs;simp at hs
 | run e=>rw[hs]at e;simp only[List.head?_cons,Option.some.injEq]at e;exact absurd e hw.2
 | set j w v hj e v0 v1 hv =>
   rw[hs]at e
   simp only[List.cons.injEq,and_true]at e
   have:=word_inj hk hj e.1
   subst this
   rw[hv (c k) (by omega) hb.2 e.2.symm]
theorem step_prog {s s':St}(h:Step progW s s'):s'={ s with Q:=s.Q++[[]] }:=by
 cases h with
 | prog e=>rfl
 | ind r q Q e _=>simp[progW]at e
 | clock e=>exact absurd e (by decide)
 | run e=>exact absurd e (by decide)
 | set j w v hj e v0 v1 hv=>rw[spl_progW]at e;simp at e
theorem step_ind {r:List UInt8}{s s':St}(h:Step (32::r) s s'):∃ q Q,s.Q=Q++[q]∧s'={ s with Q:=Q++[q++endL r] }:=by
 cases h with
 | prog e=>simp[progW]at e
 | ind r' q Q e e2=>simp only[List.cons.injEq,true_and]at e;subst e;exact⟨q,Q,e2,rfl⟩
 | clock e=>simp[clockW]at e
 | run e=>rw[spl_sp]at e;simp[runW]at e
 | set j w v hj e v0 v1 hv =>
   rw[spl_sp]at e
   simp only[List.cons.injEq]at e
   exact absurd e.1.symm (word_ne hj).1
theorem actB_k {a:ActD}(h:actB a=true):a.k=1∨a=⟨2,0,0,0⟩:=by
 obtain⟨k,p,v,c⟩:=a
 simp only[actB,Bool.or_eq_true,Bool.and_eq_true,decide_eq_true_eq]at h
 rcases h with h|⟨⟨⟨h1,h2⟩,h3⟩,h4⟩
 ·exact .inl h
 ·exact .inr (by subst h1;subst h2;subst h3;subst h4;rfl)
theorem runAct_spl {p v c:Int}(hp : -9223372036854775808≤p∧p≤9223372036854775807) (hv : -9223372036854775808≤v∧v≤9223372036854775807) (hc : -9223372036854775808≤c∧c≤9223372036854775807):runAct [runW,Lib.itoa p,Lib.itoa v,Lib.itoa c]=⟨1,p,v,c⟩:=by
 unfold runAct numF
 simp only[List.getElem?_cons_succ,List.getElem?_cons_zero,atoiV_itoa hp.1 hp.2,atoiV_itoa hv.1 hv.2,atoiV_itoa hc.1 hc.2]
theorem step_act {a:ActD}{s s':St}(hb:actB a=true) (ok:okA a) (h:Step (actS a) s s'):s'={ s with A:=s.A++[a] }:=by
 rcases actB_k hb with hk|rfl
 · have hs:spl 32 (actS a)=[runW,Lib.itoa a.p,Lib.itoa a.v,Lib.itoa a.c]:=by rw[actS_run (by omega),spl_run]
   cases h with
   | prog e=>rw[e,spl_progW]at hs;simp at hs
   | ind r q Q e _=>rw[e,spl_sp]at hs;simp[runW]at hs
   | clock e=>rw[e,spl_clockW]at hs;simp at hs
   | run e =>
     rw[hs,runAct_spl ok.1 ok.2.1 ok.2.2]
     obtain⟨k,p,v,c⟩:=a
     simp only at hk
     subst hk;rfl
   | set j w v hj e v0 v1 hv=>rw[hs]at e;simp at e
 · have e0:actS ⟨2,0,0,0⟩=clockW:=actS_clock rfl
   rw[e0]at h
   cases h with
   | prog e=>exact absurd e (by decide)
   | ind r q Q e _=>simp[clockW]at e
   | clock e=>rfl
   | run e=>exact absurd e (by decide)
   | set j w v hj e v0 v1 hv=>rw[spl_clockW]at e;simp at e
theorem step_nil {s s':St}(h:Step [] s s'):False:=by
 cases h with
 | prog e=>simp[progW]at e
 | ind r q Q e _=>simp at e
 | clock e=>simp[clockW]at e
 | run e=>simp[spl,runW]at e
 | set j w v hj e v0 v1 hv=>simp[spl]at e
def st0:St:=⟨fun _=>0,[],[]⟩
theorem run_cfg {c:Nat→Int}{s:St}:∀ {m:Nat}{s':St},m≤14→(∀ i,i<14→0<c i∧c i≤4294967296)→Run s ((List.range m).map (cfgLn c)) s'→s'.Q=s.Q∧s'.A=s.A∧∀ k,s'.c k=if k<m then c k else s.c k
 | 0,s',_,_,h=>by cases h;exact⟨rfl,rfl,fun k=>by rw[if_neg (by omega)]⟩
 | m+1,s',hm,hb,h=>by
   rw[List.range_succ,List.map_append]at h
   obtain⟨s1,h1,h2⟩:=h.split
   obtain⟨e1,e2,e3⟩:=run_cfg (by omega) hb h1
   cases h2 with
   | cons st r =>
     cases r
     rw[step_cfg (by omega) (hb m (by omega)) st]
     refine⟨e1,e2,fun k=>?_⟩
     show (if k=m then c m else s1.c k)=_
     by_cases hk:k=m
     · subst hk;rw[if_pos rfl,if_pos (by omega)]
     · rw[if_neg hk,e3 k]
       by_cases hk2:k<m
       · rw[if_pos hk2,if_pos (by omega)]
       · rw[if_neg hk2,if_neg (by omega)]
theorem run_ind:∀ {ls:List (List UInt8)}{s s':St}{q:List UInt8}{Q:List (List UInt8)},s.Q=Q++[q]→Run s (ls.map (32::·)) s'→s'.c=s.c∧s'.A=s.A∧s'.Q=Q++[q++ls.flatMap endL]
 | [],s,s',q,Q,hq,h=>by cases h;exact⟨rfl,rfl,by rw[hq];simp⟩
 | l::ls,s,s',q,Q,hq,h=>by
   cases h with
   | cons st r =>
     obtain⟨q',Q',e1,rfl⟩:=step_ind st
     have e2:=hq.symm.trans e1
     have e3:=List.append_inj' e2 rfl
     simp only[List.cons.injEq,and_true]at e3
     obtain⟨rfl,rfl⟩:=e3
     obtain⟨h1,h2,h3⟩:=run_ind (q:=q++endL l) (Q:=Q) rfl r
     exact⟨h1,h2,by rw[h3];simp⟩
theorem run_progs:∀ {P:List (List UInt8)}{s s':St},Run s (P.flatMap progLines) s'→s'.c=s.c∧s'.A=s.A∧s'.Q=s.Q++P.map textP
 | [],s,s',h=>by cases h;exact⟨rfl,rfl,by simp⟩
 | p::P,s,s',h=>by
   rw[List.flatMap_cons]at h
   obtain⟨s1,h1,h2⟩:=h.split
   cases h1 with
   | cons st r =>
     rw[step_prog st]at r
     obtain⟨e1,e2,e3⟩:=run_ind (q:=[]) (Q:=s.Q) rfl r
     obtain⟨g1,g2,g3⟩:=run_progs h2
     exact⟨g1.trans e1,g2.trans e2,by rw[g3,e3];simp[textP]⟩
theorem run_acts:∀ {A:List ActD}{s s':St},A.all actB=true→(∀ a∈A,okA a)→Run s (A.map actS) s'→s'.c=s.c∧s'.Q=s.Q∧s'.A=s.A++A
 | [],s,s',_,_,h=>by cases h;exact⟨rfl,rfl,by simp⟩
 | a::A,s,s',hb,ok,h=>by
   rw[List.all_cons,Bool.and_eq_true]at hb
   cases h with
   | cons st r =>
     rw[step_act hb.1 (ok a List.mem_cons_self) st]at r
     obtain⟨g1,g2,g3⟩:=run_acts hb.2 (fun x hx=>ok x (List.mem_cons_of_mem _ hx)) r
     exact⟨g1,g2,by rw[g3];simp⟩
theorem run_good {c:Nat→Int}{P:List (List UInt8)}{A:List ActD}{s:St}(g:Good c P A) (h:Run st0 (linesT c P A) s):(∀ k,k<14→s.c k=c k)∧s.Q=P.map textP∧s.A=A:=by
 unfold linesT at h
 obtain⟨s2,h12,h3⟩:=h.split
 obtain⟨s1,h1,h2⟩:=h12.split
 obtain⟨a1,a2,a3⟩:=run_cfg (Nat.le_refl _) (fun i hi=>inB_bd hi (g.c i hi)) h1
 obtain⟨b1,b2,b3⟩:=run_progs h2
 obtain⟨c1,c2,c3⟩:=run_acts g.a g.ok h3
 refine⟨fun k hk=>?_,?_,?_⟩
 ·rw[c1,b1,a3 k,if_pos hk]
 ·rw[c2,b3,a1];rfl
 ·rw[c3,b2,a2];rfl
theorem run_Qne {ls:List (List UInt8)}{s s':St}(h:Run s ls s'):(s.Q≠[]→s'.Q≠[])∧(progW∈ls→s'.Q≠[]):=by
 induction h with
 | nil=>exact⟨id,fun h=>by cases h⟩
 | @cons l ls s s1 s2 st r ih =>
   have h1:s.Q≠[]→s1.Q≠[]:=by
     intro h
     cases st with
     | prog e=>simp
     | ind r q Q e e2=>simp
     | clock e=>exact h
     | run e=>exact h
     | set j w v hj e v0 v1 hv=>exact h
   refine⟨fun h=>ih.1 (h1 h),fun h=>?_⟩
   rcases List.mem_cons.1 h with e|h
   · subst e
     rw[step_prog st]at ih
     exact ih.1 (by simp)
   · exact ih.2 h
theorem stop_good {c:Nat→Int}{P:List (List UInt8)}{A:List ActD}{s:St}{k:Nat}(g:Good c P A) (hk:k<(linesT c P A++[[]]).length) (h:Run st0 ((linesT c P A++[[]]).take k) s) (hs:Stop (linesT c P A++[[]])[k] s):k=(linesT c P A).length:=by
 rcases Nat.lt_or_ge k (linesT c P A).length with hlt|hge
 ·exfalso
  have e1:(linesT c P A++[[]])[k]=(linesT c P A)[k]:=List.getElem_append_left hlt
  have e2:(linesT c P A++[[]]).take k=(linesT c P A).take k:=List.take_append_of_le_length (by omega)
  rw[e1]at hs
  rw[e2]at h
  have hm:=List.getElem_mem hlt
  generalize hl:(linesT c P A)[k]=l at hs hm
  unfold linesT at hm
  rcases List.mem_append.1 hm with hm|hm
  ·rcases List.mem_append.1 hm with hm|hm
   ·obtain⟨j,hj,rfl⟩:=List.mem_map.1 hm
    have hj:=List.mem_range.1 hj
    exact hs.set j _ hj (spl_cfgLn hj)
   ·obtain⟨p,hp,hm⟩:=List.mem_flatMap.1 hm
    rcases List.mem_cons.1 hm with e|hm
    ·exact hs.prog e
    ·obtain⟨r,_,rfl⟩:=List.mem_map.1 hm
     have hQ:=hs.ind r rfl
     refine(run_Qne h).2 ?_ hQ
     have h14:∃ hh:14<(linesT c P A).length,(linesT c P A)[14]=progW:=by
      obtain⟨p0,P',rfl⟩:∃ p0 P',P=p0::P':=by
       cases P with
       | nil=>have:=g.p1;simp at this
       | cons p0 P'=>exact⟨p0,P',rfl⟩
      have hlen:14<(linesT c (p0::P') A).length:=by simp[linesT,progLines]
      refine⟨hlen,?_⟩
      simp only[linesT,progLines,List.flatMap_cons,List.cons_append,List.append_assoc]
      rw[List.getElem_append_right (by simp)]
      simp
     obtain⟨hh,e14⟩:=h14
     have hk14:14<k:=by
      rcases Nat.lt_trichotomy k 14 with h1|h1|h1
      ·exfalso
       have:(linesT c P A)[k]=cfgLn c k:=by
        simp only[linesT,List.append_assoc]
        rw[List.getElem_append_left (by simpa using h1)]
        simp
       rw[this]at hl
       have hs2:=spl_cfgLn (c:=c) h1
       rw[hl,spl_sp]at hs2
       simp only[List.cons.injEq]at hs2
       exact(word_ne h1).1 hs2.1.symm
      ·exfalso
       subst h1
       rw[e14]at hl
       simp[progW]at hl
      ·exact h1
     have:((linesT c P A).take k)[14]'(by simp;omega)=progW:=by rw[List.getElem_take];exact e14
     rw[← this]
     exact List.getElem_mem _
  ·obtain⟨a,ha,rfl⟩:=List.mem_map.1 hm
   rcases actB_k (List.all_eq_true.1 g.a a ha) with hk1|rfl
   ·refine hs.run ?_
    rw[actS_run (by omega),spl_run];rfl
   ·exact hs.clock (actS_clock rfl)
 ·simp only[List.length_append,List.length_cons,List.length_nil]at hk;omega
def Ended (ls:List (List UInt8)) (s:St):Prop:=Run st0 ls s∨∃ k,∃ h:k<ls.length,Run st0 (ls.take k) s∧Stop ls[k] s
theorem ended_good {c:Nat→Int}{P:List (List UInt8)}{A:List ActD}{s:St}{t:List UInt8}(g:Good c P A) (ht:t=TextL c P A) (h:Ended (spl 10 t) s):(∀ k,k<14→s.c k=c k)∧s.Q=P.map textP∧s.A=A:=by
 rw[ht,spl_TextL]at h
 rcases h with h|⟨k,hk,h1,h2⟩
 ·obtain⟨s1,_,h2⟩:=h.split
  cases h2 with
  | cons st _=>exact(step_nil st).elim
 ·have e:=stop_good g hk h1 h2
  subst e
  rw[List.take_left']at h1
  ·exact run_good g h1
  ·rfl
theorem run_sizes {ls:List (List UInt8)}{s s':St}(h:Run s ls s'):s'.A.length+s'.Q.length≤s.A.length+s.Q.length+ls.length∧∀ B,(∀ q∈s.Q,q.length≤B)→∀ q∈s'.Q,q.length≤B+(ls.map fun l=>l.length+1).sum:=by
 induction h with
 | nil=>exact⟨by simp,fun B hB q hq=>by simpa using hB q hq⟩
 | @cons l ls s s1 s2 st r ih =>
   obtain⟨i1,i2⟩:=ih
   refine⟨?_,fun B hB q hq=>?_⟩
   · have:s1.A.length+s1.Q.length≤s.A.length+s.Q.length+1:=by
       cases st with
       | prog e=>simp;omega
       | ind r q Q e e2=>rw[e2];simp
       | clock e=>simp;omega
       | run e=>simp;omega
       | set j w v hj e v0 v1 hv=>simp[St.set]
     simp only[List.length_cons];omega
   · have hB1:∀ q∈s1.Q,q.length≤B+(l.length+1):=by
       cases st with
       | prog e =>
         intro q hq
         rcases List.mem_append.1 hq with hq|hq
         · have:=hB q hq;omega
         · rw[List.mem_singleton]at hq;subst hq;simp
       | ind r q0 Q e e2 =>
         intro q hq
         rcases List.mem_append.1 hq with hq|hq
         · have:=hB q (by rw[e2];exact List.mem_append_left _ hq);omega
         · rw[List.mem_singleton]at hq;subst hq
           have:=hB q0 (by rw[e2];simp)
           rw[e,List.length_append,endL_len,List.length_cons];omega
       | clock e=>intro q hq;have:=hB q hq;omega
       | run e=>intro q hq;have:=hB q hq;omega
       | set j w v hj e v0 v1 hv=>intro q hq;have:=hB q hq;omega
     have:=i2 _ hB1 q hq
     simp only[List.map_cons,List.sum_cons];omega
def okS (s:St):Prop:=(∀ k,0≤s.c k∧s.c k<1099511627776)∧∀ a∈s.A,okA a
theorem okA_run (f:List (List UInt8)):okA (runAct f):=⟨numF_bd f 1,numF_bd f 2,numF_bd f 3⟩
theorem Step.okS {l:List UInt8}{s s':St}(h:Step l s s') (ok:okS s):okS s':=by
 obtain⟨o1,o2⟩:=ok
 cases h with
 | prog e=>exact⟨o1,o2⟩
 | ind r q Q e e2=>exact⟨o1,o2⟩
 | clock e =>
   refine⟨o1,fun a ha=>?_⟩
   rcases List.mem_append.1 ha with ha|ha
   · exact o2 a ha
   · rw[List.mem_singleton]at ha;subst ha;unfold okA;dsimp only;omega
 | run e =>
   refine⟨o1,fun a ha=>?_⟩
   rcases List.mem_append.1 ha with ha|ha
   · exact o2 a ha
   · rw[List.mem_singleton]at ha;subst ha;exact okA_run _
 | set j w v hj e v0 v1 hv =>
   refine⟨fun k=>?_,o2⟩
   show 0≤(if k=j then v else s.c k)∧_
   by_cases hk:k=j
   · subst hk;simp only[St.set,if_true];exact⟨v0,v1⟩
   · simp only[St.set,if_neg hk];exact o1 k
theorem Run.okS {ls:List (List UInt8)}{s s':St}(h:Run s ls s'):Go.Proofs.YtohjaacnlmkhbaaGreatDoor.okS s→Go.Proofs.YtohjaacnlmkhbaaGreatDoor.okS s':=by
 induction h with
 | nil=>exact id
 | cons st _ ih=>exact fun o=>ih (st.okS o)
theorem okS0:okS st0:=⟨fun _=>by simp[st0],fun a ha=>by cases ha⟩
theorem okS.okC {s:St}(o:okS s):okC s.c:=⟨fun k _=>by have:=o.1 k;omega,fun k _ _=>by have:=o.1 k;omega⟩
def callW:List UInt8:=[99,97,108,108]
def rawW:List UInt8:=[114,97,119]
def byteI (n:Int):UInt8:=UInt8.ofNat (n%256).toNat
theorem byteI_toNat (n:Int):((byteI n).toNat:Int)=n%256:=by
 unfold byteI
 have h0:=Int.emod_nonneg n (b:=256) (by decide)
 have h1:=Int.emod_lt_of_pos n (b:=256) (by decide)
 have h2:(UInt8.ofNat (n%256).toNat).toNat=(n%256).toNat%256:=by simp
 rw[h2,Nat.mod_eq_of_lt (by omega)]
 omega
theorem byteI_eq {n:Int}{x:UInt8}(h:n%256=(x.toNat:Int)):byteI n=x:=by
 apply UInt8.toNat_inj.1
 have:=byteI_toNat n
 omega
def putN (n:Int) (s:UInt8×UInt8×UInt8) (ch:UInt8):UInt8×UInt8×UInt8 :=
 if ch=97 then (byteI n,s.2.1,s.2.2) else if ch=98 then (s.1,byteI n,s.2.2) else if ch=99 then (s.1,s.2.1,byteI n) else (s.1,byteI (n.fdiv 256),byteI n)
def setsN (f:List (List UInt8)) (nm:List UInt8):Nat→UInt8×UInt8×UInt8
 | 0=>(0,0,0)
 | k+1=>putN (numF f (k+1)) (setsN f nm k) (nm.getD k 0)
def opOf (w:List UInt8):Option Nat:=(List.range 8).find? fun o=>decide ((opT o).1=w)
def instrP (f:List (List UInt8)):UInt8×UInt8×UInt8×UInt8 :=
 if f.head?=some callW then (byteI (16+numF f 1),0,0,0)
 else match opOf (f.headD []) with
  | none=>(0,0,0,0)
  | some o=>(UInt8.ofNat o,setsN f (opT o).2.1 (opT o).2.1.length)
theorem spl_insL {o a b c:UInt8}:spl 32 (insL o a b c)=(opT o.toNat).1::(opT o.toNat).2.1.map fun ch=>Lib.itoa (valI o a b c ch):=by
 have key:∀ (w nm:List UInt8),(32:UInt8)∉w→spl 32 (w++nm.flatMap fun ch=>32::Lib.itoa (valI o a b c ch))=w::nm.map fun ch=>Lib.itoa (valI o a b c ch):=by
   intro w nm
   induction nm generalizing w with
   | nil=>intro hw;rw[List.flatMap_nil,List.append_nil,spl_no hw];rfl
   | cons ch nm ih =>
     intro hw
     rw[List.flatMap_cons,List.cons_append,spl_app _ hw,ih _ (itoa_no (by decide))];rfl
 exact key _ _ (opT_word_no _ (by decide))
theorem opOf_word {o:Nat}(ho:o<8):opOf (opT o).1=some o:=by
 have:∀ i:Fin 8,opOf (opT i.1).1=some i.1:=by decide
 exact this ⟨o,ho⟩
theorem opT_head {o:Nat}(h:(opT o).2.2=true):(o<8∧(opT o).1≠callW)∨((17≤o∧o≤38)∧opT o=(callW,[107],true)):=by
 rcases opT_cases o with ⟨e0,e⟩|⟨e0,e⟩|⟨e0,e⟩|⟨e0,e⟩|⟨e0,e⟩|⟨e0,e⟩|⟨e0,e⟩|⟨e0,e⟩|⟨e0,e⟩|⟨e0,e⟩
 ·exact .inl ⟨by omega,by rw[e];decide⟩
 ·exact .inl ⟨by omega,by rw[e];decide⟩
 ·exact .inl ⟨by omega,by rw[e];decide⟩
 ·exact .inl ⟨by omega,by rw[e];decide⟩
 ·exact .inl ⟨by omega,by rw[e];decide⟩
 ·exact .inl ⟨by omega,by rw[e];decide⟩
 ·exact .inl ⟨by omega,by rw[e];decide⟩
 ·exact .inl ⟨by omega,by rw[e];decide⟩
 ·exact .inr ⟨e0,e⟩
 ·rw[e]at h;cases h
theorem jump_bytes (b c:UInt8):(jumpI (256*b.toNat+c.toNat)).fdiv 256%256=(b.toNat:Int)∧jumpI (256*b.toNat+c.toNat)%256=(c.toNat:Int):=by
 have hb:=b.toNat_lt
 have hc:=c.toNat_lt
 unfold jumpI
 rw[Int.fdiv_eq_ediv_of_nonneg _ (by decide)]
 split<;>omega
theorem num_bytes (b c:UInt8):(((256*b.toNat+c.toNat:Nat):Int)).fdiv 256%256=(b.toNat:Int)∧((256*b.toNat+c.toNat:Nat):Int)%256=(c.toNat:Int):=by
 have hb:=b.toNat_lt
 have hc:=c.toNat_lt
 rw[Int.fdiv_eq_ediv_of_nonneg _ (by decide)]
 omega
theorem putN_keep {o a b c ch:UInt8}{s:UInt8×UInt8×UInt8}(h:ch=97∨ch=98∨ch=99∨ch=110∨ch=100):putN (valI o a b c ch) s ch=keepS a b c s ch:=by
 have hb:∀ x:UInt8,byteI (x.toNat:Int)=x:=fun x=>byteI_eq (by have:=x.toNat_lt;omega)
 rcases h with rfl|rfl|rfl|rfl|rfl
 ·simp[putN,keepS,valI,hb]
 ·simp[putN,keepS,valI,hb]
 ·simp[putN,keepS,valI,hb]
 ·have:=num_bytes b c
  have e1:valI o a b c 110=((256*b.toNat+c.toNat:Nat):Int):=rfl
  rw[e1]
  unfold putN keepS
  rw[byteI_eq this.1,byteI_eq this.2];rfl
 ·have:=jump_bytes b c
  have e1:valI o a b c 100=jumpI (256*b.toNat+c.toNat):=rfl
  rw[e1]
  unfold putN keepS
  rw[byteI_eq this.1,byteI_eq this.2];rfl
theorem opT_chars8 {o:Nat}(ho:o<8):∀ ch∈(opT o).2.1,ch=97∨ch=98∨ch=99∨ch=110∨ch=100:=by
 have:∀ i:Fin 8,∀ ch∈(opT i.1).2.1,ch=97∨ch=98∨ch=99∨ch=110∨ch=100:=by decide
 exact this ⟨o,ho⟩
theorem numF_ins {o a b c:UInt8}{w nm:List UInt8}{k:Nat}(hk:k<nm.length):numF (w::nm.map fun ch=>Lib.itoa (valI o a b c ch)) (k+1)=valI o a b c nm[k]:=by
 unfold numF
 rw[List.getElem?_cons_succ,List.getElem?_map,List.getElem?_eq_getElem hk]
 have:=valI_bd o a b c nm[k]
 exact atoiV_itoa (by omega) (by omega)
theorem setsN_keep {o a b c:UInt8}{w nm:List UInt8}(h:∀ ch∈nm,ch=97∨ch=98∨ch=99∨ch=110∨ch=100):∀ {k:Nat},k≤nm.length→setsN (w::nm.map fun ch=>Lib.itoa (valI o a b c ch)) nm k=keepL (nm.take k) a b c
 | 0,_=>rfl
 | k+1,hk=>by
   rw[setsN,setsN_keep h (by omega),keepL_succ (by omega),numF_ins (by omega)]
   have e:nm.getD k 0=nm[k]:=by rw[List.getD_eq_getElem?_getD,List.getElem?_eq_getElem (by omega)];rfl
   rw[e]
   exact putN_keep (h _ (List.getElem_mem _))
theorem instrP_ins {o a b c:UInt8}(hd:decOk o a b c=true) (hp:plainOk o a b c=true):instrP (spl 32 (insL o a b c))=(o,a,b,c):=by
 rw[spl_insL]
 unfold decOk at hd
 rw[Bool.and_eq_true]at hd
 unfold plainOk at hp
 have hp:=of_decide_eq_true hp
 unfold instrP
 rcases opT_head hd.1 with ⟨h8,hne⟩|⟨h17,e⟩
 ·rw[if_neg (by simpa using hne)]
  show (match opOf (opT o.toNat).1 with|none=>_|some o'=>_)=_
  rw[opOf_word h8]
  show (UInt8.ofNat o.toNat,setsN _ (opT o.toNat).2.1 (opT o.toNat).2.1.length)=_
  rw[setsN_keep (opT_chars8 h8) (Nat.le_refl _),List.take_length,hp]
  simp
 ·rw[e]at hp ⊢
  have hp:((0:UInt8),(0:UInt8),(0:UInt8))=(a,b,c):=hp
  rw[if_pos (by rfl)]
  have hn:numF (callW::List.map (fun ch=>Lib.itoa (valI o a b c ch)) [107]) 1=((o-16).toNat:Int):=(numF_ins (w:=callW) (nm:=[107]) (k:=0) (by decide)).trans rfl
  show (byteI (16+numF (callW::List.map (fun ch=>Lib.itoa (valI o a b c ch)) [107]) 1),(0:UInt8),(0:UInt8),(0:UInt8))=_
  rw[hn]
  have h16:(o-16).toNat=o.toNat-16:=by
   rw[UInt8.toNat_sub_of_le _ _ (by rw[UInt8.le_iff_toNat_le];show 16≤o.toNat;omega)];rfl
  have h1:byteI (16+((o-16).toNat:Int))=o:=byteI_eq (by rw[h16];have:=o.toNat_lt;omega)
  rw[h1]
  exact congrArg (Prod.mk o) hp
def nibV (ch:UInt8):Nat:=(max (Lib.indexByte digL ch) 0).toNat
def bytesP:List UInt8→List UInt8
 | a::b::r=>UInt8.ofNat (16*nibV a+nibV b)::bytesP r
 | _=>[]
theorem nib_hex {n:UInt8}(h:n.toNat<16):nibV (hexB n)=n.toNat:=by
 have key:∀ n:Fin 16,nibV (hexB (UInt8.ofNat n.1))=n.1:=by decide
 have:=key ⟨n.toNat,h⟩
 simpa only[UInt8.ofNat_toNat]using this
theorem bytesP_hex:∀ w:List UInt8,bytesP (hexW w)=w
 | []=>rfl
 | x::w=>by
   have e:hexW (x::w)=hexB (x / 16)::hexB (x%16)::hexW w:=rfl
   rw[e,bytesP,bytesP_hex w,nib_hex (div_lt x),nib_hex (mod_lt x)]
   congr 1
   have h1:(x / 16).toNat=x.toNat / 16:=by rw[UInt8.toNat_div];rfl
   have h2:(x%16).toNat=x.toNat%16:=by rw[UInt8.toNat_mod];rfl
   rw[h1,h2,show 16*(x.toNat / 16)+x.toNat%16=x.toNat by omega,UInt8.ofNat_toNat]
theorem bytesP_len:∀ l:List UInt8,2*(bytesP l).length≤l.length
 | []=>by simp[bytesP]
 | [a]=>by simp[bytesP]
 | a::b::r=>by have:=bytesP_len r;simp only[bytesP,List.length_cons];omega
def lineB (l:List UInt8):List UInt8 :=
 if l=[] then [] else if (spl 32 l).head?=some rawW∧(spl 32 l).length=2 then bytesP ((spl 32 l).getD 1 [])
 else [(instrP (spl 32 l)).1,(instrP (spl 32 l)).2.1,(instrP (spl 32 l)).2.2.1,(instrP (spl 32 l)).2.2.2]
theorem hexW_no32 (w:List UInt8):(32:UInt8)∉hexW w:=by
 intro h
 obtain⟨x,_,hx⟩:=List.mem_flatMap.1 h
 simp only[List.mem_cons,List.not_mem_nil,or_false]at hx
 rcases hx with hx|hx
 ·exact hexB_no (div_lt x) (by decide) hx
 ·exact hexB_no (mod_lt x) (by decide) hx
theorem lineB_raw (w:List UInt8):lineB (rawL w)=w:=by
 have e:rawL w=rawW++32::hexW w:=rfl
 have hs:spl 32 (rawL w)=[rawW,hexW w]:=by rw[e,spl_app _ (by decide),spl_no (hexW_no32 w)]
 unfold lineB
 rw[hs,if_neg (by rw[e];simp[rawW]),if_pos ⟨rfl,rfl⟩]
 exact bytesP_hex w
theorem opT_word_raw {o:Nat}:(opT o).1≠rawW:=by
 rcases opT_cases o with ⟨_,e⟩|⟨_,e⟩|⟨_,e⟩|⟨_,e⟩|⟨_,e⟩|⟨_,e⟩|⟨_,e⟩|⟨_,e⟩|⟨_,e⟩|⟨_,e⟩<;>rw[e]<;>decide
theorem lineB_lineL (w:List UInt8):lineB (lineL w)=w:=by
 unfold lineL
 split
 ·rename_i o a b c
  split
  ·rename_i h
   rw[Bool.and_eq_true]at h
   have hd:=h.1
   unfold decOk at hd
   rw[Bool.and_eq_true]at hd
   unfold lineB
   rw[if_neg (insL_ne hd.1),if_neg,instrP_ins h.1 h.2]
   rintro⟨h1,_⟩
   rw[spl_insL]at h1
   simp only[List.head?_cons,Option.some.injEq]at h1
   exact opT_word_raw h1
  ·exact lineB_raw _
 ·exact lineB_raw _
def outP (s:List UInt8):List UInt8:=(spl 10 s).flatMap lineB
theorem chunks_all (p:List UInt8):∀ n,((List.range n).flatMap (chunk p))=p.take (4*n)
 | 0=>by simp
 | n+1=>by
   rw[List.range_succ,List.flatMap_append,chunks_all p n]
   simp only[List.flatMap_cons,List.flatMap_nil,List.append_nil]
   rw[show 4*(n+1)=4*n+4 by omega,List.take_add];rfl
theorem outP_textP (p:List UInt8):outP (textP p)=p:=by
 unfold outP
 rw[spl_textP,List.flatMap_append]
 have h0:[[]].flatMap lineB=[]:=rfl
 rw[h0,List.append_nil]
 unfold linesP
 rw[List.flatMap_map]
 have:(fun k=>lineB (lineL (chunk p k)))=chunk p:=by funext k;exact lineB_lineL _
 rw[this,chunks_all,List.take_of_length_le (by omega)]
theorem lineB_len (l:List UInt8):(lineB l).length≤2*(l.length+1):=by
 unfold lineB
 split
 ·simp
 ·rename_i h
  split
  ·have h1:=bytesP_len ((spl 32 l).getD 1 [])
   have h2:((spl 32 l).getD 1 []).length≤l.length:=by
    rw[List.getD_eq_getElem?_getD]
    cases he:(spl 32 l)[1]? with
    | none=>simp
    | some w=>exact spl_mem_len (List.mem_of_getElem? he)
   omega
  ·have:1≤l.length:=by cases l with|nil=>exact absurd rfl h|cons=>simp
   simp only[List.length_cons,List.length_nil];omega
theorem flat_lineB_len:∀ ls:List (List UInt8),(ls.flatMap lineB).length≤2*((ls.map List.length).sum+ls.length)
 | []=>by simp
 | l::ls=>by
   have:=flat_lineB_len ls
   have:=lineB_len l
   simp only[List.flatMap_cons,List.length_append,List.map_cons,List.sum_cons,List.length_cons];omega
theorem outP_len (s:List UInt8):(outP s).length≤2*(s.length+1):=by
 have h1:=flat_lineB_len (spl 10 s)
 have h2:=spl_sum 10 s
 unfold outP;omega
def codeOfP (s:List UInt8):List UInt8:=if textP (outP s)=s∧(outP s).length≤1024 then outP s else []
theorem codeOfP_textP {p:List UInt8}(h:p.length≤1024):codeOfP (textP p)=p:=by
 unfold codeOfP
 rw[outP_textP,if_pos ⟨rfl,h⟩]
end Go.Proofs.YtohjaacnlmkhbaaGreatDoor
