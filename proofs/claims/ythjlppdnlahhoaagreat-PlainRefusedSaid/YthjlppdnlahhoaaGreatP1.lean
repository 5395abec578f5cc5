/- THE PLAIN MACHINE's FUNCTIONS, walked (1). Conditions: none beyond each theorem's own. -/
import Derived.Test.YthjlppdnlahhoaaGreatZF
import Derived.Test.YthjlppdnlahhoaaGreatKV
set_option linter.unusedSimpArgs false
set_option linter.unusedVariables false
namespace Go.Ev
section
variable {E:Env}{t:TypeId}
theorem kU {k:IntKind}{j m:Nat}(h:j≤m):bound (.int k (j:Int)) m=some j:=by have h1:decide ((0:Int)≤(j:Int))=true:=decide_eq_true (by omega);have h2:decide ((j:Int)≤(m:Int))=true:=decide_eq_true (by omega);simp only[bound,h1,h2,dP,cond_true,vq]
theorem qL {k k':IntKind}{n c j:Nat}(h:j≤c):ia n c none (some (.int k (j:Int))) (some (.int k' (j:Int)))=some (0,j,j):=by simp only[ia,lO,iL,kU h,kU (aQ j)]
theorem jV {sz:Nat}{a:Addr}{n c j:Nat}{k k':IntKind}{K:Value→Prop}(hs:kq E t=some sz) (hz:sz≠0) (hc:c≠fb) (hj:j≤n) (hn:n≤c) (q:K (.slice (some a) j j)) :
  dW E t (.slice (some a) n c) none (some (.int k (j:Int))) (some (.int k' (j:Int))) K:=by
 unfold kq at hs
 split at hs
 ·rename_i e hu;have f2:Nat.beq c fb=false:=jn hc;have ha:a.add (0*sz)=a:=by simp[Addr.add]
  obtain⟨m,rfl⟩:∃ m,sz=m+1:=⟨sz-1,by omega⟩;have hv:(.slice (cond (Nat.beq j 0) (some a) ((some a).map (·.add (0*(m+1))))) (j-0) (j-0):Value)=.slice (some a) j j:=by rw[bS,ha];cases Nat.beq j 0<;>rfl
  by_cases hU:c=bh
  ·have f1:Nat.beq c bh=true:=by rw[hU];rfl
   simp only[dW,hX,hu,f1,f2,cond_false,cond_true,qL hj,hs,hv,bu];exact q
  ·have f1:Nat.beq c bh=false:=jn hU;simp only[dW,hX,hu,f1,f2,cond_false,qL (bO hj hn),hs,hv,bu];exact q
 ·cases hs
theorem qB {k:IntKind}{n c lo:Nat}(h:lo≤n):ia n c (some (.int k (lo:Int))) none none=some (lo,n,c):=by simp only[ia,lO,iL,kU h]
theorem kV {sz:Nat}{b off n c lo:Nat}{k:IntKind}{K:Value→Prop}(hs:kq E t=some sz) (hz:sz≠0) (hc:c≠fb) (hlo:lo≤n) (hn:n≤c)
  (q:∀ a' c',(lo<n→a'=some ⟨b,off+lo*sz,none⟩)→n-lo≤c'→(lo<n→c≤bh→c'≤bh)→K (.slice a' (n-lo) c')) :
  dW E t (.slice (some ⟨b,off,none⟩) n c) (some (.int k (lo:Int))) none none K:=by
 unfold kq at hs
 split at hs
 ·rename_i e hu;have f2:Nat.beq c fb=false:=jn hc;obtain⟨m,rfl⟩:∃ m,sz=m+1:=⟨sz-1,by omega⟩;have ha:((some (⟨b,off,none⟩:Addr)).map (·.add (lo*(m+1))))=some ⟨b,off+lo*(m+1),none⟩:=by simp[Addr.add]
  by_cases hU:c=bh
  ·have f1:Nat.beq c bh=true:=by rw[hU];rfl
   simp only[dW,hX,hu,f1,f2,cond_false,cond_true,qB hlo,hs,bu,ha];by_cases h0:lo=0;·subst h0;have e0:Nat.beq 0 0=true:=rfl;simp only[e0,cond_true];exact q _ _ (fun _=>by rw[dO,cj]) (by omega) (fun _ _=>aQ _)
   ·have e0:Nat.beq lo 0=false:=jn h0;simp only[e0,cond_false];by_cases h1:lo=n;·subst h1;have e1:Nat.beq lo lo=true:=db lo;simp only[e1,cond_true];have:=q (some ⟨b,off,none⟩) fb (fun h=>by omega) (by omega) (fun h=>by omega);rw[nH]at this;exact this
    ·have e1:Nat.beq lo n=false:=jn h1;simp only[e1,cond_false];exact q _ _ (fun _=>rfl) (by omega) (fun _ _=>aQ _)
  ·have f1:Nat.beq c bh=false:=jn hU;simp only[dW,hX,hu,f1,f2,cond_false,qB hlo,hs,bu,ha];refine q _ _ (fun h=>?_) (by omega) (fun _ h=>by omega);rw[jn (show c≠lo by omega)];rfl
 ·cases hs
end
end Go.Ev
namespace Go.Proofs.YthjlppdnlahhoaaGreat
open Go.Ev
set_option maxRecDepth 100000
set_option maxHeartbeats 4000000
def bZ (g:Nat):Value:=.int .i64 (g:Int)
def rG (B:Nat) (h:ak) (v:Value) (l:List Nat):Prop :=
 ∃ a c,v=.slice a l.length c∧l.length≤c∧(l≠[]→c≠fb∧∃ i o,a=some ⟨i,o,none⟩∧i<B∧av h (ad i o) l.length=some (l.map bZ))
theorem rG.ext {B:Nat}{h h':ak}{v:Value}{l:List Nat}(r:rG B h v l) (x:aw B h h'):rG B h' v l:=by obtain⟨a,c,e,hc,q⟩:=r;exact⟨a,c,e,hc,fun hl=>let ⟨u,i,o,e1,e2,e3⟩:=q hl;⟨u,i,o,e1,e2,aG x e2 e3⟩⟩
theorem rG.at_ {B:Nat}{h:ak}{a:Option Addr}{n c:Nat}{l:List Nat}(r:rG B h (.slice a n c) l) {k:Nat}(hk:k<l.length):∃ i o,a=some ⟨i,o,none⟩∧i<B∧cellAt h (ad i (o+k))=some (iv l[k]):=by obtain⟨a',c',e,hc,q⟩:=r;cases e;obtain⟨_,i,o,rfl,hi,hc⟩:=q (by intro e;rw[e]at hk;cases hk);exact⟨i,o,rfl,hi,dk hc (j:=k) (by rw[ie,bw hk];rfl)⟩
def Am (l:List Nat) (g:Nat):Int:=match l.findIdx? (·==g) with
 | some k=>(k:Int)
 | none=>-1
theorem OX {l:List Nat}{g k:Nat}(hk:k<l.length) (e:l[k]=g) (hp:∀ j (hj:j<l.length),j<k→l[j]≠g):Am l g=k:=by have:l.findIdx? (·==g)=some k:=qs.2 ⟨hk,by simpa using e,fun j hj=>by simpa using hp j ah hj⟩;simp only[Am,this]
theorem Kl {l:List Nat}{g:Nat}(hp:∀ j (hj:j<l.length),l[j]≠g):Am l g = -1:=by
 have:l.findIdx? (·==g)=none:=tO.2 fun x hx=>by obtain⟨j,hj,rfl⟩:=eU hx;simpa using hp j hj
 simp only[Am,this]
theorem BW {B:Nat}{v:Value}{l:List Nat}{g:Nat}{h:ak}{K:Value→ak→Prop}(r:rG B h v l) (hl:l.length≤100000) (hK:K (iv (Am l g)) h):cy env (.func 143) [v,iv g] h K:=by
 obtain⟨pa,pc,rfl,_⟩:=id r;refine F143 rfl ?_;refine wk ?_;refine aP (fun m fr' h''=>∃ k:Nat,k≤l.length∧m=l.length-k∧h''=h∧fr'.get 8=some (iv k)∧(∀ j (hj:j<l.length),j<k→l[j]≠g)) l.length ?_ ah ?_;·exact⟨0,ah,ah,rfl,aA,fun j _ hj=>ah⟩
 rintro m fr4 h'' ⟨k,hk,rfl,rfl,f8,hp⟩ hag;by_cases aT:k<l.length
 ·obtain⟨i,o,rfl,hi,hc⟩:=r.at_ aT;by_cases hg:l[k]=g;·rw[OX aT hg hp]at hK;have ww:=mW (aN @hc @bQ);refine wk ?_;exact hK
  ·have ww:=mW (aN @hc @bQ);refine wk ?_;exact⟨l.length-(k+1),ah,k+1,ah,rfl,by simp[T.aj,bC (show k≤4611686018427387904 by omega)],fun j hj hjk=>by
    by_cases e:j=k;·subst e;exact hg
    ·exact hp j hj ah⟩
 ·rw[Kl fun j hj=>hp j hj ah]at hK;refine wk ?_;exact hK
theorem Ro {l:List Nat}{g:Nat}:(0≤Am l g)↔g∈l:=by
 unfold Am;cases e:l.findIdx? (·==g) with
 | none =>
   have:=tO.1 e
   simp only
   exact⟨fun h=>ah,fun h=>by have:=this g h;simp at this⟩
 | some k =>
   obtain⟨hk,h1,_⟩:=qs.1 e
   simp only
   exact ⟨fun _ => by have:l[k]=g:=by simpa using h1
                      exact this▸bG hk,fun _=>ah⟩
theorem qP {B:Nat}{v:Value}{l:List Nat}{g:Nat}{h:ak}{K:Value→ak→Prop}(r:rG B h v l) (hl:l.length≤100000) (hK:K (.bool (decide (g∈l))) h):cy env (.func 112) [v,iv g] h K:=by
 obtain⟨pa,pc,rfl,_⟩:=id r;refine F112 rfl ?_;refine wk ?_;refine BW r hl ?_;have hm:=Ro (l:=l) (g:=g);by_cases hg:g∈l;·rw[decide_eq_true hg]at hK;have:=hm.2 hg;refine wk ?_;simpa[this]using hK
 ·rw[decide_eq_false hg]at hK;have:¬0≤Am l g:=fun h=>hg (hm.1 h);refine wk ?_;simpa[this]using hK
theorem rG.mono {B B':Nat}{h:ak}{v:Value}{l:List Nat}(r:rG B h v l) (hb:B≤B'):rG B' h v l:=by obtain⟨a,c,e,hc,q⟩:=r;exact⟨a,c,e,hc,fun hl=>let ⟨u,i,o,e1,e2,e3⟩:=q hl;⟨u,i,o,e1,ah,e3⟩⟩
theorem Gd:∀ {l:List Nat}{g k:Nat}(hk:k<l.length),l[k]=g→(∀ j (hj:j<l.length),j<k→l[j]≠g)→l.erase g=l.take k++l.drop (k+1)
 | [],_,_,hk,_,_=>by simp at hk
 | x::l,g,0,_,e,_=>by simp only[hJ]at e;subst e;simp
 | x::l,g,k+1,hk,e,hp=>by have h0:x≠g:=hp 0 an ah;rw[List.erase_cons_tail (by simpa using h0),Gd (k:=k) (by simpa using hk) (by simpa using e) fun j hj hjk=>by have:=hp (j+1) (by simpa using hj) ah;simpa using this];rfl
theorem IN (l:List Nat) (g:Nat):(Am l g = -1∧g∉l)∨∃ k,∃ hk:k<l.length,Am l g=k∧l[k]=g∧∀ j (hj:j<l.length),j<k→l[j]≠g:=by
 unfold Am;cases e:l.findIdx? (·==g) with
 | none =>
   have:=tO.1 e
   exact .inl ⟨rfl,fun h=>by have:=this g h;simp at this⟩
 | some k =>
   obtain⟨hk,h1,h2⟩:=qs.1 e
   exact .inr ⟨k,hk,rfl,by simpa using h1,fun j hj hjk=>by simpa using h2 j hjk⟩
theorem AL (l:List Nat):(l.map bZ).all aE=true:=by rw[dX];intro x hx;obtain⟨y,_,rfl⟩:=bD.1 hx;rfl
theorem rG.own {B:Nat}{h:ak}{v:Value}{l:List Nat}(o:bT B h 3 v l.length (l.map bZ)) (hN:l.length≤100000):rG h.n h v l:=by
 generalize hc:l.map bZ=cs at o;generalize hn:l.length=n at o;cases o with
 | nil=>exact⟨_,_,by rw[hn],ah,fun hl=>absurd (dq.1 hn) hl⟩
 | emp i hi=>exact⟨_,_,by rw[hn],ah,fun hl=>absurd (dq.1 hn) hl⟩
 | row i n cs h1 h2 h3=>exact⟨_,_,by rw[hn],by unfold bh;omega,fun hl=>⟨ao,i,0,rfl,h2,aq h2 h3 (by rw[← hc,← aI (f:=bZ),eh,iF]) an⟩⟩
theorem rG.first {B:Nat}{h:ak}{v:Value}{l:List Nat}(r:rG B h v l) (h0:l.length≠0):firstCells h 1 l.length v=some (l.map bZ):=by obtain⟨a,c,rfl,_,q⟩:=r;obtain⟨_,i,o,rfl,_,q⟩:=q fun e=>h0 (by rw[e];rfl);simp only[firstCells,bQ];exact q
theorem JL {p:Nat}{h:ak}{K:Value→ak→Prop}(hp:p<8) (hK:K (.int .u8 ((2 ^ p:Nat):Int)) h):cy env (.func 69) [iv p] h K:=by refine F69 rfl ?_;rcases p with _|_|_|_|_|_|_|_|p;all_goals first
   | omega
   | ((repeat' (first|(with_reducible show gV _ (rg _ _) _ _ _;first|with_reducible refine Ef ?_)|(with_reducible show lW _ _ _;first|with_reducible refine CJ ?_|with_reducible refine CS ?_|with_reducible refine wN (fun _=>?_) (fun _=>?_))|(with_reducible show _∧_;first|with_reducible refine CU ?_|with_reducible refine CN ?_|with_reducible refine Ea ?_)|(with_reducible show jQ _ _ _ _ _;first|with_reducible refine C1 ?_)|(with_reducible show vX _ _ _ _ _ _ _;first|with_reducible refine C9 ?_)|(with_reducible show yb _ _ _ _;first|with_reducible refine Du ?_)|(with_reducible show lU _ _ _ _;first|with_reducible refine C0 ?_)|(with_reducible show eR _ _ _;first|with_reducible refine Dd ?_|with_reducible refine Ei ?_)|(with_reducible show de (cellAt _ _) _;first|with_reducible refine Cz ?_|with_reducible refine C_ ?_|with_reducible refine DZ ?_)|(with_reducible show de (av _ _ _) _;first|with_reducible refine BZ ?_|with_reducible refine D1 ?_)|simp -dsimp only[↓ww.o,↓WB,WP,WS,bE,Nat.reduceEqDiff,Nat.reduceAdd]|simp -dsimp only[↓WB,WP,WS,bE,Nat.reduceEqDiff,Nat.reduceAdd]|(with_reducible show dJ _ _ _ _ _;refine DU ?_)|simp -dsimp (disch:=(first|with_reducible assumption|(with_reducible refine hag _ ?_;rfl)|(with_reducible show _<_;omega))) only [CP,DX,CI,D7]|simp -dsimp (disch:=(first|with_reducible assumption|(with_reducible refine hag _ ?_;rfl)|(with_reducible show _<_;omega))) only [Dz,cL,p_,List.getElem?_cons_zero,List.getElem?_cons_succ]|simp -dsimp (disch:=(first|with_reducible assumption|(with_reducible show _<_;omega)|(with_reducible show GetElem?.getElem? _ _=_;with_unfolding_all rfl)|(with_reducible show List.length _=_;with_unfolding_all rfl))) only [DM,qp]|simp -dsimp (disch:=(conv=>lhs;cbv)) only [Dl]))
      exact hK)
theorem TS:∀ p,p<8→∀ s,s<256→(IntKind.u8.wrap ((BitVec.ofInt IntKind.u8.bits (s:Nat) &&& BitVec.ofInt IntKind.u8.bits (2 ^ p:Nat)).toNat:Nat)=0↔s.testBit p=false):=by decide +kernel
theorem Zl:∀ p,p<8→∀ s,s<256→IntKind.u8.wrap ((BitVec.ofInt IntKind.u8.bits (s:Nat) ||| BitVec.ofInt IntKind.u8.bits (2 ^ p:Nat)).toNat:Nat)=((s ||| 2 ^ p:Nat):Int):=by decide +kernel
theorem CV {s p:Nat}{h:ak}{K:Value→ak→Prop}(hp:p<8) (hs:s<256) (hK:K (.bool (s.testBit p)) h):cy env (.func 130) [.int .u8 (s:Int),iv p] h K:=by
 refine F130 rfl ?_;refine wk ?_;refine JL hp ?_;have hb:=TS p hp s hs;cases ht:s.testBit p with
 | false =>
   rw[ht]at hK
   have hb0:=hb.2 ht
   have ww:=mW @hb0
   refine wk ?_
   all_goals first|exact hK|omega
 | true =>
   rw[ht]at hK
   have hb0:¬_:=fun e=>by have:=hb.1 e;rw[ht]at this;cases this
   refine wk ?_
   all_goals first|exact hK|(rename_i e;exact absurd e hb0)
theorem P8 {s p:Nat}{h:ak}{K:Value→ak→Prop}(hp:p<8) (hs:s<256) (hK:K (.int .u8 ((s ||| 2 ^ p:Nat):Int)) h):cy env (.func 39) [.int .u8 (s:Int),iv p] h K:=by refine F39 rfl ?_;refine wk ?_;refine JL hp ?_;have hb:=Zl p hp s hs;have ww:=mW (aN @Nz @hb);refine wk ?_;exact hK
theorem KF:∀ k,k<8→((2 ^ k-1) ||| 2 ^ k)=2 ^ (k+1)-1:=by decide
theorem Ug:∀ k,k≤8→2 ^ k-1<256:=ao
theorem vW {n:Nat}{h:ak}{K:Value→ak→Prop}(hn:n≤8) (hK:K (.int .u8 ((2 ^ n-1:Nat):Int)) h):cy env (.func 23) [iv n] h K:=by
 refine F23 rfl ?_;have m1:max (n:Int) 0=n:=ah;have m2:min (n:Int) 8=n:=ah;have ww:=mW (aN @m1 @m2);refine wk ?_;refine aP (fun m fr' h''=>∃ k:Nat,k≤n∧m=n-k∧h''=h∧fr'.get 8=some (iv k)∧fr'.get 3=some (.int .u8 ((2 ^ k-1:Nat):Int))) n ?_ ah ?_;·exact⟨0,ah,ah,rfl,aA,aA⟩
 rintro m fr4 h'' ⟨k,hk,rfl,rfl,f8,f3⟩ hag;by_cases aT:k<n;·refine wk ?_;refine P8 ah (Ug k ah) ?_;rw[KF k ah];refine wk ?_;exact⟨n-(k+1),ah,k+1,ah,rfl,by simp[T.aj,bC (show k≤4611686018427387904 by omega)],aA⟩
 ·obtain rfl:k=n:=ah;refine wk ?_;exact hK
def Qy (l:List Nat):Int:=match l with
 | []=>-1
 | g::_=>(g:Int)
theorem J6 {B:Nat}{v:Value}{l:List Nat}{h:ak}{K:Value→ak→Prop}(r:rG B h v l) (hl:l.length≤100000) (hK:K (iv (Qy l)) h):cy env (.func 97) [v] h K:=by
 obtain⟨pa,pc,rfl,_⟩:=id r;refine F97 rfl ?_;cases l with
 | nil =>
   refine wk ?_
   exact hK
 | cons g l =>
   obtain⟨i,o,rfl,hi,hc⟩:=r.at_ (k:=0) an
   simp only[hJ,cj]at hc
   have ww:=mW (aN (aN @dn.{0} @hc) (aN @dO @cj))
   refine wk ?_
   all_goals first|exact hK|omega
structure RF where
 am:Int
 at_:Int
def RF.cells (x:RF):List Value:=[.int .u64 x.am,.int .u64 x.at_]
def NW (B:Nat) (h:ak) (v:Value) (l:List RF):Prop:=∃ a c,v=.slice a l.length c∧l.length≤c∧iz B h a 2 (l.map RF.cells)
theorem NW.ext {B:Nat}{h h':ak}{v:Value}{l:List RF}(r:NW B h v l) (x:aw B h h'):NW B h' v l:=by obtain⟨a,c,e,hc,q⟩:=r;exact⟨a,c,e,hc,q.ext x⟩
theorem NW.at_ {B:Nat}{h:ak}{a:Option Addr}{n c:Nat}{l:List RF}(r:NW B h (.slice a n c) l) {k:Nat}(hk:k<l.length) :
  ∃ i o,a=some ⟨i,o,none⟩∧i<B∧av h (ad i (o+k*2)) 2=some [uv l[k].am,uv l[k].at_]:=by
 obtain⟨a',c',e,_,q⟩:=r
 cases e
 obtain⟨i,o,e1,e2,e3⟩:=q k (by simpa using hk)
 refine⟨i,o,e1,e2,?_⟩
 rw[e3,dr];rfl
def nO (now:Int) (n:Int) (l:List RF):Int:=l.foldl (fun n r=>if r.at_≤now then IntKind.wrap .u64 (n+r.am) else n) n
theorem BU {B:Nat}{v:Value}{l:List RF}{now:Int}{h:ak}{K:Value→ak→Prop}(r:NW B h v l) (hB:B≤h.n) (hl:l.length≤100000) (hK:∀ h',aw h.n h h'→K (uv (nO now 0 l)) h'):cy env (.func 73) [v,uv now] h K:=by
 obtain⟨pa,pc,rfl,_⟩:=id r;refine F73 rfl ?_;refine wk ?_;refine aP (fun m fr' h''=>∃ k:Nat,k≤l.length∧m=l.length-k∧aw h.n h h''∧fr'.get 9=some (iv k)∧fr'.get 4=some (uv (nO now 0 (l.take k)))) l.length ?_ ah ?_;·exact⟨0,ah,ah,aw.refl _ _,aA,by simp[T.aj,nO]⟩
 rintro m fr4 h2 ⟨k,hk,rfl,X,f9,f4⟩ hag;have e4:=bf f4;have n2:=X.n;by_cases aT:k<l.length
 ·obtain⟨i,o,rfl,hi,hc⟩:=(r.ext (X.mono hB)).at_ aT;have hs:nO now 0 (l.take (k+1))=if l[k].at_≤now then IntKind.wrap .u64 (nO now 0 (l.take k)+l[k].am) else nO now 0 (l.take k):=by rw[kx aT];simp only[nO,List.foldl_append,wI,List.foldl_nil]
  by_cases ha:l[k].at_≤now;·rw[if_pos ha]at hs;have ww:=mW @hc;refine wk ?_;exact⟨l.length-(k+1),ah,k+1,ah,rfl,X.trans (aw.new _ n2),by simp[T.aj,bC (show k≤4611686018427387904 by omega)],by simp[T.aj,hs]⟩
  ·rw[if_neg ha]at hs;have ww:=mW @hc;refine wk ?_;exact⟨l.length-(k+1),ah,k+1,ah,rfl,X.trans (aw.new _ n2),by simp[T.aj,bC (show k≤4611686018427387904 by omega)],by simp[T.aj,hs,f4]⟩
 ·obtain rfl:k=l.length:=ah;rw[iF]at f4 e4;refine wk ?_;exact hK _ X
structure KD where
 id:Int
 ab:Int
 g:Int
 slot:Int
 kind:Int
 oi:Int
 og:Int
 ri:Int
def KD.cells (x:KD):List Value:=[.int .i64 x.id,.int .i64 x.ab,.int .i64 x.g,.int .i64 x.slot,.int .i64 x.kind,.int .i64 x.oi,.int .u64 x.og,.int .u8 x.ri]
def tU (g s:Int) (x:KD):Bool:=decide (x.g=g)&&decide (x.slot=s)
theorem Li {x:KD}{b1 b2:Nat}{g s:Int}{h:ak}{K:Value→ak→Prop}(l1:b1<h.n) (l2:b2<h.n) (c1:cellAt h (ad b1 0)=some (iv g)) (c2:cellAt h (ad b2 0)=some (iv s))
  (hK:∀ h',aw h.n h h'→K (.bool (tU g s x)) h'):cy env (.func 100) [.agg ⟨x.cells⟩,pt b1 0,pt b2 0] h K:=by
 refine F100 rfl ?_
 have X:aw h.n h (ai h (.cells [iv x.id,iv x.ab,iv x.g,iv x.slot,iv x.kind,iv x.oi,uv x.og,.int .u8 x.ri] 135 true)):=br
 have d1:=aD X l1 c1
 have d2:=aD X l2 c2
 simp only[KD.cells]
 by_cases e1:x.g=g
 ·by_cases e2:x.slot=s
  ·have:tU g s x=true:=by simp[tU,e1,e2]
   rw[this]at hK;refine wk ?_;all_goals first|exact hK _ X|omega
  ·have:tU g s x=false:=by simp[tU,e2]
   rw[this]at hK;refine wk ?_;all_goals first|exact hK _ X|omega
 ·have:tU g s x=false:=by simp[tU,e1]
  rw[this]at hK;refine wk ?_;all_goals first|exact hK _ X|omega
def Om (B:Nat) (h:ak) (v:Value) (l:List KD):Prop:=∃ a c,v=.slice a l.length c∧l.length≤c∧iz B h a 8 (l.map KD.cells)
theorem Om.ext {B:Nat}{h h':ak}{v:Value}{l:List KD}(r:Om B h v l) (x:aw B h h'):Om B h' v l:=by obtain⟨a,c,e,hc,q⟩:=r;exact⟨a,c,e,hc,q.ext x⟩
theorem Om.at_ {B:Nat}{h:ak}{a:Option Addr}{n c:Nat}{l:List KD}(r:Om B h (.slice a n c) l) {k:Nat}(hk:k<l.length) :
  ∃ i o,a=some ⟨i,o,none⟩∧i<B∧av h (ad i (o+k*8)) 8=some l[k].cells:=by
 obtain⟨a',c',e,_,q⟩:=r
 cases e
 obtain⟨i,o,e1,e2,e3⟩:=q k (by simpa using hk)
 refine⟨i,o,e1,e2,?_⟩
 rw[e3,dr]
def ko (l:List KD) (g s:Int):Int:=match l.findIdx? (tU g s) with
 | some k=>(k:Int)
 | none=>-1
theorem Lh {l:List KD}{g s:Int}{k:Nat}(hk:k<l.length) (e:tU g s l[k]=true) (hp:∀ j (hj:j<l.length),j<k→tU g s l[j]=false):ko l g s=k:=by have:l.findIdx? (tU g s)=some k:=qs.2 ⟨hk,e,fun j hj=>by rw[hp j ah hj];simp⟩;simp only[ko,this]
theorem Jg {l:List KD}{g s:Int}(hp:∀ j (hj:j<l.length),tU g s l[j]=false):ko l g s = -1:=by
 have:l.findIdx? (tU g s)=none:=tO.2 fun x hx=>by obtain⟨j,hj,rfl⟩:=eU hx;exact hp j hj
 simp only[ko,this]
theorem G0 {B:Nat}{v:Value}{l:List KD}{b1 b2:Nat}{g s:Int}{h:ak}{K:Value→ak→Prop}(r:Om B h v l) (hB:B≤h.n) (hl:l.length≤100000) (l1:b1<h.n) (l2:b2<h.n)
   (c1:cellAt h (ad b1 0)=some (iv g)) (c2:cellAt h (ad b2 0)=some (iv s)) (hK:∀ h',aw h.n h h'→K (iv (ko l g s)) h') :
   cy env (.func 99) [v,.func (.func 100) #[] #[pt b1 0,pt b2 0]] h K:=by
 obtain⟨pa,pc,rfl,_⟩:=id r
 refine F99 rfl ?_
 refine wk ?_
 refine aP (fun m fr' h''=>∃ k:Nat,k≤l.length∧m=l.length-k∧aw h.n h h''∧fr'.get 8=some (iv k)∧(∀ j (hj:j<l.length),j<k→tU g s l[j]=false)) l.length ?_ ah ?_
 · exact⟨0,ah,ah,aw.refl _ _,aA,fun j _ hj=>ah⟩
 rintro m fr4 h2 ⟨k,hk,rfl,X,f8,hp⟩ hag
 have n2:=X.n
 by_cases aT:k<l.length
 · obtain⟨i,o,rfl,hi,hc⟩:=(r.ext (X.mono hB)).at_ aT;have ww:=mW @hc;refine wk ?_;refine Li ah ah (aD X l1 c1) (aD X l2 c2) fun h3 X3=>?_;have XX:=X.trans (X3.mono n2);cases hl:tU g s l[k]with
   | false =>refine wk ?_;exact⟨l.length-(k+1),ah,k+1,ah,rfl,XX,by simp[T.aj,bC (show k≤4611686018427387904 by omega)],fun j hj hjk=>by
       by_cases e:j=k;· subst e;exact hl
       · exact hp j hj ah⟩
   | true =>refine wk ?_;have:=hK _ XX;rw[Lh aT hl hp]at this;exact this
 · refine wk ?_;have:=hK _ X;rw[Jg fun j hj=>hp j hj ah]at this;exact this
theorem Rh {B bm:Nat}{v:Value}{l:List KD}{g s:Int}{h:ak}{K:Value→ak→Prop}(hm:cellAt h (ad bm 23)=some v) (hbm:bm<h.n) (r:Om B h v l) (hB:B≤h.n) (hl:l.length≤100000)
  (hK:∀ h',aw h.n h h'→K (iv (ko l g s)) h'):cy env (.func 53) [pt bm 0,iv g,iv s] h K:=by
 obtain⟨pa,pc,rfl,_⟩:=id r
 refine F53 rfl ?_
 have X1:aw h.n h (ai h (.cells [.int .i64 g] 3 true)):=br
 have d1:cellAt (ai h (.cells [.int .i64 g] 3 true)) ⟨h.n,0,none⟩=some (.int .i64 g):=bI
 have n1:(ai h (.cells [.int .i64 g] 3 true)).n=h.n+1:=rfl
 have X2:aw (h.n+1) (ai h (.cells [.int .i64 g] 3 true)) (ai (ai h (.cells [.int .i64 g] 3 true)) (.cells [.int .i64 s] 3 true)):=br
 have d2:cellAt (ai (ai h (.cells [.int .i64 g] 3 true)) (.cells [.int .i64 s] 3 true)) ⟨h.n+1,0,none⟩=some (.int .i64 s):=bI
 have d1':=aD X2 (cK _) d1
 have X:=X1.trans (X2.mono (aL h.n))
 have hm':=aD X hbm hm
 have n2:(ai (ai h (.cells [.int .i64 g] 3 true)) (.cells [.int .i64 s] 3 true)).n=h.n+1+1:=rfl
 refine wk ?_
 refine G0 (r.ext (X.mono hB)) ah hl ah ah d1' d2 fun h3 X3=>?_
 refine wk ?_
 exact hK _ (X.jI X3)
theorem RF.one (l:List RF):((l.map RF.cells).flatten).all aE=true:=by rw[dX];intro x hx;obtain⟨y,hy,hx⟩:=r_.1 hx;obtain⟨z,_,rfl⟩:=bD.1 hy;simp only[RF.cells,cM,lF,or_false]at hx;rcases hx with rfl|rfl<;>rfl
theorem RF.len (l:List RF):((l.map RF.cells).flatten).length=l.length*2:=by rw[gU (sz:=2) _ (by simp[RF.cells])];simp
theorem Fa {B n:Nat}{h:ak}{e:TypeId}{v:Value}{cs:List Value}(o:bT B h e v n cs):∀ {a:Option Addr}{c:Nat},v=.slice a n c→n≤bh→n≤c:=by
 cases o with
 | nil=>intro a c _ _;omega
 | emp i hi=>intro a c _ _;omega
 | row i n cs h1 h2 h3=>intro a c e hn;cases e;exact hn
theorem NW.first {B:Nat}{h:ak}{v:Value}{l:List RF}(r:NW B h v l) (h0:l.length≠0):firstCells h 2 l.length v=some (l.map RF.cells).flatten:=by obtain⟨a,c,rfl,_,q⟩:=r;obtain⟨b,off,rfl,_,e⟩:=iz.cells q (by simp[RF.cells]) ao (by simpa using fun e=>h0 (by rw[e];rfl));simp only[firstCells];rw[aI]at e;exact e
structure TD where
 at_:Int
 id:Int
def TD.cells (x:TD):List Value:=[.int .u64 x.at_,.int .i64 x.id]
def MG (B:Nat) (h:ak) (v:Value) (l:List TD):Prop:=∃ a c,v=.slice a l.length c∧l.length≤c∧iz B h a 2 (l.map TD.cells)
theorem MG.ext {B:Nat}{h h':ak}{v:Value}{l:List TD}(r:MG B h v l) (x:aw B h h'):MG B h' v l:=by obtain⟨a,c,e,hc,q⟩:=r;exact⟨a,c,e,hc,q.ext x⟩
theorem MG.at_ {B:Nat}{h:ak}{a:Option Addr}{n c:Nat}{l:List TD}(r:MG B h (.slice a n c) l) {k:Nat}(hk:k<l.length) :
  ∃ i o,a=some ⟨i,o,none⟩∧i<B∧av h (ad i (o+k*2)) 2=some [uv l[k].at_,iv l[k].id]:=by
 obtain⟨a',c',e,_,q⟩:=r
 cases e
 obtain⟨i,o,e1,e2,e3⟩:=q k (by simpa using hk)
 refine⟨i,o,e1,e2,?_⟩
 rw[e3,dr];rfl
theorem TD.one (l:List TD):((l.map TD.cells).flatten).all aE=true:=by rw[dX];intro x hx;obtain⟨y,hy,hx⟩:=r_.1 hx;obtain⟨z,_,rfl⟩:=bD.1 hy;simp only[TD.cells,cM,lF,or_false]at hx;rcases hx with rfl|rfl<;>rfl
theorem TD.len (l:List TD):((l.map TD.cells).flatten).length=l.length*2:=by rw[gU (sz:=2) _ (by simp[TD.cells])];simp
theorem MG.own {B:Nat}{h:ak}{v:Value}{l:List TD}(o:bT B h 137 v l.length (l.map TD.cells).flatten) (hN:l.length≤100000):MG h.n h v l:=by obtain⟨a,c,e,r⟩:=bT.rowAt (sz:=2) o (by simp[TD.cells]) an;rw[aI]at e;have hc:l.length≤c:=Fa o e (by unfold bh;omega);exact⟨a,c,e,hc,r⟩
theorem MG.first {B:Nat}{h:ak}{v:Value}{l:List TD}(r:MG B h v l) (h0:l.length≠0):firstCells h 2 l.length v=some (l.map TD.cells).flatten:=by obtain⟨a,c,rfl,_,q⟩:=r;obtain⟨b,off,rfl,_,e⟩:=iz.cells q (by simp[TD.cells]) ao (by simpa using fun e=>h0 (by rw[e];rfl));simp only[firstCells];rw[aI]at e;exact e
end Go.Proofs.YthjlppdnlahhoaaGreat
namespace Pl
structure PD where
 ring:List Nat
 next:List Nat
 runs:List Nat
 left:Int
 turns:Int
deriving DecidableEq
def PD.q (p:PD):List Nat:=p.runs++(p.next++p.ring)
def PD.Bl (p:PD) (g:Nat):Nat:=p.runs.count g+(p.next.count g+p.ring.count g)
def mU (ps:List PD) (g:Nat):Nat:=(ps.map (·.Bl g)).sum
def dS (all:List Nat) (ps:List PD) (g:Nat):Nat:=all.count g+mU ps g
theorem ni:∀ {ps:List PD}{p:Nat}(hp:p<ps.length) (x:PD) (g:Nat),mU (ps.set p x) g+ps[p].Bl g=mU ps g+x.Bl g
 | [],_,hp,_,_=>by simp at hp
 | y::ps,0,_,x,g=>by simp only[Bf,mU,dT,lE,hJ];omega
 | y::ps,p+1,hp,x,g=>by have:=ni (ps:=ps) (p:=p) (by simpa using hp) x g;simp only[mU]at this;simp only[List.set_cons_succ,mU,dT,lE,sT];omega
theorem lX:∀ {ps:List PD}{p:Nat}(hp:p<ps.length) (g:Nat),ps[p].Bl g≤mU ps g
 | [],_,hp,_=>by simp at hp
 | y::ps,0,_,g=>by simp only[mU,dT,lE,hJ];omega
 | y::ps,p+1,hp,g=>by have:=lX (ps:=ps) (p:=p) (by simpa using hp) g;simp only[mU]at this;simp only[mU,dT,lE,sT];omega
def kO (Ring:Nat) (all:List Nat) (ps:List PD) (p g:Nat):List Nat×List PD :=
 match ps[p]? with
 | none=>(all,ps)
 | some x=>if x.ring.length<Ring then (all,ps.set p { x with ring:=x.ring++[g] })
   else (all++x.ring.take ((Ring+1) / 2)++[g],ps.set p { x with ring:=x.ring.drop ((Ring+1) / 2) })
theorem tr {Ring:Nat}{all:List Nat}{ps:List PD}{p g:Nat}:(kO Ring all ps p g).2.length=ps.length:=by
 unfold kO;split;·rfl
 ·split<;>simp
theorem EL {Ring:Nat}{all:List Nat}{ps:List PD}{p g:Nat}(hp:p<ps.length) (x:Nat) :
  dS (kO Ring all ps p g).1 (kO Ring all ps p g).2 x=dS all ps x+(if x=g then 1 else 0):=by
 have e:ps[p]?=some ps[p]:=bw hp
 have one:([g]:List Nat).count x=if x=g then 1 else 0:=by
  by_cases h:x=g;·subst h;simp
  ·rw[if_neg h,pe];simpa using h
 unfold kO
 rw[e]
 simp only
 split
 ·have:=ni hp { ps[p]with ring:=ps[p].ring++[g] } x;simp only[PD.Bl,hI,one]at this;simp only[dS];omega
 ·have:=ni hp { ps[p]with ring:=ps[p].ring.drop ((Ring+1) / 2) } x;have h2:(ps[p].ring.take ((Ring+1) / 2)).count x+(ps[p].ring.drop ((Ring+1) / 2)).count x=ps[p].ring.count x:=by rw[← hI,iE]
  simp only[PD.Bl]at this;simp only[dS,hI,one];omega
def sG (Ring:Nat):List Nat→List Nat×List PD→Nat→List Nat×List PD
 | [],s,_=>s
 | g::l,s,p=>sG Ring l (kO Ring s.1 s.2 p g) p
def iT (Ring:Nat) (all:List Nat) (ps:List PD) (p:Nat):List Nat×List PD :=
 match ps[p]? with
 | none=>(all,ps)
 | some x=>sG Ring x.next (all,ps.set p { x with next:=[] }) p
theorem Cp {Ring p:Nat}:∀ {l:List Nat}{s:List Nat×List PD},p<s.2.length→∀ x,dS (sG Ring l s p).1 (sG Ring l s p).2 x=dS s.1 s.2 x+l.count x∧(sG Ring l s p).2.length=s.2.length
 | [],s,_,x=>by simp[sG]
 | g::l,s,hp,x=>by
   have h:=Cp (Ring:=Ring) (p:=p) (l:=l) (s:=kO Ring s.1 s.2 p g) (by rw[tr];exact hp) x;rw[EL hp x,tr]at h;simp only[sG,h.2,and_true];rw[h.1,List.count_cons];by_cases e:x=g;· subst e;simp;omega
   · have:(g==x)=false:=by simpa using fun h:g=x=>e h.symm
     simp only[this,if_neg e];simp
theorem MI {Ring:Nat}{all:List Nat}{ps:List PD}{p:Nat}(hp:p<ps.length) (x:Nat) :
  dS (iT Ring all ps p).1 (iT Ring all ps p).2 x=dS all ps x∧(iT Ring all ps p).2.length=ps.length:=by
 have e:ps[p]?=some ps[p]:=bw hp
 unfold iT
 rw[e]
 simp only
 have h:=Cp (Ring:=Ring) (p:=p) (l:=ps[p].next) (s:=(all,ps.set p { ps[p]with next:=[] })) (by simpa using hp) x
 have:=ni hp { ps[p]with next:=[] } x
 simp only[PD.Bl,pA]at this
 simp only[cS]at h
 refine⟨?_,h.2⟩
 rw[h.1]
 simp only[dS]
 omega
def dR (g:Nat) (x:PD):PD:={ x with next:=x.next.erase g,ring:=x.ring.erase g }
def cO (all:List Nat) (ps:List PD) (g:Nat):List Nat×List PD:=(all.erase g,ps.map (dR g))
theorem lD (l:List Nat) (g x:Nat):(l.erase g).count x=if x=g then l.count x-1 else l.count x:=by
 by_cases e:x=g;·subst e;rw[if_pos rfl,List.count_erase_self]
 ·rw[if_neg e,List.count_erase_of_ne e]
theorem Ko (g x:Nat) (y:PD):(dR g y).Bl x≤y.Bl x∧(x≠g→(dR g y).Bl x=y.Bl x):=by simp only[dR,PD.Bl,lD];refine⟨?_,fun h=>by rw[if_neg h,if_neg h]⟩;split<;>omega
theorem tI (y:PD) (ps:List PD) (g:Nat):mU (y::ps) g=y.Bl g+mU ps g:=by simp only[mU,dT,lE]
theorem uQ (g x:Nat):∀ {ps:List PD},mU (ps.map (dR g)) x≤mU ps x∧(x≠g→mU (ps.map (dR g)) x=mU ps x)
 | []=>by simp[mU]
 | y::ps=>by have ih:=uQ g x (ps:=ps);have hy:=Ko g x y;rw[dT,tI,tI];exact⟨by omega,fun h=>by have:=ih.2 h;have:=hy.2 h;omega⟩
theorem Sj {ps:List PD}{g:Nat}(h:mU ps g≤1):∀ p∈ps,p.next.count g≤1∧p.ring.count g≤1:=by intro p hp;obtain⟨i,hi,rfl⟩:=eU hp;have:=lX hi g;simp only[PD.Bl]at this;omega
def vJ (ps:List PD) (g:Nat):Nat:=(ps.map (·.runs.count g)).sum
theorem Jb (y:PD) (ps:List PD) (g:Nat):vJ (y::ps) g=y.runs.count g+vJ ps g:=by simp only[vJ,dT,lE]
theorem xY (g:Nat):∀ {ps:List PD},(∀ p∈ps,p.next.count g≤1∧p.ring.count g≤1)→mU (ps.map (dR g)) g=vJ ps g
 | [],_=>rfl
 | y::ps,h=>by have ih:=xY g (ps:=ps) fun p hp=>h p (fU _ hp);have hy:=h y eZ;rw[dT,tI,Jb,ih];simp only[dR,PD.Bl,lD,if_true];omega
def dF:List PD→Nat→Option Nat
 | [],_=>none
 | p::ps,g=>if p.runs.contains g then some 0 else (dF ps g).map (·+1)
theorem lI:∀ {ps:List PD}{g p:Nat},dF ps g=some p→∃ h:p<ps.length,g∈ps[p].runs
 | [],_,_,e=>by simp[dF]at e
 | y::ps,g,p,e=>by
   simp only[dF]at e;split at e;· rename_i hc;obtain rfl:0=p:=gY e;exact⟨by simp,by simpa using hc⟩
   · obtain⟨q,hq,rfl⟩:=aY.1 e;obtain⟨h1,h2⟩:=lI hq;exact⟨by simpa using h1,by simpa using h2⟩
theorem ya:∀ {ps:List PD}{g:Nat},dF ps g=none→vJ ps g=0
 | [],_,_=>rfl
 | y::ps,g,e=>by
   simp only[dF]at e;split at e;· cases e
   · rename_i hc;have ih:=ya (ps:=ps) (g:=g) (by simpa using e);have:y.runs.count g=0:=pe.2 (by simpa using hc);simp only[vJ]at ih ⊢;simp only[dT,lE,this,ih]
def JH (ps:List PD) (p:Nat):List PD:=match ps[p]? with
 | none=>ps
 | some y=>ps.set p { y with runs:=[] }
def my (all:List Nat) (ps:List PD) (g:Nat):List Nat×List PD :=
 ((cO all ps g).1,match dF (cO all ps g).2 g with
   | none=>(cO all ps g).2
   | some p=>JH (cO all ps g).2 p)
theorem FG {ps:List PD}{g x:Nat}:vJ (ps.map (dR g)) x=vJ ps x:=by simp only[vJ,th];rfl
theorem Uo {all:List Nat}{ps:List PD}{g:Nat}(h1:∀ x,dS all ps x≤1) (hr:∀ p∈ps,p.runs.length≤1) (x:Nat) :
   dS (my all ps g).1 (my all ps g).2 x=if x=g then 0 else dS all ps x:=by
 have ha:=h1 x
 have hg:=h1 g
 simp only[dS]at ha hg
 have lv:=uQ g x (ps:=ps)
 have l1:=xY g (ps:=ps) (Sj (by omega))
 have lg:=(uQ g g (ps:=ps)).1
 simp only[my,dS,cO,lD]
 cases he:dF (ps.map (dR g)) g with
 | none =>
   have h0:=ya he
   simp only
   by_cases hx:x=g
   · subst hx;rw[if_pos rfl,if_pos rfl,l1,← FG (g:=x),h0];omega
   · rw[if_neg hx,if_neg hx,lv.2 hx]
 | some p =>
   obtain⟨hp,hm⟩:=lI he
   have hp':p<ps.length:=by simpa using hp
   have e:(ps.map (dR g))[p]?=some (ps.map (dR g))[p]:=bw hp
   simp only[JH,e]
   have cs:=ni hp { (ps.map (dR g))[p]with runs:=[] } x
   have cl:=lX hp g
   simp only[PD.Bl,pA]at cs cl
   have hrun:(ps.map (dR g))[p].runs=ps[p].runs:=by simp[dR]
   have hl:=hr _ (bG hp')
   have hone:(ps.map (dR g))[p].runs=[g]:=by
     rw[hrun]at hm ⊢;match hq:ps[p].runs with
     | []=>rw[hq]at hm;cases hm
     | [y]=>rw[hq]at hm;simp at hm;rw[hm]
     | y::z::l=>rw[hq]at hl;simp at hl
   rw[hone]at cs cl
   by_cases hx:x=g
   · subst hx;rw[if_pos rfl,if_pos rfl];simp only[List.count_singleton_self]at cs cl;omega
   · rw[if_neg hx,if_neg hx];have:([g]:List Nat).count x=0:=pe.2 (by simpa using hx);rw[this]at cs;have:=lv.2 hx;omega
end Pl
namespace Go.Proofs.YthjlppdnlahhoaaGreat
open Go.Ev
open Pl
set_option maxRecDepth 100000
set_option maxHeartbeats 400000
def fT (v:Value) (j:Nat):Prop:=∃ a n c,v=.slice (some a) n c∧a.block=j∧n≠0
def Cl (O:Nat→Prop) (v:Value):Prop:=∃ a n c,v=.slice a n c∧c≤bh∧(a=none→c=0)∧(∀ j,fT v j→¬O j)∧∀ x,a=some x→x.spot=none
structure Kp (O O':Nat→Prop) (h h':ak):Prop where
 n:h.n≤h'.n
 get:∀ j,j<h.n→¬O j→h'.b.get j=h.b.get j
 own:∀ j,j<h.n→O' j→O j
theorem Kp.refl (O:Nat→Prop) (h:ak):Kp O O h h:=⟨aQ _,fun _ _ _=>rfl,fun _ _ o=>o⟩
theorem Kp.trans {O O1 O2:Nat→Prop}{h h1 h2:ak}(a:Kp O O1 h h1) (b:Kp O1 O2 h1 h2):Kp O O2 h h2 :=
 ⟨bO a.n b.n,fun j hj ho=>by rw[b.get j (bX hj a.n) fun o1=>ho (a.own j hj o1),a.get j hj ho],fun j hj o2=>a.own j hj (b.own j (bX hj a.n) o2)⟩
theorem Kp.ext {O:Nat→Prop}{h h':ak}(x:aw h.n h h'):Kp O O h h':=⟨x.n,fun j hj _=>x.get j hj,fun _ _ o=>o⟩
theorem Kp.new {O:Nat→Prop}{h:ak}{k:iY}:Kp O O h (ai h k):=.ext br
theorem lL {b off n:Nat}{h h':ak}{l:List Value}(hn:h.n≤h'.n) (e:h'.b.get b=h.b.get b) (hc:av h ⟨b,off,none⟩ n=some l):av h' ⟨b,off,none⟩ n=some l:=by
 unfold av at hc ⊢;cases hz:Nat.beq n 0 with
 | true=>rw[hz]at hc;exact hc
 | false =>
   rw[hz]at hc
   simp only[cond_false]at hc ⊢
   rw[e]
   by_cases aT:b<h.n
   · have:b<h'.n:=bX aT hn;simp only[blt_eq,aT,this,decide_true,cond_true]at hc ⊢;exact hc
   · simp[blt_eq,aT]at hc
theorem Cl.kp {O O':Nat→Prop}{h h':ak}{v:Value}(c:Cl O v) (k:Kp O O' h h') (hb:∀ j,fT v j→j<h.n):Cl O' v:=by obtain⟨a,n,c,e,h1,h2,h3,h4⟩:=c;exact⟨a,n,c,e,h1,h2,fun j bj o=>h3 j bj (k.own j (hb j bj) o),h4⟩
theorem Cl.fresh {O:Nat→Prop}{N:Nat}{a:Option Addr}{n c:Nat}(hc:c≤bh) (h0:a=none→c=0) (hO:∀ j,O j→j<N) (hb:∀ x,a=some x→N≤x.block∧x.spot=none):Cl O (.slice a n c) :=
 ⟨a,n,c,rfl,hc,h0,fun j ⟨x,_,_,e,ej,_⟩ o=>by cases e;have:=(hb x rfl).1;have:=hO j o;omega,fun x e=>(hb x e).2⟩
abbrev okE (e:TypeId) (t:Bool):Prop:=e≠46∧(e=38→t=false)
def NE (h:ak) (j:Nat):Prop:=∃ cs e t,h.b.get j=some (.cells cs e t)∧okE e t
theorem NE.get {h h':ak}{j:Nat}(n:NE h j) (e:h'.b.get j=h.b.get j):NE h' j:=by obtain⟨cs,t,u,g,ne⟩:=n;exact⟨cs,t,u,e.trans g,ne⟩
theorem bkp {O O':Nat→Prop}{h h':ak}{v:Value}(c:Cl O v) (k:Kp O O' h h') (hb:∀ j,fT v j→j<h.n∧NE h j):∀ j,fT v j→j<h'.n∧NE h' j:=fun j bj=>by obtain⟨_,_,_,_,_,_,h3,_⟩:=c;exact⟨bX (hb j bj).1 k.n,(hb j bj).2.get (k.get j (hb j bj).1 (h3 j bj))⟩
structure RI (O:Nat→Prop) (h:ak) (v:Value) (l:List Nat):Prop where
 r:rG h.n h v l
 c:Cl O v
 b:∀ j,fT v j→j<h.n∧NE h j
theorem rG.kp {O O':Nat→Prop}{h h':ak}{v:Value}{l:List Nat}(r:rG h.n h v l) (c:Cl O v) (k:Kp O O' h h'):rG h'.n h' v l:=by obtain⟨a,c',e,hc,q⟩:=r;obtain⟨_,_,_,_,_,_,h3,_⟩:=c;refine⟨a,c',e,hc,fun hl=>let ⟨u,i,o,e1,e2,e3⟩:=q hl;⟨u,i,o,e1,bX e2 k.n,lL k.n (k.get i e2 (h3 i ⟨_,_,_,by rw[e,e1],rfl,fun e=>hl (dq.1 e)⟩)) e3⟩⟩
theorem RI.kp {O O':Nat→Prop}{h h':ak}{v:Value}{l:List Nat}(r:RI O h v l) (k:Kp O O' h h'):RI O' h' v l:=⟨r.r.kp r.c k,r.c.kp k fun j bj=>(r.b j bj).1,bkp r.c k r.b⟩
theorem O8 {O O':Nat→Prop}{h h':ak}{a:Option Addr}{sz c:Nat}{rows:List (List Value)}(r:iz h.n h a sz rows) (cl:Cl O (.slice a rows.length c)) (k:Kp O O' h h'):iz h'.n h' a sz rows:=fun i hi=>by obtain⟨b,off,e1,e2,e3⟩:=r i hi;obtain⟨_,_,_,_,_,_,h3,_⟩:=cl;exact⟨b,off,e1,bX e2 k.n,lL k.n (k.get b e2 (h3 b ⟨_,_,_,by rw[e1],rfl,by intro e;omega⟩)) e3⟩
structure RS (O:Nat→Prop) (sz:Nat) (h:ak) (v:Value) (rows:List (List Value)):Prop where
 r:∃ a c,v=.slice a rows.length c∧rows.length≤c∧iz h.n h a sz rows
 c:Cl O v
 b:∀ j,fT v j→j<h.n∧NE h j
theorem RS.kp {O O':Nat→Prop}{sz:Nat}{h h':ak}{v:Value}{rows:List (List Value)}(r:RS O sz h v rows) (k:Kp O O' h h'):RS O' sz h' v rows:=by obtain⟨⟨a,c,rfl,hc,q⟩,cl,hb⟩:=r;exact⟨⟨a,c,rfl,hc,O8 q cl k⟩,cl.kp k fun j bj=>(hb j bj).1,bkp cl k hb⟩
theorem RS.F {O:Nat→Prop}{h:ak}{v:Value}{l:List RF}(r:RS O 2 h v (l.map RF.cells)):NW h.n h v l:=by obtain⟨a,c,e,hc,q⟩:=r.r;rw[aI]at e hc;exact⟨a,c,e,hc,q⟩
theorem RS.T {O:Nat→Prop}{h:ak}{v:Value}{l:List TD}(r:RS O 2 h v (l.map TD.cells)):MG h.n h v l:=by obtain⟨a,c,e,hc,q⟩:=r.r;rw[aI]at e hc;exact⟨a,c,e,hc,q⟩
theorem aU {a:Option Addr}{n c j:Nat}:fT (.slice a n c) j↔∃ x,a=some x∧x.block=j∧n≠0 :=
 ⟨fun ⟨x,_,_,e,h⟩=>by cases e;exact⟨x,rfl,h⟩,fun ⟨x,e,h⟩=>⟨x,n,c,by rw[e],h⟩⟩
theorem tJ {O:Nat→Prop}{B n:Nat}{h:ak}{e:TypeId}{v:Value}{cs:List Value}(o:bT B h e v n cs) (hO:∀ j,O j→j<B) (he:e≠46:=by decide):Cl O v∧∀ j,fT v j→j<h.n∧NE h j:=by
 cases o with
 | nil=>exact⟨⟨_,_,_,rfl,ao,fun _=>rfl,(fun j bj=>by obtain ⟨x,e,_⟩:=aU.1 bj;cases e),(fun x e=>by cases e)⟩,fun j bj=>by obtain ⟨x,e,_⟩:=aU.1 bj;cases e⟩
 | emp i hi=>exact⟨⟨_,_,_,rfl,ao,fun _=>rfl,(fun j bj=>by obtain ⟨x,e,_,h⟩:=aU.1 bj;exact absurd rfl h),(fun x e=>by cases e;rfl)⟩,fun j bj=>by obtain ⟨x,e,_,h⟩:=aU.1 bj;exact absurd rfl h⟩
 | row i n cs h1 h2 h3=>exact⟨  .fresh a_ (fun e=>by cases e) hO fun x e=>by cases e;exact⟨h1,rfl⟩,fun j bj=>by obtain ⟨x,e,rfl,_⟩:=aU.1 bj;cases e;exact⟨h2,_,_,_,h3,he,fun _=>rfl⟩⟩
structure RR where
 i:Int
 g:Int
deriving DecidableEq
def RR.cells (r:RR):List Value:=[.int .i64 r.i,.int .u64 r.g]
structure GD where
 st:Int
 su:Bool
 gG:RR
 ctx:RR
 jF:Nat
 prog:Int
 pc:Int
 r0:Int
 r1:Int
 r2:Int
 r3:Int
 r4:Int
 r5:Int
 r6:Int
 r7:Int
 code:Int
 til:Int
def GD.cells (x:GD):List Value:=[.int .i64 x.st,.bool x.su,.int .i64 x.gG.i,.int .u64 x.gG.g,.int .i64 x.ctx.i,.int .u64 x.ctx.g,.int .u8 (x.jF:Int),.int .i64 x.prog,.int .i64 x.pc,
 .int .u64 x.r0,.int .u64 x.r1,.int .u64 x.r2,.int .u64 x.r3,.int .u64 x.r4,.int .u64 x.r5,.int .u64 x.r6,.int .u64 x.r7,.int .i64 x.code,.int .u64 x.til]
structure SD where
 par:RR
 gs:Int
 x_:Int
 ee:Int
 own:Int
 used:Int
def SD.cells (x:SD):List Value:=[.int .i64 x.par.i,.int .u64 x.par.g,.int .i64 x.gs,.int .u64 x.x_,.int .u64 x.ee,.int .i64 x.own,.int .u64 x.used]
structure XW where
 iP:Int
 ee:Int
 ref:Value
 dH:Int
def XW.cells (x:XW):List Value:=[.int .u64 x.iP,.int .u64 x.ee,x.ref,.int .i64 x.dH]
structure XD where
 iP:Int
 ee:Int
 ref:List RF
 dH:Int
structure Ob (α:Type) where
 gen:Nat
 is:Bool
 x:α
def Ob.cells {α:Type}(f:α→List Value) (o:Ob α):List Value:=.int .u64 (o.gen:Int)::.bool o.is::f o.x
structure PW where
 ring:Value
 next:Value
 runs:Value
 left:Int
 turns:Int
def PW.cells (x:PW):List Value:=[x.ring,x.next,x.runs,.int .i64 x.left,.int .u64 x.turns]
structure xO where
 ps:Nat
 ring:Nat
 gs:Nat
 gO:Nat
 ir:Nat
 nodes:Nat
 bP:Nat
 refs:Nat
 fm:Nat
 slice:Nat
 x_:Int
 ee:Int
 iP:Int
 each:Int
 cG:List (List UInt8)
structure LD where
 seq:Int
 time:Int
 gi:Int
 gg:Int
 p:Int
 kind:Int
 a0:Int
 a1:Int
 a2:Int
 a3:Int
 a4:Int
 code:Int
def LD.cells (x:LD):List Value:=[.int .u64 x.seq,.int .u64 x.time,.int .i64 x.gi,.int .u64 x.gg,.int .i64 x.p,.int .i64 x.kind,.int .u64 x.a0,.int .u64 x.a1,.int .u64 x.a2,.int .u64 x.a3,.int .u64 x.a4,.int .i64 x.code]
structure MD where
 cfg:xO
 now:Nat
 aX:Nat
 gs:List (Ob GD)
 fg:List Nat
 cl:List (Ob XD)
 fc:List Nat
 sh:List (Ob SD)
 fs:List Nat
 ax:List KD
 cw:Nat
 ps:List PD
 all:List Nat
 tm:List TD
 log:List LD
 calls:Nat
structure Ad where
 m:Nat
 g:Nat
 c:Nat
 s:Nat
 p:Nat
structure VD where
 cG:Value
 fg:Value
 fc:Value
 fs:Value
 ax:Value
 all:Value
 tm:Value
 log:Value
 ps:List PW
 cl:List (Ob XW)
def own (a:Ad) (V:VD) (j:Nat):Prop:=j=a.m∨j=a.g∨j=a.c∨j=a.s∨j=a.p∨fT V.fg j∨fT V.fc j∨fT V.fs j∨fT V.ax j
def sl (b n:Nat):Value:=.slice (some ⟨b,0,none⟩) n n
def cL (a:Ad) (V:VD) (M:MD):List Value:=[.int .i64 (M.cfg.ps:Int),.int .i64 (M.cfg.ring:Int),.int .i64 (M.cfg.gs:Int),.int .i64 (M.cfg.gO:Int),.int .i64 (M.cfg.ir:Int),.int .i64 (M.cfg.nodes:Int),.int .i64 (M.cfg.bP:Int),.int .i64 (M.cfg.refs:Int),.int .i64 (M.cfg.fm:Int),.int .i64 (M.cfg.slice:Int),
 .int .u64 M.cfg.x_,.int .u64 M.cfg.ee,.int .u64 M.cfg.iP,.int .u64 M.cfg.each,V.cG,.int .u64 (M.now:Int),.int .i64 (M.aX:Int),sl a.g M.gs.length,V.fg,sl a.c M.cl.length,V.fc,sl a.s M.sh.length,V.fs,V.ax,.int .i64 (M.cw:Int),sl a.p M.ps.length,V.all,V.tm,V.log,.int .u64 (M.calls:Int)]
def Fr (h:ak) (v:Value) (l:List Nat):Prop:=(∀ j,fT v j→j<h.n)∧∃ a c,v=.slice a l.length c∧(l≠[]→∃ i r t,a=some ⟨i,0,none⟩∧h.b.get i=some (.cells (l.map bZ++r) 3 t))∧((c=l.length∧(∀ x,a=some x→x.off=0∧x.spot=none))∨(c=bh∧l≠[]∧∃ i,a=some ⟨i,0,none⟩∧h.b.get i=some (.cells (l.map bZ) 3 false)))
def Kc (h:ak) (v:Value) (l:List KD):Prop:=∃ a c,v=.slice a l.length c∧l.length≤c∧c≠fb∧(a=none→c=0)∧(∀ x,a=some x→x.block<h.n)∧(l≠[]→∃ i r t,a=some ⟨i,0,none⟩∧h.b.get i=some (.cells ((l.map KD.cells).flatten++r) 135 t))
structure IY (O:Nat→Prop) (h:ak) (w:PW) (x:PD):Prop where
 ring:RI O h w.ring x.ring
 next:RI O h w.next x.next
 runs:RI O h w.runs x.runs
 left:w.left=x.left
 turns:w.turns=x.turns
structure Eg (O:Nat→Prop) (h:ak) (w:Ob XW) (x:Ob XD):Prop where
 gen:w.gen=x.gen
 is:w.is=x.is
 iP:w.x.iP=x.x.iP
 ee:w.x.ee=x.x.ee
 dH:w.x.dH=x.x.dH
 ref:RS O 2 h w.x.ref (x.x.ref.map RF.cells)
def RB (O:Nat→Prop) (h:ak) (v:Value) (l:List UInt8):Prop:=RS O 1 h v (l.map fun b=>[bK b])
structure St (a:Ad) (V:VD) (h:ak) (M:MD):Prop where
 lt:∀ j,own a V j→j<h.n
 cZ:h.b.get a.m=some (.cells (cL a V M) 98 true)
 gs:∃ t,h.b.get a.g=some (.cells (M.gs.map (Ob.cells GD.cells)).flatten 125 t)
 cl:∃ t,h.b.get a.c=some (.cells (V.cl.map (Ob.cells XW.cells)).flatten 127 t)
 sh:∃ t,h.b.get a.s=some (.cells (M.sh.map (Ob.cells SD.cells)).flatten 129 t)
 ps:∃ t,h.b.get a.p=some (.cells (V.ps.map PW.cells).flatten 113 t)
 fg:Fr h V.fg M.fg
 fc:Fr h V.fc M.fc
 fs:Fr h V.fs M.fs
 ux:(∀ j,fT V.fg j→¬fT V.fc j)∧(∀ j,fT V.fg j→¬fT V.fs j)∧(∀ j,fT V.fc j→¬fT V.fs j)
 ax:Kc h V.ax M.ax
 all:RI (own a V) h V.all M.all
 tm:RS (own a V) 2 h V.tm (M.tm.map TD.cells)
 log:RS (own a V) 12 h V.log (M.log.map LD.cells)
 xU:V.ps.length=M.ps.length
 xR:∀ p (h1:p<V.ps.length) (h2:p<M.ps.length),IY (own a V) h V.ps[p] M.ps[p]
 Bv:V.cl.length=M.cl.length
 Af:∀ p (h1:p<V.cl.length) (h2:p<M.cl.length),Eg (own a V) h V.cl[p] M.cl[p]
 pr:∃ vs:List Value,RS (own a V) 1 h V.cG (vs.map fun v=>[v])∧vs.length=M.cfg.cG.length∧∀ i (h1:i<vs.length) (h2:i<M.cfg.cG.length),RB (own a V) h vs[i] M.cfg.cG[i]
end Go.Proofs.YthjlppdnlahhoaaGreat
