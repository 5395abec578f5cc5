/- THE PLAIN MACHINE's FUNCTIONS, walked (5). Conditions: none beyond each theorem's own. -/
import Derived.Test.YthjlppdnlahhoaaGreatP4
import Derived.Test.YthjlppdnlahhoaaGreatP3
set_option linter.unusedSimpArgs false
set_option linter.unusedVariables false
namespace Go.Proofs.YthjlppdnlahhoaaGreat
open Go.Ev
open Pl
set_option maxRecDepth 100000
set_option maxHeartbeats 4000000
inductive FR (N:Nat) (h:ak):Value→List RF→Prop
 | nil:FR N h (.slice none 0 0) []
 | row {i:Nat}{l:List RF}(hN:N≤i) (hi:i<h.n) (hb:h.b.get i=some (.cells (l.map RF.cells).flatten 103 false)) (hl:l≠[]):FR N h (.slice (some ⟨i,0,none⟩) l.length bh) l
 | lit {i:Nat}{l:List RF}(hN:N≤i) (hi:i<h.n) (hb:h.b.get i=some (.cells (l.map RF.cells).flatten 103 true)) (hl:l≠[]):FR N h (.slice (some ⟨i,0,none⟩) l.length l.length) l
theorem FR.iS {N:Nat}{h:ak}{v:Value}{l:List RF}(o:bT N h 103 v l.length (l.map RF.cells).flatten) (hl:l≠[]):FR N h v l:=by
 generalize hc:(l.map RF.cells).flatten=cs at o;generalize hn:l.length=n at o;cases o with
 | nil=>exact absurd (dq.1 hn) hl
 | emp i hi=>exact absurd (dq.1 hn) hl
 | row i n cs h1 h2 h3=>subst hn hc;exact .row h1 h2 h3 hl
theorem FR.ext {N:Nat}{h h':ak}{v:Value}{l:List RF}(r:FR N h v l) (x:aw h.n h h'):FR N h' v l:=by
 cases r with
 | nil=>exact .nil
 | row h1 h2 h3 h4=>exact .row h1 (bX h2 x.n) ((x.get _ h2).trans h3) h4
 | lit h1 h2 h3 h4=>exact .lit h1 (bX h2 x.n) ((x.get _ h2).trans h3) h4
theorem RF.hf:∀ x:RF,x.cells.length=2:=fun _=>rfl
theorem FR.first {N:Nat}{h:ak}{v:Value}{l:List RF}(r:FR N h v l):firstCells h 2 l.length v=some (l.map RF.cells).flatten:=by
 cases r with
 | nil=>rfl
 | row h1 h2 h3 h4=>exact aq h2 h3 (by rw[eh,← RF.len,iF]) (RF.len l)
 | lit h1 h2 h3 h4=>exact aq h2 h3 (by rw[eh,← RF.len,iF]) (RF.len l)
theorem FR.rs {O:Nat→Prop}{N:Nat}{h:ak}{v:Value}{l:List RF}(r:FR N h v l) (hO:∀ j,O j→j<N) (hl:l.length≤100000):RS O 2 h v (l.map RF.cells):=by
 have at_:∀ {i:Nat}{t:Bool},i<h.n→h.b.get i=some (.cells (l.map RF.cells).flatten 103 t)→iz h.n h (some ⟨i,0,none⟩) 2 (l.map RF.cells):=fun {i t} hi hb k hk=>by rw[aI]at hk;refine⟨i,0,rfl,hi,?_⟩;rw[cb,dr];exact dC (j:=0) (n:=2) (sz:=2) hb hi RF.hf hk ao
 cases r with
 | nil=>exact⟨⟨none,0,rfl,aQ _,fun i hi=>by simp at hi⟩,⟨_,_,_,rfl,ao,fun _=>rfl,(fun j bj=>by obtain ⟨x,e,_⟩:=aU.1 bj;cases e),(fun x e=>by cases e)⟩,fun j bj=>by obtain ⟨x,e,_⟩:=aU.1 bj;cases e⟩
 | row h1 h2 h3 h4=>exact⟨⟨_,_,by rw[aI],by rw[aI];unfold bh;omega,at_ h2 h3⟩,.fresh a_ (fun e=>by cases e) hO (fun x e=>by cases e;exact⟨h1,rfl⟩),fun j bj=>by obtain ⟨x,e,rfl,_⟩:=aU.1 bj;cases e;exact⟨h2,_,_,_,h3,ao⟩⟩
 | lit h1 h2 h3 h4=>exact⟨⟨_,_,by rw[aI],by rw[aI];exact aQ _,at_ h2 h3⟩,.fresh (by unfold bh;omega) (fun e=>by cases e) hO (fun x e=>by cases e;exact⟨h1,rfl⟩),fun j bj=>by obtain ⟨x,e,rfl,_⟩:=aU.1 bj;cases e;exact⟨h2,_,_,_,h3,ao⟩⟩
theorem FR.mono {N N':Nat}{h:ak}{v:Value}{l:List RF}(r:FR N h v l) (hn:N'≤N):FR N' h v l:=by
 cases r with
 | nil=>exact .nil
 | row h1 h2 h3 h4=>exact .row ah h2 h3 h4
 | lit h1 h2 h3 h4=>exact .lit ah h2 h3 h4
theorem FR.set {N i:Nat}{h:ak}{v:Value}{l:List RF}{k:iY}(r:FR N h v l) (hi:i<N):FR N { h with b:=h.b.set i k } v l:=by
 cases r with
 | nil=>exact .nil
 | row h1 h2 h3 h4=>exact .row h1 h2 ((T.aR _ _ ah).trans h3) h4
 | lit h1 h2 h3 h4=>exact .lit h1 h2 ((T.aR _ _ ah).trans h3) h4
theorem FR.len {N:Nat}{h:ak}{v:Value}{l:List RF}(r:FR N h v l):lenOf v=some l.length:=by
 cases r with
 | nil=>rfl
 | row h1 h2 h3 h4=>rfl
 | lit h1 h2 h3 h4=>rfl
theorem FR.app {N j:Nat}{h:ak}{v:Value}{l:List RF}{x:RF}{K:Value→ak→Prop}(r:FR N h v l) (hN:N≤h.n) (hj:j=h.n) (hl:l.length≤5000)
   (k:∀ v' h',FR N h' v' (l++[x])→aw N h h'→h.n<h'.n→K v' h'):iK 103 2 v (.slice (some ⟨j,0,none⟩) 1 1) (ai h (.cells x.cells 103 true)) K:=by
 have fin:∀ v' h',bT N h' 103 v' (l.length+1) ((l.map RF.cells).flatten++x.cells)→aw N h h'→h.n<h'.n→K v' h':=fun v' h' o x' hn=>k v' h' (.iS (by rw[fo,jA,dA];simpa using o) an) x' hn
 subst hj
 cases r with
 | nil =>
   refine yD ((bT.nil (B:=N) (e:=103) (h:=h)).new _) (bO hN (aL _)) rfl (m:=1) rfl ao ah (new:=x.cells) (by simp only[firstCells,fk];exact aV rfl) rfl rfl ao fun v' h' o' x' n'=>fin v' h' o' ((aw.new _ hN).trans x') (by rw[n',bE];omega)
 | @row i _ h1 h2 h3 h4 =>
   refine yD ((bT.row (B:=N) (e:=103) (h:=h) i l.length _ h1 h2 h3).new _) (bO hN (aL _)) (RF.len l) (m:=1) rfl ao ah (new:=x.cells) (by simp only[firstCells,fk];exact aV rfl) rfl rfl ao fun v' h' o' x' _=>fin v' h' o' ((aw.new _ hN).trans x') (by have:=x'.n;simp only[bE]at this;omega)
 | @lit i _ h1 h2 h3 h4 =>
   have X:aw h.n h (ai h (.cells x.cells 103 true)):=br
   refine jL (n:=l.length) (m:=1) (new:=x.cells) (cs:=(l.map RF.cells).flatten) ah (fun e=>by cases e) ?_ rfl ao ao (by simp only[firstCells,fk];exact aV rfl) rfl ?_
   · exact nJ X h2 (FR.first (.lit h1 h2 h3 h4))
   · exact fin _ _ (.row _ _ _ (by show N≤h.n+1;omega) (by simp[ai]) (az _ _)) ((aw.new _ hN).trans (aw.new _ (by show N≤h.n+1;omega))) (by simp[ai];omega)
def nd (now:Int) (l:List RF):Nat:=(l.filter fun r=>decide (r.at_≤now)).length
theorem VI (now:Int) (l:List RF) (x:RF):nd now (l++[x])=nd now l+(if x.at_≤now then 1 else 0):=by
 simp only[nd,u_,dA];by_cases h:x.at_≤now;·rw[zU (by simpa using h),if_pos h];rfl
 ·rw[uZ (by simpa using h),if_neg h];rfl
theorem CK {O:Nat→Prop}{v:Value}{l:List RF}{now less:Int}{h:ak}{K:Value→ak→Prop}(r:RS O 2 h v (l.map RF.cells)) (hl:l.length≤5000)
   (hK:∀ v' l' h',FR h.n h' v' l'→aw h.n h h'→l'.length+(if nd now l=0 then 0 else 1)≤l.length+1→(less=0→l'.length≤l.length)→K v' h'):cy env (.func 78) [v,uv now,uv less] h K:=by
 have rf:=r.F
 obtain⟨pa,pc,rfl,_⟩:=id rf
 refine F78 rfl ?_
 refine wk ?_
 have X1:aw h.n h (ai h (.cells [uv 0,uv 0] 103 true)):=br
 have g1:(ai h (.cells [uv 0,uv 0] 103 true)).b.get h.n=some (.cells [uv 0,uv 0] 103 true):=az _ _
 have n1:(ai h (.cells [uv 0,uv 0] 103 true)).n=h.n+1:=rfl
 generalize ai h (.cells [uv 0,uv 0] 103 true)=h1 at X1 g1 n1 ⊢
 refine aP (fun m fr' h''=>∃ (k:Nat) (L:List RF) (lv:Value) (am at':Int),k≤l.length∧m=l.length-k∧fr'.get 13=some (iv k)∧fr'.get 6=some lv∧FR (h.n+1) h'' lv L∧L.length+nd now (l.take k)=k∧(nd now (l.take k)=0→am=0)∧h''.b.get h.n=some (.cells [uv am,uv at'] 103 true)∧aw h.n h h''∧h.n<h''.n) l.length ?_ ah ?_
 · exact⟨0,[],nS,0,0,ah,ah,aA,aA,.nil,by simp[nd],fun _=>rfl,g1,X1,ah⟩
 rintro m fr2 h2 ⟨k,L,lv,am,at',hk,rfl,f13,f6,o2,hL,ham,g2,X2,n2⟩ hag
 have e13:=bf f13
 have e6:=bf f6
 have b1:=jP (hag 1 rfl)
 have b2:=jP (hag 2 rfl)
 have b7:=jP (hag 7 rfl)
 have b11:=jP (hag 11 rfl)
 have b12:=jP (hag 12 rfl)
 by_cases aT:k<l.length
 · have hts:l.take (k+1)=l.take k++[l[k]]:=kx aT;have hns:=VI now (l.take k) l[k];rw[← hts]at hns;obtain⟨i,o,rfl,hi,hc⟩:=(rf.ext X2).at_ aT;have g3:(ai h2 (.cells [uv l[k].am,uv l[k].at_] 103 true)).b.get h.n=some (.cells [uv am,uv at'] 103 true):=(aK _ n2).trans g2;have c3:=ay (off:=0) (by show h.n<h2.n+1;omega) g3 rfl;have X3:aw h2.n h2 (ai h2 (.cells [uv l[k].am,uv l[k].at_] 103 true)):=br;by_cases hd:l[k].at_≤now;· rw[if_pos hd]at hns;(repeat' (first|(with_reducible show gV _ (rg _ _) _ _ _;first|with_reducible refine Ef ?_)|(with_reducible show lW _ _ _;first|with_reducible refine CJ ?_|with_reducible refine CS ?_|with_reducible refine wN (fun _=>?_) (fun _=>?_))|(with_reducible show _∧_;first|with_reducible refine CU ?_|with_reducible refine CN ?_|with_reducible refine Ea ?_)|(with_reducible show jQ _ _ _ _ _;first|with_reducible refine C1 ?_)|(with_reducible show vX _ _ _ _ _ _ _;first|with_reducible refine C9 ?_)|(with_reducible show yb _ _ _ _;first|with_reducible refine Du ?_)|(with_reducible show lU _ _ _ _;first|with_reducible refine C0 ?_)|(with_reducible show eR _ _ _;first|with_reducible refine Dd ?_|with_reducible refine Ei ?_)|(with_reducible show de (cellAt _ _) _;first|with_reducible refine Cz ?_|with_reducible refine C_ ?_|with_reducible refine DZ ?_)|(with_reducible show de (av _ _ _) _;first|with_reducible refine BZ ?_|with_reducible refine D1 ?_)|simp -dsimp only[↓ww.o,↓WB,WP,WS,bE,Nat.reduceEqDiff,Nat.reduceAdd]|simp -dsimp only[↓WB,WP,WS,bE,Nat.reduceEqDiff,Nat.reduceAdd,↓e13,↓e6,↓b1,↓b2,↓b7,↓b11,↓b12,hc,c3]|(with_reducible show dJ _ _ _ _ _;refine DU ?_)|simp -dsimp (disch:=(first|with_reducible assumption|(with_reducible refine hag _ ?_;rfl)|(with_reducible show _<_;omega))) only [CP,DX,CI,D7]|simp -dsimp (disch:=(first|with_reducible assumption|(with_reducible refine hag _ ?_;rfl)|(with_reducible show _<_;omega))) only [Dz,cL,p_,List.getElem?_cons_zero,List.getElem?_cons_succ]|simp -dsimp (disch:=(first|with_reducible assumption|(with_reducible show _<_;omega)|(with_reducible show GetElem?.getElem? _ _=_;with_unfolding_all rfl)|(with_reducible show List.length _=_;with_unfolding_all rfl))) only [DM,qp]|simp -dsimp (disch:=(conv=>lhs;cbv)) only [Dl]));refine fa (off:=0) (cs':=[uv (IntKind.wrap .u64 (am+l[k].am)),uv l[k].at_]) g3 rfl rfl rfl rfl ao ?_;have o3:=FR.set (k:=.cells [uv (IntKind.wrap .u64 (am+l[k].am)),uv l[k].at_] 103 true) (o2.ext X3) (cK h.n);have X4:aw h.n (ai h2 (.cells [uv l[k].am,uv l[k].at_] 103 true)) _:=aw.set (i:=h.n) (.cells [uv (IntKind.wrap .u64 (am+l[k].am)),uv l[k].at_] 103 true) a_;refine wk ?_;exact⟨l.length-(k+1),ah,k+1,L,lv,IntKind.wrap .u64 (am+l[k].am),l[k].at_,ah,rfl,by simp[T.aj,bC (show k≤4611686018427387904 by omega)],by simp[T.aj,f6],o3,ah,fun h=>ah,aA,(X2.jI X3).trans X4,by show h.n<h2.n+1;omega⟩
   · rw[if_neg hd]at hns;have ww:=mW @hc;refine wk ?_;have X4:=X2.jI X3;have o3:=o2.ext X3;have n3:(ai h2 (.cells [uv l[k].am,uv l[k].at_] 103 true)).n=h2.n+1:=rfl;have g3':=g3;change iK 103 2 lv _ (ai (ai h2 (.cells [uv l[k].am,uv l[k].at_] 103 true)) _) _;generalize ai h2 (.cells [uv l[k].am,uv l[k].at_] 103 true)=h3 at X4 o3 n3 g3' ⊢;refine FR.app (x:=l[k]) o3 ah ah ah fun v5 h5 o5 x5 n5'=>?_;have n5:=x5.n;refine wk ?_;refine⟨l.length-(k+1),ah,k+1,L++[l[k]],v5,am,at',ah,rfl,by simp[T.aj,bC (show k≤4611686018427387904 by omega)],aA,o5,by rw[dA];simp only[dn,cF];omega,fun h=>ham ah,x5.cY g3',X4.jI x5,ah⟩
 · obtain rfl:k=l.length:=ah;rw[iF]at hL ham;refine wk ?_;refine fa (off:=0) (cs':=[uv (IntKind.wrap .u64 (am-less)),uv at']) g2 rfl rfl rfl rfl ao ?_;have o3:=FR.set (k:=.cells [uv (IntKind.wrap .u64 (am-less)),uv at'] 103 true) o2 (cK h.n);have X3:aw h.n h2 { h2 with b:=h2.b.set h.n (.cells [uv (IntKind.wrap .u64 (am-less)),uv at'] 103 true) }:=aw.set _ a_;obtain⟨h3,eh3⟩:=gz ({ h2 with b:=h2.b.set h.n (.cells [uv (IntKind.wrap .u64 (am-less)),uv at'] 103 true) }:ak);have g3:h3.b.get h.n=some (.cells [uv (IntKind.wrap .u64 (am-less)),uv at'] 103 true):=eh3▸aA;have n3:h3.n=h2.n:=eh3▸rfl;rw[eh3];try rw[eh3]at X3;try rw[eh3]at o3
   have X4:=X2.trans X3;have c3:=ay (off:=0) ah g3 rfl;have d3:av h3 (ad h.n 0) 2=some [uv (IntKind.wrap .u64 (am-less)),uv at']:=aq ah g3 rfl rfl;have hLn:L.length+(if nd now l=0 then 0 else 1)≤l.length:=by split<;>omega
   have lA:FR h.n h3 lv L:=o3.mono (aL _);by_cases hpos:(0:Int)<IntKind.wrap .u64 (am-less)
   · refine wk ?_;have hl1:nd now l=0→less≠0:=fun h0 hless=>by rw[ham h0,hless]at hpos;revert hpos;decide
     have hlen:(L.length+1)+(if nd now l=0 then 0 else 1)≤l.length+1:=by split<;>omega
     have hless:less=0→L.length+1≤l.length:=fun h=>by
       by_cases h0:nd now l=0;· exact absurd h (hl1 h0)
       · omega
     have X5:aw h3.n h3 (ai h3 (.cells [uv (IntKind.wrap .u64 (am-less)),uv at'] 103 true)):=br;by_cases hL0:L=[]
     · subst hL0;cases lA with
       | nil =>refine⟨⟨ao,.inl a_⟩,fun _=>?_,fun h=>absurd rfl h⟩;refine wk ?_;exact hK _ [⟨IntKind.wrap .u64 (am-less),at'⟩] _ (FR.lit (l:=[⟨IntKind.wrap .u64 (am-less),at'⟩]) (i:=h3.n) ah (cK _) (az _ _) an) (X4.jI X5) hlen hless
       | row _ _ _ h4=>exact absurd rfl h4
       | lit _ _ _ h4=>exact absurd rfl h4
     · refine jL (n:=1) (m:=L.length) (cs:=[uv (IntKind.wrap .u64 (am-less)),uv at']) (new:=(L.map RF.cells).flatten) (by omega) (fun e=>by cases e) (by simp only[firstCells,fk];exact aV rfl) lA.len (by intro e;exact hL0 (dq.1 e)) (by decide) (lA.ext X5).first (RF.one L) ?_
       refine wk ?_;have:=FR.row (N:=h.n) (l:=⟨IntKind.wrap .u64 (am-less),at'⟩::L) (h:=ai (ai h3 (.cells [uv (IntKind.wrap .u64 (am-less)),uv at'] 103 true)) (.cells ([uv (IntKind.wrap .u64 (am-less)),uv at']++(L.map RF.cells).flatten) 103 false)) (i:=h3.n+1) ah (by simp[ai]) (az _ _) an;rw[dn,vV L.length 1]at this;exact hK _ _ _ this ((X4.jI X5).trans (aw.new _ (by show h.n≤h3.n+1;omega))) hlen hless
   · refine wk ?_;exact hK _ L _ lA X4 ah (fun _=>ah)
theorem RS.at_ {O:Nat→Prop}{sz n c:Nat}{a:Option Addr}{h:ak}{rows:List (List Value)}(r:RS O sz h (.slice a n c) rows) {k:Nat}(hk:k<rows.length):∃ i o,a=some ⟨i,o,none⟩∧i<h.n∧av h (ad i (o+k*sz)) sz=some rows[k]:=by obtain⟨a',c',e,_,q⟩:=r.r;cases e;exact q k hk
theorem RS.ext {O:Nat→Prop}{sz:Nat}{h h':ak}{v:Value}{rows:List (List Value)}(r:RS O sz h v rows) (x:aw h.n h h'):RS O sz h' v rows:=r.kp (Kp.ext x)
theorem M_ {a:Ad}{V:VD}{h:ak}{M:MD}{b1 k:Nat}{r:RR}{K:Value→ak→Prop}(s:St a V h M) (hs:M.sh.length≤1000) (hr:aB M.sh r=some k) (l1:b1<h.n) (c1:cellAt h (ad b1 0)=some (mp a))
  (hK:∀ b h',aw h.n h h'→K (.bool b) h'):cy env (.func 71) [.agg ⟨r.cells⟩,pt b1 0] h K:=by
 refine F71 rfl ?_
 have X1:aw h.n h (ai h (.cells r.cells 38 true)):=br
 have d1:av (ai h (.cells r.cells 38 true)) ⟨h.n,0,none⟩ 2=some r.cells:=aV rfl
 have c2:=aD X1 l1 c1
 have s1:=s.ext X1
 unfold mp at c2
 refine wk ?_
 generalize ai h (.cells r.cells 38 true)=h1 at X1 d1 c2 s1 ⊢
 refine wk ?_
 refine oA s1 hs fun h2 x2=>?_
 obtain⟨hk,_⟩:=aH.1 hr
 have s2:=s1.ext x2
 have g4:=s2.sC hk 5 ao
 have g8:=s2.sC hk 8 ao
 simp only[Ob.cells,SD.cells,cu,cR]at g4 g8
 rw[hr]
 unfold fC
 have X2:=X1.trans (x2.mono X1.n)
 have n2:=x2.n
 by_cases hge:M.sh[k].x.used≥M.sh[k].x.x_
 ·refine wk ?_;exact hK _ _ X2
 ·refine wk ?_;exact hK _ _ X2
theorem Pb {a:Ad}{V:VD}{h:ak}{M:MD}{b1:Nat}{v:Value}{l:List RR}{K:Value→ak→Prop}(s:St a V h M) (hs:M.sh.length≤1000) (hl:l.length≤5000) (r:RS (fun _=>False) 2 h v (l.map RR.cells)) (hr:∀ x∈l,∃ k,aB M.sh x=some k) (l1:b1<h.n) (c1:cellAt h (ad b1 0)=some (mp a))
   (hK:∀ (i:Int) h',aw h.n h h'→K (iv i) h'):cy env (.func 110) [v,.func (.func 71) #[] #[pt b1 0]] h K:=by
 obtain⟨pa,pc,re,_⟩:=r.len
 rw[aI]at re
 subst re
 refine F110 rfl ?_
 refine wk ?_
 refine aP (fun m fr' h''=>∃ k:Nat,k≤l.length∧m=l.length-k∧aw h.n h h''∧fr'.get 8=some (iv k)) l.length ?_ ah ?_
 · exact⟨0,ah,ah,aw.refl _ _,aA⟩
 rintro m fr4 h2 ⟨k,hk,rfl,X,f8⟩ hag
 have n2:=X.n
 by_cases aT:k<l.length
 · obtain⟨i,o,rfl,hi,hc⟩:=(r.ext X).at_ (k:=k) (by simpa using aT);rw[dr]at hc;have ww:=mW @hc;refine wk ?_;obtain⟨j,hj⟩:=hr _ (bG aT);refine M_ (s.ext X) hs hj ah (aD X l1 c1) fun b h3 X3=>?_;have XX:=X.trans (X3.mono n2);cases b with
   | true =>refine wk ?_;exact hK _ _ XX
   | false =>refine wk ?_;exact⟨l.length-(k+1),ah,k+1,ah,rfl,XX,by simp[T.aj,bC (show k≤4611686018427387904 by omega)]⟩
 · refine wk ?_;exact hK _ _ X
theorem Ky {a:Ad}{V:VD}{h:ak}{M:MD}{b1:Nat}{v:Value}{l:List RR}{K:Value→ak→Prop}(s:St a V h M) (hs:M.sh.length≤1000) (hl:l.length≤5000) (r:RS (fun _=>False) 2 h v (l.map RR.cells)) (hr:∀ x∈l,∃ k,aB M.sh x=some k) (l1:b1<h.n) (c1:cellAt h (ad b1 0)=some (mp a))
  (hK:∀ b h',aw h.n h h'→K (.bool b) h'):cy env (.func 75) [v,.func (.func 71) #[] #[pt b1 0]] h K:=by
 refine F75 rfl ?_
 refine wk ?_
 refine Pb s hs hl r hr l1 c1 fun i h1 x1=>?_
 by_cases hi:i≥0
 ·refine wk ?_;exact hK _ _ x1
 ·refine wk ?_;exact hK _ _ x1
theorem zn {now:Int}:∀ {l:List RF}{n:Int},nd now l=0→nO now n l=n
 | [],_,_=>rfl
 | x::l,n,h=>by
   have hx:¬x.at_≤now:=fun hx=>by simp only[nd,zU (p:=fun r:RF=>decide (r.at_≤now)) (by simpa using hx:decide (x.at_≤now)=true),dn]at h;omega
   have hl:nd now l=0:=by simp only[nd,uZ (p:=fun r:RF=>decide (r.at_≤now)) (by simpa using hx:¬decide (x.at_≤now)=true)]at h;exact h
   have:=zn (l:=l) (n:=n) hl;simp only[nO,wI,if_neg hx]at this ⊢;exact this
theorem St.gR {a:Ad}{V:VD}{h:ak}{M:MD}(s:St a V h M) {k:Nat}(hk:k<M.gs.length):av h (ad a.g (k*21+4)) 2=some M.gs[k].x.gG.cells∧av h (ad a.g (k*21+6)) 2=some M.gs[k].x.ctx.cells:=by obtain⟨t,hb⟩:=s.gs;exact⟨dC (j:=4) (n:=2) hb (s.lt _ qe) (ja (n:=19) fun _=>rfl) hk ao,dC (j:=6) (n:=2) hb (s.lt _ qe) (ja (n:=19) fun _=>rfl) hk ao⟩
theorem Ki {a:Ad}{V:VD}{h:ak}{M:MD}{k j:Nat}{l:List RR}{K:Value→ak→Prop}(s:St a V h M) (hs:M.sh.length≤1000) (hcl:M.cl.length≤1000) (hk:k<M.gs.length) (hj:aB M.cl M.gs[k].x.ctx=some j) (hjl:j<M.cl.length) (hrl:M.cl[j].x.ref.length≤5000) (c:tP M.sh M.gs[k].x.gG l) (hl:l.length≤5000)
  (hK:∀ b h',aw h.n h h'→(b=true→nd M.now M.cl[j].x.ref≠0)→K (.bool b) h'):cy env (.func 41) [mp a,pt a.g (k*21+2)] h K:=by
 unfold mp at *
 refine F41 rfl ?_
 have X1:aw h.n h (ai h (.cells [.pointer (some ⟨a.m,0,none⟩)] 32 true)):=br
 have d1:cellAt (ai h (.cells [.pointer (some ⟨a.m,0,none⟩)] 32 true)) ⟨h.n,0,none⟩=some (.pointer (some ⟨a.m,0,none⟩)):=bI
 have n1:(ai h (.cells [.pointer (some ⟨a.m,0,none⟩)] 32 true)).n=h.n+1:=rfl
 have s1:=s.ext X1
 obtain⟨gd,gc⟩:=s1.gR hk
 have ww:=mW (aN @gd @gc)
 refine wk ?_
 refine j_ s1 hcl fun h2 x2=>?_
 have n2:=x2.n
 have s2:=s1.ext x2
 have d2:=aD x2 ah d1
 obtain⟨gd2,gc2⟩:=s2.gR hk
 obtain⟨w,_,_,cr,cc,_⟩:=s2.Bi hjl
 have c4:=cc 4 ao
 simp only[Ob.cells,XW.cells,cu,cR]at c4
 rw[hj]
 unfold fC
 have ww:=ww.a (aN (aN @gd2 @gc2) @c4)
 refine wk ?_
 refine BU (RS.F cr.ref) a_ ah fun h3 x3=>?_
 have n3:=x3.n
 have s3:=s2.ext x3
 have d3:=aD x3 ah d2
 obtain⟨gd3,gc3⟩:=s3.gR hk
 have X3:=X1.trans ((x2.mono ah).trans (x3.mono ah))
 by_cases ht:(0:Int)<nO (M.now:Int) 0 M.cl[j].x.ref
 ·have rQ:nd (M.now:Int) M.cl[j].x.ref≠0:=fun e=>by rw[zn e]at ht;exact absurd ht ao
  have ww:=ww.a (aN @gd3 @gc3);refine wk ?_;refine xp s3 hs c hl fun v h4 x4 o4=>?_;have n4:=x4.n;have d4:=aD x4 ah d3;refine wk ?_;refine Ky (s3.ext x4) hs hl (RS.iS (N:=h3.n+1) (by rw[aI];exact o4) (by simp[RR.cells]) (fun j h=>h.elim) (by simp;omega)) c.live ah d4 fun b h5 x5=>?_;have n5:=x5.n;refine wk ?_;exact hK _ _ (X3.trans ((x4.mono ah).trans (x5.mono ah))) fun _=>rQ
 ·have ww:=ww.a (aN @gd3 @gc3);refine wk ?_;exact hK _ _ X3 fun e=>by cases e
structure yH (a b:List (Ob SD)):Prop where
 len:a.length=b.length
 gen:∀ k (h:k<a.length) (h':k<b.length),a[k].gen=b[k].gen
 is:∀ k (h:k<a.length) (h':k<b.length),a[k].is=b[k].is
 par:∀ k (h:k<a.length) (h':k<b.length),a[k].x.par=b[k].x.par
 ee:∀ k (h:k<a.length) (h':k<b.length),a[k].x.ee=b[k].x.ee
 own:∀ k (h:k<a.length) (h':k<b.length),a[k].x.own=b[k].x.own
theorem yH.refl (a:List (Ob SD)):yH a a:=⟨rfl,fun _ _ _=>rfl,fun _ _ _=>rfl,fun _ _ _=>rfl,fun _ _ _=>rfl,fun _ _ _=>rfl⟩
theorem yH.trans {a b c:List (Ob SD)}(x:yH a b) (y:yH b c):yH a c :=
 ⟨x.len.trans y.len,fun k h h'=>(x.gen k h (x.len▸h)).trans (y.gen k _ h'),fun k h h'=>(x.is k h (x.len▸h)).trans (y.is k _ h'),fun k h h'=>(x.par k h (x.len▸h)).trans (y.par k _ h'),fun k h h'=>(x.ee k h (x.len▸h)).trans (y.ee k _ h'),fun k h h'=>(x.own k h (x.len▸h)).trans (y.own k _ h')⟩
theorem yH.set {a:List (Ob SD)}{k:Nat}{y:Ob SD}(hk:k<a.length) (h1:y.gen=a[k].gen) (h2:y.is=a[k].is) (h3:y.x.par=a[k].x.par) (h4:y.x.ee=a[k].x.ee) (h5:y.x.own=a[k].x.own):yH (a.set k y) a:=by
 refine⟨by simp,fun j _ _=>?_,fun j _ _=>?_,fun j _ _=>?_,fun j _ _=>?_,fun j _ _=>?_⟩ <;>
 ·rw[cJ];split;·rename_i e;subst e;assumption
  ·rfl
theorem yH.live {a b:List (Ob SD)}(x:yH a b) (r:RR):aB a r=aB b r:=by
 have key:∀ k,aB a r=some k→aB b r=some k:=fun k h=>by obtain⟨h1,h2,h3,h4⟩:=aH.1 h;have h1':k<b.length:=x.len▸h1;exact aH.2 ⟨h1',h2,by rw[← x.is k h1 h1'];exact h3,by rw[← x.gen k h1 h1'];exact h4⟩
 cases h:aB a r with
 | some k=>exact(key k h).symm
 | none =>
   cases h':aB b r with
   | none=>rfl
   | some k =>
     obtain⟨h1,h2,h3,h4⟩:=aH.1 h'
     have h1':k<a.length:=x.len.symm▸h1
     have:=(aH (l:=a) (r:=r)).2 ⟨h1',h2,by rw[x.is k h1' h1];exact h3,by rw[x.gen k h1' h1];exact h4⟩
     rw[h]at this;cases this
theorem yH.symm {a b:List (Ob SD)}(x:yH a b):yH b a:=⟨x.len.symm,fun k h h'=>(x.gen k h' h).symm,fun k h h'=>(x.is k h' h).symm,fun k h h'=>(x.par k h' h).symm,fun k h h'=>(x.ee k h' h).symm,fun k h h'=>(x.own k h' h).symm⟩
theorem tP.she {a b:List (Ob SD)}(x:yH a b) {r:RR}{l:List RR}(c:tP a r l):tP b r l:=by
 induction c with
 | nil h=>exact .nil ((x.live _).symm.trans h)
 | cons h hk _ ih =>
   have hk':_<b.length:=x.len▸hk
   exact .cons ((x.live _).symm.trans h) hk' (by rw[← x.par _ hk hk'];exact ih)
structure wG (a b:List (Ob XD)):Prop where
 len:a.length=b.length
 gen:∀ k (h:k<a.length) (h':k<b.length),a[k].gen=b[k].gen
 is:∀ k (h:k<a.length) (h':k<b.length),a[k].is=b[k].is
 dH:∀ k (h:k<a.length) (h':k<b.length),a[k].x.dH=b[k].x.dH
theorem wG.refl (a:List (Ob XD)):wG a a:=⟨rfl,fun _ _ _=>rfl,fun _ _ _=>rfl,fun _ _ _=>rfl⟩
theorem wG.trans {a b c:List (Ob XD)}(x:wG a b) (y:wG b c):wG a c :=
 ⟨x.len.trans y.len,fun k h h'=>(x.gen k h (x.len▸h)).trans (y.gen k _ h'),fun k h h'=>(x.is k h (x.len▸h)).trans (y.is k _ h'),fun k h h'=>(x.dH k h (x.len▸h)).trans (y.dH k _ h')⟩
theorem wG.set {a:List (Ob XD)}{k:Nat}{y:Ob XD}(hk:k<a.length) (h1:y.gen=a[k].gen) (h2:y.is=a[k].is) (h3:y.x.dH=a[k].x.dH):wG (a.set k y) a:=by
 refine⟨by simp,fun j _ _=>?_,fun j _ _=>?_,fun j _ _=>?_⟩ <;>
 ·rw[cJ];split;·rename_i e;subst e;assumption
  ·rfl
theorem wG.live {a b:List (Ob XD)}(x:wG a b) (r:RR):aB a r=aB b r:=by
 have key:∀ {a b:List (Ob XD)},wG a b→∀ k,aB a r=some k→aB b r=some k:=fun x k h=>by obtain⟨h1,h2,h3,h4⟩:=aH.1 h;have h1':=x.len▸h1;exact aH.2 ⟨h1',h2,by rw[← x.is k h1 h1'];exact h3,by rw[← x.gen k h1 h1'];exact h4⟩
 have y:wG b a:=⟨x.len.symm,fun k h h'=>(x.gen k h' h).symm,fun k h h'=>(x.is k h' h).symm,fun k h h'=>(x.dH k h' h).symm⟩;cases h:aB a r with
 | some k=>exact(key x k h).symm
 | none =>
   cases h':aB b r with
   | none=>rfl
   | some k=>have:=key y k h';rw[h]at this;cases this
def kQ (cl:List (Ob XD)):Prop:=∀ k (h:k<cl.length),cl[k].x.ref.length≤16
theorem FR.rj {N:Nat}{h:ak}{v:Value}{l:List RF}(r:FR N h v l) (hl:l≠[]):∃ i t c,v=.slice (some ⟨i,0,none⟩) l.length c∧N≤i∧i<h.n∧h.b.get i=some (.cells (l.map RF.cells).flatten 103 t) ∧
  ∀ l2:List RF,l2.length=l.length→FR N (aO h i (.cells (l2.map RF.cells).flatten 103 t)) v l2:=by
 have ne:∀ l2:List RF,l2.length=l.length→l2≠[]:=fun l2 h e=>by rw[e]at h;exact hl (dq.1 h.symm)
 cases r with
 | nil=>exact absurd rfl hl
 | @row i _ h1 h2 h3 h4=>exact⟨i,false,_,rfl,h1,h2,h3,fun l2 hl2=>hl2▸.row h1 h2 aF (ne l2 hl2)⟩
 | @lit i _ h1 h2 h3 h4=>exact⟨i,true,_,rfl,h1,h2,h3,fun l2 hl2=>hl2▸.lit h1 h2 aF (ne l2 hl2)⟩
def useS (o:Ob SD):Ob SD:={ o with x:={ o.x with used:=IntKind.wrap .u64 (o.x.used+1) } }
theorem zI {a:Ad}{V:VD}{h:ak}{M:MD}{k j:Nat}{l:List RR}{K:Value→ak→Prop}(s:St a V h M) (hs:M.sh.length≤1000) (hcl:M.cl.length≤1000) (hk:k<M.gs.length) (hj:aB M.cl M.gs[k].x.ctx=some j) (hr:kQ M.cl) (hcf:M.cfg.refs≤16) (c:tP M.sh M.gs[k].x.gG l) (hl:l.length≤5000)
   (hK:∀ b sh cl V' h',yH sh M.sh→wG cl M.cl→kQ cl→St a V' h' { M with sh:=sh,cl:=cl }→Kp (own a V) (own a V') h h'→K (.bool b) h'):cy env (.func 43) [mp a,pt a.g (k*21+2)] h K:=by
 unfold mp at *
 obtain⟨hjl,_⟩:=aH.1 hj
 have hrj:=hr j hjl
 refine F43 rfl ?_
 refine wk ?_
 refine Ki s hs hcl hk hj hjl ah c hl fun b h1 x1 hb=>?_
 have n1:=x1.n
 have s1:=s.ext x1
 cases b with
 | false =>
   refine wk ?_
   exact hK _ M.sh M.cl V _ (.refl _) (.refl _) hr s1 (Kp.ext x1)
 | true =>
   have rQ:=hb rfl
   obtain⟨gd,gc⟩:=s1.gR hk
   have ww:=mW @gd
   refine wk ?_
   refine xp s1 hs c hl fun v h2 x2 o2=>?_
   have n2:=x2.n
   have s2:=s1.ext x2
   have rl:RS (own a V) 2 h2 v (l.map RR.cells):=RS.iS (N:=h1.n+1) (by rw[aI];exact o2) (by simp[RR.cells]) (fun j o=>vl (s1.lt j o)) (by simp;omega)
   obtain⟨va,vc,re,_⟩:=rl.len
   rw[aI]at re
   subst re
   refine wk ?_
   refine aP (fun m fr' h''=>∃ (i:Nat) (sh:List (Ob SD)) (V'':VD),i≤l.length∧m=l.length-i∧fr'.get 22=some (iv i)∧yH sh M.sh∧St a V'' h'' { M with sh:=sh }∧Kp (own a V) (own a V'') h h''∧RS (own a V'') 2 h'' (.slice va l.length vc) (l.map RR.cells)) l.length ?_ ah ?_
   · exact⟨0,M.sh,V,ah,ah,aA,.refl _,s2,(Kp.ext x1).trans (Kp.ext x2),rl⟩
   rintro m fr3 h3 ⟨i,sh,V3,hi,rfl,f22,hsh,s3,k3,r3⟩ hag
   have n3:=k3.n
   by_cases aT:i<l.length
   · obtain⟨bi,bo,rfl,hbi,hc⟩:=r3.at_ (k:=i) (by simpa using aT);rw[dr]at hc;obtain⟨j1,hj1⟩:=c.live _ (bG aT);rw[← hsh.live]at hj1;obtain⟨hj1l,_⟩:=aH.1 hj1;have X4:aw h3.n h3 (ai h3 (.cells l[i].cells 38 true)):=br;have d4:av (ai h3 (.cells l[i].cells 38 true)) ⟨h3.n,0,none⟩ 2=some l[i].cells:=aV rfl;have n4:(ai h3 (.cells l[i].cells 38 true)).n=h3.n+1:=rfl;have ww:=ww.a @hc;refine wk ?_;refine oA (s3.ext X4) (by show sh.length≤1000;rw[hsh.len];exact hs) fun h5 x5=>?_;have n5:=x5.n;have s5:=s3.ext (X4.jI x5);have c8:=s5.sC (k:=j1) hj1l 8 ao;simp only[Ob.cells,SD.cells,cu,cR]at c8;have hj1':aB ({ M with sh:=sh }:MD).sh l[i]=some j1:=hj1;rw[hj1'];unfold fC;refine wk ?_;refine HQ s5 (k:=j1) hj1l (j:=8) (y:=useS sh[j1]) ah rfl rfl rfl rfl ao fun h6 s6 k6 n6=>?_;refine wk ?_;exact⟨l.length-(i+1),ah,i+1,sh.set j1 (useS sh[j1]),V3,ah,rfl,by simp[T.aj,bC (show i≤4611686018427387904 by omega)],(yH.set (y:=useS sh[j1]) hj1l rfl rfl rfl rfl rfl).trans hsh,s6,k3.trans ((Kp.ext (X4.jI x5)).trans k6),r3.kp ((Kp.ext (X4.jI x5)).trans k6)⟩
   · obtain rfl:i=l.length:=ah;obtain⟨gd3,gc3⟩:=s3.gR hk;have ww:=ww.a @gc3;refine wk ?_;refine j_ s3 hcl fun h4 x4=>?_;have n4:=x4.n;have s4:=s3.ext x4;rw[hj];unfold fC;obtain⟨w,hwl,hw,cr,cc,_⟩:=s4.Bi hjl;have c3:=cc 3 ao;have c4:=cc 4 ao;simp only[Ob.cells,XW.cells,cu,cR]at c3 c4;have fin:∀ {h7:ak}{v6:Value}{l6:List RF}{K':Value→ak→Prop}[iJ K'],St a V3 h7 { M with sh:=sh }→Kp (own a V3) (own a V3) h4 h7→RS (own a V3) 2 h7 v6 (l6.map RF.cells)→l6.length≤16→(∀ h',h7.n≤h'.n→K (.bool true) h'→K' undef h')→jQ 1 (pt a.c (j*6+4)) v6 h7 K':=by
       intro h7 v6 l6 K' _ s7 k7 r6 hl6 hK';obtain⟨w7,hwl7,hw7,cr7,_⟩:=s7.Bi hjl;obtain⟨_,_,_,ev,_⟩:=r6.c;refine C6 s7 hjl (j:=4) (w:=w7) (y:={ w7 with x:={ w7.x with ref:=v6 } }) (x:={ M.cl[j]with x:={ M.cl[j].x with ref:=l6 } }) (new:=[v6]) ah ⟨hwl7,hw7⟩ (by rw[ev];rfl) rfl rfl (by rw[ev];rfl) ao { cr7 with ref:=r6 } fun V8 h8 s8 k8 n8=>?_;refine hK' h8 ah (hK true sh (M.cl.set j { M.cl[j]with x:={ M.cl[j].x with ref:=l6 } }) V8 h8 hsh (wG.set hjl rfl rfl rfl) (fun i hi=>?_) s8 (k3.trans ((Kp.ext x4).trans (k7.trans k8))));rw[cJ];split;· exact hl6
       · exact hr i (by simpa using hi)
     have ww:=ww.a @c4;refine wk ?_;refine CK cr.ref (by show M.cl[j].x.ref.length≤5000;omega) fun v5 l5 h5 f5 x5 hlen _=>?_;have hlen:l5.length+(if nd M.now M.cl[j].x.ref=0 then 0 else 1)≤M.cl[j].x.ref.length+1:=hlen;rw[if_neg rQ]at hlen;have n5:=x5.n;have s5:=s4.ext x5;have c3':=aD x5 (s4.lt _ uj) c3;by_cases hl5:l5=[]
     · subst hl5;cases f5 with
       | row _ _ _ h=>exact absurd rfl h
       | lit _ _ _ h=>exact absurd rfl h
       | nil =>have wn0:IntKind.wrap .i64 (((0:Nat):Int)-1) = -1:=rfl;have ww:=ww.a (aN @wn0 @cF.{0});refine wk ?_;refine FR.app (N:=h4.n) (x:=⟨1,IntKind.wrap .u64 ((M.now:Int)+w.x.ee)⟩) .nil n5 rfl an fun v6 h6 f6 x6 n6=>?_;refine wk ?_;refine fin (s4.ext (x5.trans x6)) (Kp.ext (x5.trans x6)) (f6.rs s4.lt an) an fun h' n' q=>?_;refine wk ?_;exact q
     · have hpos:0<l5.length:=oE.2 hl5;have wn:IntKind.wrap .i64 ((l5.length:Int)-1)=((l5.length-1:Nat):Int):=by rw[wrap_i64 ah ah];omega
       have wm:IntKind.wrap .i64 (((l5.length-1:Nat):Int)+1)=((l5.length:Nat):Int):=by rw[wrap_i64 ah ah];omega
       obtain⟨i5,t5,c5,rfl,hN5,hi5,hb5,up5⟩:=f5.rj hl5;have hlast:l5.length-1<l5.length:=ah;have cl0:=gX (j:=0) (sz:=2) hb5 hi5 RF.hf hlast ao;have Fu:=gX (j:=1) (sz:=2) hb5 hi5 RF.hf hlast ao;simp only[RF.cells,cu,cR,cj]at cl0 Fu;have app:l5.length<M.cfg.refs→∀ {K':Value→ak→Prop}[iJ K'],(∀ v6 h6,h5.n<h6.n→(∀ {K2:Value→ak→Prop}[iJ K2],(∀ h',h6.n≤h'.n→K (.bool true) h'→K2 undef h')→jQ 1 (pt a.c (j*6+4)) v6 h6 K2)→K' v6 h6) →
           iK 103 2 (.slice (some ⟨i5,0,none⟩) l5.length c5) (.slice (some ⟨h5.n,0,none⟩) 1 1) (ai h5 (.cells [uv 1,uv (IntKind.wrap .u64 ((M.now:Int)+w.x.ee))] 103 true)) K':=by
         intro hlt5 K' _ hK'
         refine FR.app (N:=h4.n) (x:=⟨1,IntKind.wrap .u64 ((M.now:Int)+w.x.ee)⟩) f5 n5 rfl ah fun v6 h6 f6 x6 n6=>?_
         refine hK' v6 h6 n6 fun q=>fin (s4.ext (x5.trans x6)) (Kp.ext (x5.trans x6)) (f6.rs s4.lt (by simp;omega)) (by simp;omega) q
       by_cases hb:l5[l5.length-1].at_<IntKind.wrap .u64 ((M.now:Int)+w.x.ee)
       · by_cases hrf:(l5.length:Int)<(M.cfg.refs:Int);· have ww:=ww.a (aN (aN @wn @wm) (aN @cl0 @Fu));refine wk ?_;refine app ah fun v6 h6 n6 q=>?_;refine wk ?_;refine q fun h' n' q=>?_;refine wk ?_;exact q
         · have ww:=ww.a (aN (aN @wn @wm) (aN @cl0 @Fu));refine wk ?_;refine jc (l:=l5) (f:=RF.cells) (sz:=2) (k:=l5.length-1) (j:=0) (y:=⟨IntKind.wrap .u64 (l5[l5.length-1].am+1),l5[l5.length-1].at_⟩) hb5 RF.hf hlast rfl rfl rfl rfl ao ?_;have f6:=up5 (l5.set (l5.length-1) ⟨IntKind.wrap .u64 (l5[l5.length-1].am+1),l5[l5.length-1].at_⟩) an;obtain⟨h6,eh6⟩:=gz (aO h5 i5 (.cells ((l5.set (l5.length-1) ⟨IntKind.wrap .u64 (l5[l5.length-1].am+1),l5[l5.length-1].at_⟩).map RF.cells).flatten 103 t5));have n6:=sW eh6;have x6:aw h4.n h5 h6:=eh6▸(aw.set _ hN5);rw[eh6];try rw[eh6]at f6
           have hl6:(l5.set (l5.length-1) ⟨IntKind.wrap .u64 (l5[l5.length-1].am+1),l5[l5.length-1].at_⟩).length=l5.length:=an;generalize l5.set (l5.length-1) ⟨IntKind.wrap .u64 (l5[l5.length-1].am+1),l5[l5.length-1].at_⟩=l6 at f6 hl6;obtain⟨i6,t6,c6,e6,hN6,hi6,hb6,up6⟩:=f6.rj (by intro e;rw[e]at hl6;simp at hl6;omega);rw[hl6]at e6;cases e6;have hlast6:l5.length-1<l6.length:=ah;have cl6:=gX (j:=1) (sz:=2) hb6 hi6 RF.hf hlast6 ao;simp only[RF.cells,cu,cR]at cl6;have ww:=ww.a @cl6;refine wk ?_;refine jc (l:=l6) (f:=RF.cells) (sz:=2) (k:=l5.length-1) (j:=1) (y:=⟨l6[l5.length-1].am,max l6[l5.length-1].at_ (IntKind.wrap .u64 ((M.now:Int)+w.x.ee))⟩) hb6 RF.hf hlast6 rfl rfl rfl rfl ao ?_;have f7:=up6 (l6.set (l5.length-1) ⟨l6[l5.length-1].am,max l6[l5.length-1].at_ (IntKind.wrap .u64 ((M.now:Int)+w.x.ee))⟩) an;obtain⟨h7,eh7⟩:=gz (aO h6 i5 (.cells ((l6.set (l5.length-1) ⟨l6[l5.length-1].am,max l6[l5.length-1].at_ (IntKind.wrap .u64 ((M.now:Int)+w.x.ee))⟩).map RF.cells).flatten 103 t6));have x7:aw h4.n h6 h7:=eh7▸(aw.set _ hN6);have n7:=sW eh7;rw[eh7];try rw[eh7]at f7
           refine wk ?_;have xx:aw h4.n h4 h7:=x5.trans (x6.trans x7);refine fin (s4.ext xx) (Kp.ext xx) (f7.rs s4.lt (by simp;omega)) (by simp;omega) fun h' n' q=>?_;refine wk ?_;exact q
       · have ww:=ww.a (aN (aN @wn @wm) (aN @cl0 @Fu));refine wk ?_;refine jc (l:=l5) (f:=RF.cells) (sz:=2) (k:=l5.length-1) (j:=0) (y:=⟨IntKind.wrap .u64 (l5[l5.length-1].am+1),l5[l5.length-1].at_⟩) hb5 RF.hf hlast rfl rfl rfl rfl ao ?_;have f6:=up5 (l5.set (l5.length-1) ⟨IntKind.wrap .u64 (l5[l5.length-1].am+1),l5[l5.length-1].at_⟩) an;have n6:(aO h5 i5 (.cells ((l5.set (l5.length-1) ⟨IntKind.wrap .u64 (l5[l5.length-1].am+1),l5[l5.length-1].at_⟩).map RF.cells).flatten 103 t5)).n=h5.n:=rfl;have x6:aw h4.n h5 (aO h5 i5 (.cells ((l5.set (l5.length-1) ⟨IntKind.wrap .u64 (l5[l5.length-1].am+1),l5[l5.length-1].at_⟩).map RF.cells).flatten 103 t5)):=aw.set _ hN5;generalize aO h5 i5 (.cells ((l5.set (l5.length-1) ⟨IntKind.wrap .u64 (l5[l5.length-1].am+1),l5[l5.length-1].at_⟩).map RF.cells).flatten 103 t5)=h6 at f6 n6 x6 ⊢;have hl6:(l5.set (l5.length-1) ⟨IntKind.wrap .u64 (l5[l5.length-1].am+1),l5[l5.length-1].at_⟩).length=l5.length:=an;generalize l5.set (l5.length-1) ⟨IntKind.wrap .u64 (l5[l5.length-1].am+1),l5[l5.length-1].at_⟩=l6 at f6 hl6;obtain⟨i6,t6,c6,e6,hN6,hi6,hb6,up6⟩:=f6.rj (by intro e;rw[e]at hl6;simp at hl6;omega);rw[hl6]at e6;cases e6;have hlast6:l5.length-1<l6.length:=ah;have cl6:=gX (j:=1) (sz:=2) hb6 hi6 RF.hf hlast6 ao;simp only[RF.cells,cu,cR]at cl6;have ww:=ww.a @cl6;refine wk ?_;refine jc (l:=l6) (f:=RF.cells) (sz:=2) (k:=l5.length-1) (j:=1) (y:=⟨l6[l5.length-1].am,max l6[l5.length-1].at_ (IntKind.wrap .u64 ((M.now:Int)+w.x.ee))⟩) hb6 RF.hf hlast6 rfl rfl rfl rfl ao ?_;have f7:=up6 (l6.set (l5.length-1) ⟨l6[l5.length-1].am,max l6[l5.length-1].at_ (IntKind.wrap .u64 ((M.now:Int)+w.x.ee))⟩) an;have x7:aw h4.n h6 (aO h6 i5 (.cells ((l6.set (l5.length-1) ⟨l6[l5.length-1].am,max l6[l5.length-1].at_ (IntKind.wrap .u64 ((M.now:Int)+w.x.ee))⟩).map RF.cells).flatten 103 t6)):=aw.set _ hN6;have n7:(aO h6 i5 (.cells ((l6.set (l5.length-1) ⟨l6[l5.length-1].am,max l6[l5.length-1].at_ (IntKind.wrap .u64 ((M.now:Int)+w.x.ee))⟩).map RF.cells).flatten 103 t6)).n=h6.n:=rfl;generalize aO h6 i5 (.cells ((l6.set (l5.length-1) ⟨l6[l5.length-1].am,max l6[l5.length-1].at_ (IntKind.wrap .u64 ((M.now:Int)+w.x.ee))⟩).map RF.cells).flatten 103 t6)=h7 at f7 x7 n7 ⊢;refine wk ?_;have xx:aw h4.n h4 h7:=x5.trans (x6.trans x7);refine fin (s4.ext xx) (Kp.ext xx) (f7.rs s4.lt (by simp;omega)) (by simp;omega) fun h' n' q=>?_;refine wk ?_;exact q
def oa (x:GD):Prop:=0≤x.r0∧0≤x.r1∧0≤x.r2∧0≤x.r3∧0≤x.r4∧0≤x.r5∧0≤x.r6∧0≤x.r7
structure oZ (a b:List (Ob GD)):Prop where
 len:a.length=b.length
 gen:∀ k (h:k<a.length) (h':k<b.length),a[k].gen=b[k].gen
 is:∀ k (h:k<a.length) (h':k<b.length),a[k].is=b[k].is
 gG:∀ k (h:k<a.length) (h':k<b.length),a[k].x.gG=b[k].x.gG
 ctx:∀ k (h:k<a.length) (h':k<b.length),a[k].x.ctx=b[k].x.ctx
 prog:∀ k (h:k<a.length) (h':k<b.length),a[k].x.prog=b[k].x.prog
 jF:∀ k (h:k<a.length) (h':k<b.length),b[k].x.jF<256→a[k].x.jF<256
 yn:∀ k (h:k<a.length) (h':k<b.length),oa b[k].x→oa a[k].x
theorem oZ.refl (a:List (Ob GD)):oZ a a:=⟨rfl,fun _ _ _=>rfl,fun _ _ _=>rfl,fun _ _ _=>rfl,fun _ _ _=>rfl,fun _ _ _=>rfl,fun _ _ _ h=>h,fun _ _ _ h=>h⟩
theorem oZ.trans {a b c:List (Ob GD)}(x:oZ a b) (y:oZ b c):oZ a c :=
 ⟨x.len.trans y.len,fun k h h'=>(x.gen k h (x.len▸h)).trans (y.gen k _ h'),fun k h h'=>(x.is k h (x.len▸h)).trans (y.is k _ h'),fun k h h'=>(x.gG k h (x.len▸h)).trans (y.gG k _ h'),fun k h h'=>(x.ctx k h (x.len▸h)).trans (y.ctx k _ h'),fun k h h'=>(x.prog k h (x.len▸h)).trans (y.prog k _ h'),fun k h h' w=>x.jF k h (x.len▸h) (y.jF k _ h' w),fun k h h' w=>x.yn k h (x.len▸h) (y.yn k _ h' w)⟩
theorem oZ.set {a:List (Ob GD)}{k:Nat}{y:Ob GD}(hk:k<a.length) (h1:y.gen=a[k].gen) (h2:y.is=a[k].is) (h3:y.x.gG=a[k].x.gG) (h4:y.x.ctx=a[k].x.ctx) (h5:y.x.prog=a[k].x.prog) (h6:a[k].x.jF<256→y.x.jF<256) (h7:oa a[k].x→oa y.x:=by exact id):oZ (a.set k y) a:=by
 refine⟨by simp,fun j _ _=>?_,fun j _ _=>?_,fun j _ _=>?_,fun j _ _=>?_,fun j _ _=>?_,fun j _ _=>?_,fun j _ _=>?_⟩ <;>
 ·rw[cJ];split;·rename_i e;subst e;assumption
  ·first|rfl|exact id
theorem Cf {a:Ad}{V:VD}{h:ak}{M:MD}{g:Nat}{K:Value→ak→Prop}(s:St a V h M) (m:Sm M) (ht:M.tm.length≤5000) (hg:g<M.gs.length) (hgl:M.gs.length≤1000)
   (hK:∀ b gs V' h',oZ gs M.gs→St a V' h' { M.off g with gs:=gs }→Kp (own a V) (own a V') h h'→K (.bool b) h'):cy env (.func 70) [mp a,iv g] h K:=by
 unfold mp at *
 refine F70 rfl ?_
 refine wk ?_
 refine qM s m ht fun V1 h1 s1 k1=>?_
 have hg1:g<(M.off g).gs.length:=hg
 have n1:=k1.n
 have M6:=s1.M6
 have hlen:(M.off g).gs.length=M.gs.length:=rfl
 rw[hlen]at M6
 refine wk ?_
 refine lY s1 hg1 (j:=20) (y:={ M.gs[g]with x:={ M.gs[g].x with til:=0 } }) ah rfl rfl rfl rfl ao fun h2 s2 k2 n2=>?_
 let o2:Ob GD:={ M.gs[g]with x:={ M.gs[g].x with til:=0 } }
 have E2:oZ (M.gs.set g o2) M.gs:=oZ.set (y:=o2) hg rfl rfl rfl rfl rfl id
 have s2':St a V1 h2 { M.off g with gs:=M.gs.set g o2 }:=s2
 have hg2:g<(M.gs.set g o2).length:=by simpa using hg
 have hget:(M.gs.set g o2)[g]=o2:=cU _
 generalize hgs:M.gs.set g o2=gs2 at s2' E2 hg2 hget
 have K2:=k1.trans k2
 have wr:∀ {h3:ak}{gs3:List (Ob GD)}{K':Value→ak→Prop}[iJ K'] (st:Int),St a V1 h3 { M.off g with gs:=gs3 }→(hg3:g<gs3.length)→Kp (own a V) (own a V1) h h3→oZ gs3 M.gs →
     (∀ h',h'.n=h3.n→(hl:g<(gs3.set g { gs3[g]with x:={ gs3[g].x with st:=st } }).length)→St a V1 h' { M.off g with gs:=gs3.set g { gs3[g]with x:={ gs3[g].x with st:=st } } }→Kp (own a V) (own a V1) h h'→oZ (gs3.set g { gs3[g]with x:={ gs3[g].x with st:=st } }) M.gs→K' undef h') →
     jQ 1 (pt a.g (g*21+2)) (iv st) h3 K':=by
   intro h3 gs3 K' _ st s3 hg3 k3 E3 q
   exact lY s3 hg3 (j:=2) (y:={ gs3[g]with x:={ gs3[g].x with st:=st } }) rfl rfl rfl rfl rfl ao fun h4 s4 k4 n4=>q h4 n4 (by simpa using hg3) s4 (k3.trans k4) ((oZ.set (y:={ gs3[g]with x:={ gs3[g].x with st:=st } }) hg3 rfl rfl rfl rfl rfl id).trans E3)
 have wu:∀ {h3:ak}{gs3:List (Ob GD)}{K':Value→ak→Prop}[iJ K'] (su:Bool),St a V1 h3 { M.off g with gs:=gs3 }→(hg3:g<gs3.length)→Kp (own a V) (own a V1) h h3→oZ gs3 M.gs →
     (∀ h',h'.n=h3.n→St a V1 h' { M.off g with gs:=gs3.set g { gs3[g]with x:={ gs3[g].x with su:=su } } }→Kp (own a V) (own a V1) h h'→oZ (gs3.set g { gs3[g]with x:={ gs3[g].x with su:=su } }) M.gs→K' undef h') →
     jQ 1 (pt a.g (g*21+3)) (.bool su) h3 K':=by
   intro h3 gs3 K' _ su s3 hg3 k3 E3 q
   exact lY s3 hg3 (j:=3) (y:={ gs3[g]with x:={ gs3[g].x with su:=su } }) rfl rfl rfl rfl rfl ao fun h4 s4 k4 n4=>q h4 n4 s4 (k3.trans k4) ((oZ.set (y:={ gs3[g]with x:={ gs3[g].x with su:=su } }) hg3 rfl rfl rfl rfl rfl id).trans E3)
 have c2:=s2'.gC hg2 2 ao
 have c3:=s2'.gC hg2 3 ao
 simp only[Ob.cells,GD.cells,cu,cR]at c2 c3
 cases hsu:gs2[g].x.su with
 | false =>
   rw[hsu]at c3
   refine wk ?_
   refine wr 1 s2' hg2 K2 E2 fun h3 n3 hg3 s3 k3 E3=>?_
   refine wk ?_
   refine wu false s3 hg3 k3 E3 fun h4 n4 s4 k4 E4=>?_
   refine wk ?_
   exact hK _ _ V1 h4 E4 s4 k4
 | true =>
   rw[hsu]at c3
   by_cases hst:gs2[g].x.st=5
   · rw[hst]at c2;refine wk ?_;refine wr 1 s2' hg2 K2 E2 fun h3 n3 hg3 s3 k3 E3=>?_;refine wk ?_;refine wu false s3 hg3 k3 E3 fun h4 n4 s4 k4 E4=>?_;refine wk ?_;exact hK _ _ V1 h4 E4 s4 k4
   · refine wk ?_;refine wr 5 s2' hg2 K2 E2 fun h3 n3 hg3 s3 k3 E3=>?_;refine wk ?_;exact hK _ _ V1 h3 E3 s3 k3
theorem wE {a:Ad}{V:VD}{h:ak}{M:MD}{g:Nat}{K:Value→ak→Prop}(s:St a V h M) (m:Sm M) (ht:M.tm.length≤5000) (hg:g<M.gs.length) (hgl:M.gs.length≤1000)
   (hK:∀ gs all V' h',oZ gs M.gs→(all=(M.off g).all∨all=(M.off g).all++[g])→St a V' h' { M.off g with gs:=gs,all:=all }→Kp (own a V) (own a V') h h'→K (dE []) h'):cy env (.func 40) [mp a,iv g] h K:=by
 have hal:(M.off g).all.length≤5000:=bO qS m.all
 unfold mp at *
 refine F40 rfl ?_
 refine wk ?_
 refine Cf s m ht hg hgl fun b gs V1 h1 E1 s1 k1=>?_
 cases b with
 | false =>
   refine wk ?_
   exact hK gs _ V1 h1 E1 (.inl rfl) s1 k1
 | true =>
   obtain⟨aa,ac,ae,a1,a2,a3,_⟩:=s1.all.cut
   have Dn:=s1.Dn
   have hale:({ M.off g with gs:=gs }:MD).all=(M.off g).all:=rfl
   rw[hale]at ae a3
   rw[ae]at Dn
   have n1:=k1.n
   refine wk ?_
   refine js jS ao a1 a2 a3 ?_
   refine wk ?_
   refine Aq (O:=own a V1) s1.lt a_ rfl (ae▸s1.all.r) a2 a3 ah fun v2 h2 r2 _ x2 n2=>?_
   refine wk ?_
   refine xL (s1.ext x2) r2 fun V3 h3 s3 k3 _=>?_
   refine wk ?_
   exact hK gs _ V3 h3 E1 (.inr rfl) s3 (k1.trans ((Kp.ext x2).trans k3))
structure nE (M M':MD):Prop where
 cfg:M'.cfg=M.cfg
 now:M'.now=M.now
 aX:M'.aX=M.aX
 fg:M'.fg=M.fg
 fc:M'.fc=M.fc
 fs:M'.fs=M.fs
 ax:M'.ax=M.ax
 cw:M'.cw=M.cw
 log:M'.log=M.log
 calls:M'.calls=M.calls
 sh:yH M'.sh M.sh
 cl:wG M'.cl M.cl
 gs:oZ M'.gs M.gs
 ps:M'.ps.length=M.ps.length
 tm:M'.tm.Sublist M.tm
theorem nE.refl (M:MD):nE M M:=⟨rfl,rfl,rfl,rfl,rfl,rfl,rfl,rfl,rfl,rfl,.refl _,.refl _,.refl _,rfl,.refl _⟩
theorem nE.trans {a b c:MD}(x:nE a b) (y:nE b c):nE a c :=
 ⟨y.cfg.trans x.cfg,y.now.trans x.now,y.aX.trans x.aX,y.fg.trans x.fg,y.fc.trans x.fc,y.fs.trans x.fs,y.ax.trans x.ax,y.cw.trans x.cw,y.log.trans x.log,y.calls.trans x.calls,y.sh.trans x.sh,y.cl.trans x.cl,y.gs.trans x.gs,y.ps.trans x.ps,y.tm.trans x.tm⟩
structure Lv (M:MD):Prop where
 gl:M.gs.length≤64
 sl:M.sh.length≤1000
 cl:M.cl.length≤1000
 refs:M.cfg.refs≤16
 ref:kQ M.cl
 jF:v_ M
 lv:∀ z,0<dS M.all M.ps z→∃ h:z<M.gs.length,M.gs[z].is=true
 ZO:∀ z (h:z<M.gs.length),M.gs[z].is=true→(∃ j,aB M.cl M.gs[z].x.ctx=some j)∧∃ l,tP M.sh M.gs[z].x.gG l∧l.length≤5000
theorem Lv.of {M M':MD}(L:Lv M) (S:nE M M') (hr:kQ M'.cl) (hv:∀ z,0<dS M'.all M'.ps z→0<dS M.all M.ps z∨∃ h:z<M.gs.length,M.gs[z].is=true):Lv M' where
 gl:=by rw[S.gs.len];exact L.gl
 sl:=by rw[S.sh.len];exact L.sl
 cl:=by rw[S.cl.len];exact L.cl
 refs:=by rw[S.cfg];exact L.refs
 ref:=hr
 jF:=fun g hg=>S.gs.jF g hg (S.gs.len▸hg) (L.jF g (S.gs.len▸hg))
 lv:=fun z hz=>by
  have:∃ h:z<M.gs.length,M.gs[z].is=true:=by
   rcases hv z hz with h|h;·exact L.lv z h
   ·exact h
  obtain⟨h,hi⟩:=this;have h':z<M'.gs.length:=by rw[S.gs.len];exact h
  exact⟨h',by rw[S.gs.is z h' h];exact hi⟩
 ZO:=fun z h hi=>by have h':z<M.gs.length:=S.gs.len▸h;obtain⟨⟨j,hj⟩,l,hl,hle⟩:=L.ZO z h' (by rw[← S.gs.is z h h'];exact hi);refine⟨⟨j,by rw[S.gs.ctx z h h',S.cl.live];exact hj⟩,l,?_,hle⟩;rw[S.gs.gG z h h'];exact hl.she S.sh.symm
def Tl (all:List Nat) (ps:List PD):List Nat:=all++(ps.map PD.q).flatten
theorem wF (all:List Nat) (ps:List PD) (z:Nat):(Tl all ps).count z=dS all ps z:=by
 have:((ps.map PD.q).flatten).count z=mU ps z:=by
  induction ps with
  | nil=>rfl
  | cons p ps ih=>simp only[dT,mG,hI,ih,tI,PD.q,PD.Bl]
 simp only[Tl,hI,this,dS]
theorem GP {all all' l:List Nat}{ps ps':List PD}(h:∀ z,dS all' ps' z+l.count z=dS all ps z):(Tl all' ps').length+l.length=(Tl all ps).length:=by
 have:(Tl all' ps'++l).Perm (Tl all ps):=List.perm_iff_count.2 fun z=>by rw[hI,wF,wF];exact h z
 have:=this.length_eq;rw[dA]at this;exact this
theorem Mv.same {M:MD}{x:List Nat×List PD}{l:List Nat}(m:Mv M x l):nE M (M.q x):=⟨rfl,rfl,rfl,rfl,rfl,rfl,rfl,rfl,rfl,rfl,.refl _,.refl _,.refl _,m.len,.refl _⟩
theorem Mv.lv {M:MD}{x:List Nat×List PD}{l:List Nat}(L:Lv M) (m:Mv M x l):Lv (M.q x) :=
 L.of m.same L.ref fun z h=>.inl (by have:=m.dS z;simp only[MD.q]at h;omega)
theorem nD.of {M M':MD}(q:nD M) (hg:M'.gs.length=M.gs.length) (ha:M'.all=M.all) (hp:M'.ps=M.ps) (hc:M'.cfg=M.cfg):nD M' :=
 ⟨by rw[hp];exact q.Bj,by rw[hg];exact q.zP,fun z=>by rw[ha,hp];exact q.dS z,fun z h=>by rw[ha,hp]at h;rw[hg];exact q.lt z h,by rw[hp];exact q.next,by rw[hp];exact q.runs,by rw[hc];exact q.ring,by rw[hc];exact q.nR⟩
theorem nD.Ip {M:MD}(q:nD M) {p:Nat}(hp:p<M.ps.length) {y:PD}{all:List Nat}(hn:y.next.length≤1) (hr:y.runs.length≤1) (ho:∀ z,Pl.dS all (M.ps.set p y) z≤1) (hl:∀ z,0<Pl.dS all (M.ps.set p y) z→z<M.gs.length):nD { M with ps:=M.ps.set p y,all:=all } :=
 ⟨by simp only[cS];exact q.Bj,q.zP,ho,hl,fun j h=>by
  simp only[cS]at h;simp only[cJ];split;·exact hn
  ·exact q.next j h,fun j h=>by
  simp only[cS]at h;simp only[cJ];split;·exact hr
  ·exact q.runs j h,q.ring,q.nR⟩
theorem US {all:List Nat}{ps:List PD}{p:Nat}(hp:p<ps.length) (y:PD) (z:Nat):dS all (ps.set p y) z+ps[p].Bl z=dS all ps z+y.Bl z:=by have:=ni hp y z;simp only[dS];omega
end Go.Proofs.YthjlppdnlahhoaaGreat
