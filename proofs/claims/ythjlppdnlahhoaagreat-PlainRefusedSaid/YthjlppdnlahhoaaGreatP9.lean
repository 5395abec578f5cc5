/- THE PLAIN MACHINE's FUNCTIONS, walked (9). Conditions: none beyond each theorem's own. -/
import Derived.Test.YthjlppdnlahhoaaGreatP8
import Derived.Test.YthjlppdnlahhoaaGreatP7
set_option linter.unusedSimpArgs false
set_option linter.unusedVariables false
namespace Go.Proofs.YthjlppdnlahhoaaGreat
open Go.Ev
open Pl
set_option maxRecDepth 100000
set_option maxHeartbeats 4000000
theorem Fr.cut {h:ak}{v:Value}{l:List Nat}(f:Fr h v l) (hl:l≠[]):∃ i r t c,v=.slice (some ⟨i,0,none⟩) l.length c∧i<h.n∧h.b.get i=some (.cells (l.map bZ++r) 3 t)∧fT v i∧(c=l.length∨(c=bh∧h.b.get i=some (.cells (l.map bZ) 3 false))):=by
 obtain⟨hb,x,c,rfl,q,w⟩:=f;obtain⟨i,r,t,rfl,hi⟩:=q hl;have bi:fT (.slice (some ⟨i,0,none⟩) l.length c) i:=⟨_,_,_,rfl,rfl,fun e=>hl (dq.1 e)⟩;refine⟨i,r,t,c,rfl,hb i bi,hi,bi,?_⟩;rcases w with ⟨w,_⟩|⟨w,_,j,e,hj⟩;·exact .inl w
 ·cases e;exact .inr ⟨w,hj⟩
theorem WZ {a:Ad}{V:VD}{h1 h:ak}{M:MD}{K:Value→ak→Prop}[iJ K] {v:Value}{l:List Nat}(s1:St a V h1 M) (hn:h1.n≤h.n) (hk:∀ j,j<h1.n→¬fT V.fg j→h.b.get j=h1.b.get j) (fr:Fr h v l) (hb:∀ j,fT v j→fT V.fg j∨h1.n≤j)
  (q:∀ h',St a { V with fg:=v } h' { M with fg:=l }→Kp (own a V) (own a { V with fg:=v }) h1 h'→h'.n=h.n→K undef h'):jQ 1 (pt a.m 18) v h K:=by
 have hbn:∀ j cs e t,h1.b.get j=some (.cells cs e t)→e≠3→¬fT V.fg j:=fun j cs e t g he bj=>by obtain⟨_,x,c,ev,qq,_⟩:=s1.fg;rw[ev]at bj;obtain⟨y,e1,e2,e3⟩:=aU.1 bj;subst e1;have hne:M.fg≠[]:=fun e=>e3 (by rw[e];rfl);obtain⟨i,r,t',e4,e5⟩:=qq hne;cases e4;rw[← e2]at g;rw[e5]at g;cases g;exact he rfl
 have obj:∀ {w:Value},(∀ j,fT V.fg j→¬fT w j)→(∀ j,fT w j→own a V j)→(∀ j,fT w j→h.b.get j=h1.b.get j):=fun d o j b=>hk j (s1.lt j (o j b)) fun b'=>d j b' b
 have d1:∀ j,fT V.fg j→¬fT V.fc j:=s1.ux.1
 have d2:∀ j,fT V.fg j→¬fT V.fs j:=s1.ux.2.1
 have hfc:Fr h V.fc M.fc:=s1.fc.bM hn fun i _ _ b _=>obj d1 (fun j b=>by simp[own,b]) i b
 have hfs:Fr h V.fs M.fs:=s1.fs.bM hn fun i _ _ b _=>obj d2 (fun j b=>by simp[own,b]) i b
 have hcp:Kc h V.ax M.ax:=s1.ax.bM hn fun i _ _ b g=>hk i (s1.lt i (by simp[own,b])) (hbn i _ _ _ g ao)
 have nw:∀ {w:Value},(∀ j,fT V.fg j→¬fT w j)→(∀ j,fT w j→own a V j)→∀ j,fT v j→¬fT w j:=fun d o j b b'=>by
  rcases hb j b with e|e;·exact d j e b'
  ·have:=s1.lt j (o j b');omega
 have n1:=nw d1 (fun j b=>by simp[own,b])
 have n2:=nw d2 (fun j b=>by simp[own,b])
 obtain⟨s2,k2⟩:=s1.JX (vg:=v) (vc:=V.fc) (vs:=V.fs) (vk:=V.ax) (lg:=l) (lc:=M.fc) (ls:=M.fs) (lk:=M.ax) hn
  (fun j hj ho=>hk j hj fun b=>ho (by simp[own,b])) (fun j hj=>hk j (s1.lt j (by rcases hj with e|e|e|e|e<;>simp[own,e])) (by
   rcases hj with e|e|e|e|e;·subst e;exact hbn _ _ _ _ s1.cZ ao
   ·subst e;obtain⟨t,g⟩:=s1.gs;exact hbn _ _ _ _ g ao
   ·subst e;obtain⟨t,g⟩:=s1.cl;exact hbn _ _ _ _ g ao
   ·subst e;obtain⟨t,g⟩:=s1.sh;exact hbn _ _ _ _ g ao
   ·subst e;obtain⟨t,g⟩:=s1.ps;exact hbn _ _ _ _ g ao)) fr hfc hfs hcp
  (fun j b=>bX (s1.lt j (by simp[own,b])) hn) ⟨n1,n2,s1.ux.2.2⟩ (fun j hj=>by
   rcases hj with e|e|e|e
   ·rcases hb j e with e|e;·exact .inl (by simp[own,e])
    ·exact .inr e
   ·exact .inl (by simp[own,e])
   ·exact .inl (by simp[own,e])
   ·exact .inl (by simp[own,e]))
 obtain⟨x,c,e,_⟩:=fr.2
 exact aM (off:=18) (l:=[v]) ((hk a.m (s1.lt _ fE) (hbn _ _ _ _ s1.cZ ao)).trans s1.cZ) (by rw[e];rfl) rfl rfl (by rw[e];rfl) ao (q _ s2 k2 rfl)
theorem Xk {a:Ad}{V:VD}{h1 h:ak}{M:MD}{K:Value→ak→Prop}[iJ K] {v:Value}{l:List Nat}(s1:St a V h1 M) (hn:h1.n≤h.n) (hk:∀ j,j<h1.n→¬fT V.fc j→h.b.get j=h1.b.get j) (fr:Fr h v l) (hb:∀ j,fT v j→fT V.fc j∨h1.n≤j)
  (q:∀ h',St a { V with fc:=v } h' { M with fc:=l }→Kp (own a V) (own a { V with fc:=v }) h1 h'→h'.n=h.n→K undef h'):jQ 1 (pt a.m 20) v h K:=by
 have hbn:∀ j cs e t,h1.b.get j=some (.cells cs e t)→e≠3→¬fT V.fc j:=fun j cs e t g he bj=>by obtain⟨_,x,c,ev,qq,_⟩:=s1.fc;rw[ev]at bj;obtain⟨y,e1,e2,e3⟩:=aU.1 bj;subst e1;have hne:M.fc≠[]:=fun e=>e3 (by rw[e];rfl);obtain⟨i,r,t',e4,e5⟩:=qq hne;cases e4;rw[← e2]at g;rw[e5]at g;cases g;exact he rfl
 have obj:∀ {w:Value},(∀ j,fT V.fc j→¬fT w j)→(∀ j,fT w j→own a V j)→(∀ j,fT w j→h.b.get j=h1.b.get j):=fun d o j b=>hk j (s1.lt j (o j b)) fun b'=>d j b' b
 have d1:∀ j,fT V.fc j→¬fT V.fg j:=fun j b b'=>s1.ux.1 j b' b
 have d2:∀ j,fT V.fc j→¬fT V.fs j:=s1.ux.2.2
 have hfg:Fr h V.fg M.fg:=s1.fg.bM hn fun i _ _ b _=>obj d1 (fun j b=>by simp[own,b]) i b
 have hfs:Fr h V.fs M.fs:=s1.fs.bM hn fun i _ _ b _=>obj d2 (fun j b=>by simp[own,b]) i b
 have hcp:Kc h V.ax M.ax:=s1.ax.bM hn fun i _ _ b g=>hk i (s1.lt i (by simp[own,b])) (hbn i _ _ _ g ao)
 have nw:∀ {w:Value},(∀ j,fT V.fc j→¬fT w j)→(∀ j,fT w j→own a V j)→∀ j,fT v j→¬fT w j:=fun d o j b b'=>by
  rcases hb j b with e|e;·exact d j e b'
  ·have:=s1.lt j (o j b');omega
 have n1:=nw d1 (fun j b=>by simp[own,b])
 have n2:=nw d2 (fun j b=>by simp[own,b])
 obtain⟨s2,k2⟩:=s1.JX (vg:=V.fg) (vc:=v) (vs:=V.fs) (vk:=V.ax) (lg:=M.fg) (lc:=l) (ls:=M.fs) (lk:=M.ax) hn
  (fun j hj ho=>hk j hj fun b=>ho (by simp[own,b])) (fun j hj=>hk j (s1.lt j (by rcases hj with e|e|e|e|e<;>simp[own,e])) (by
   rcases hj with e|e|e|e|e;·subst e;exact hbn _ _ _ _ s1.cZ ao
   ·subst e;obtain⟨t,g⟩:=s1.gs;exact hbn _ _ _ _ g ao
   ·subst e;obtain⟨t,g⟩:=s1.cl;exact hbn _ _ _ _ g ao
   ·subst e;obtain⟨t,g⟩:=s1.sh;exact hbn _ _ _ _ g ao
   ·subst e;obtain⟨t,g⟩:=s1.ps;exact hbn _ _ _ _ g ao)) hfg fr hfs hcp
  (fun j b=>bX (s1.lt j (by simp[own,b])) hn) ⟨fun j b b'=>n1 j b' b,s1.ux.2.1,n2⟩ (fun j hj=>by
   rcases hj with e|e|e|e;·exact .inl (by simp[own,e])
   ·rcases hb j e with e|e;·exact .inl (by simp[own,e])
    ·exact .inr e
   ·exact .inl (by simp[own,e])
   ·exact .inl (by simp[own,e]))
 obtain⟨x,c,e,_⟩:=fr.2
 exact aM (off:=20) (l:=[v]) ((hk a.m (s1.lt _ fE) (hbn _ _ _ _ s1.cZ ao)).trans s1.cZ) (by rw[e];rfl) rfl rfl (by rw[e];rfl) ao (q _ s2 k2 rfl)
theorem Xr {a:Ad}{V:VD}{h1 h:ak}{M:MD}{K:Value→ak→Prop}[iJ K] {v:Value}{l:List Nat}(s1:St a V h1 M) (hn:h1.n≤h.n) (hk:∀ j,j<h1.n→¬fT V.fs j→h.b.get j=h1.b.get j) (fr:Fr h v l) (hb:∀ j,fT v j→fT V.fs j∨h1.n≤j)
  (q:∀ h',St a { V with fs:=v } h' { M with fs:=l }→Kp (own a V) (own a { V with fs:=v }) h1 h'→h'.n=h.n→K undef h'):jQ 1 (pt a.m 22) v h K:=by
 have hbn:∀ j cs e t,h1.b.get j=some (.cells cs e t)→e≠3→¬fT V.fs j:=fun j cs e t g he bj=>by obtain⟨_,x,c,ev,qq,_⟩:=s1.fs;rw[ev]at bj;obtain⟨y,e1,e2,e3⟩:=aU.1 bj;subst e1;have hne:M.fs≠[]:=fun e=>e3 (by rw[e];rfl);obtain⟨i,r,t',e4,e5⟩:=qq hne;cases e4;rw[← e2]at g;rw[e5]at g;cases g;exact he rfl
 have obj:∀ {w:Value},(∀ j,fT V.fs j→¬fT w j)→(∀ j,fT w j→own a V j)→(∀ j,fT w j→h.b.get j=h1.b.get j):=fun d o j b=>hk j (s1.lt j (o j b)) fun b'=>d j b' b
 have d1:∀ j,fT V.fs j→¬fT V.fg j:=fun j b b'=>s1.ux.2.1 j b' b
 have d2:∀ j,fT V.fs j→¬fT V.fc j:=fun j b b'=>s1.ux.2.2 j b' b
 have hfg:Fr h V.fg M.fg:=s1.fg.bM hn fun i _ _ b _=>obj d1 (fun j b=>by simp[own,b]) i b
 have hfc:Fr h V.fc M.fc:=s1.fc.bM hn fun i _ _ b _=>obj d2 (fun j b=>by simp[own,b]) i b
 have hcp:Kc h V.ax M.ax:=s1.ax.bM hn fun i _ _ b g=>hk i (s1.lt i (by simp[own,b])) (hbn i _ _ _ g ao)
 have nw:∀ {w:Value},(∀ j,fT V.fs j→¬fT w j)→(∀ j,fT w j→own a V j)→∀ j,fT v j→¬fT w j:=fun d o j b b'=>by
  rcases hb j b with e|e;·exact d j e b'
  ·have:=s1.lt j (o j b');omega
 have n1:=nw d1 (fun j b=>by simp[own,b])
 have n2:=nw d2 (fun j b=>by simp[own,b])
 obtain⟨s2,k2⟩:=s1.JX (vg:=V.fg) (vc:=V.fc) (vs:=v) (vk:=V.ax) (lg:=M.fg) (lc:=M.fc) (ls:=l) (lk:=M.ax) hn
  (fun j hj ho=>hk j hj fun b=>ho (by simp[own,b])) (fun j hj=>hk j (s1.lt j (by rcases hj with e|e|e|e|e<;>simp[own,e])) (by
   rcases hj with e|e|e|e|e;·subst e;exact hbn _ _ _ _ s1.cZ ao
   ·subst e;obtain⟨t,g⟩:=s1.gs;exact hbn _ _ _ _ g ao
   ·subst e;obtain⟨t,g⟩:=s1.cl;exact hbn _ _ _ _ g ao
   ·subst e;obtain⟨t,g⟩:=s1.sh;exact hbn _ _ _ _ g ao
   ·subst e;obtain⟨t,g⟩:=s1.ps;exact hbn _ _ _ _ g ao)) hfg hfc fr hcp
  (fun j b=>bX (s1.lt j (by simp[own,b])) hn) ⟨s1.ux.1,fun j b b'=>n1 j b' b,fun j b b'=>n2 j b' b⟩ (fun j hj=>by
   rcases hj with e|e|e|e;·exact .inl (by simp[own,e])
   ·exact .inl (by simp[own,e])
   ·rcases hb j e with e|e;·exact .inl (by simp[own,e])
    ·exact .inr e
   ·exact .inl (by simp[own,e]))
 obtain⟨x,c,e,_⟩:=fr.2
 exact aM (off:=22) (l:=[v]) ((hk a.m (s1.lt _ fE) (hbn _ _ _ _ s1.cZ ao)).trans s1.cZ) (by rw[e];rfl) rfl rfl (by rw[e];rfl) ao (q _ s2 k2 rfl)
theorem Pk {e:TypeId}{sz n m i:Nat}{y:Value}{h:ak}{K:Value→ak→Prop}[iJ K] {cs new:List Value}(h3:h.b.get i=some (.cells cs e false)) (hlen:cs.length=n*sz) (hy:lenOf y=some m) (hm:m≠0) (hsz:n+m≤1000000) (hnew:firstCells h sz m y=some new) (hone:new.all aE=true) (hpos:sz≠0)
   (k:K (.slice (some ⟨h.n,0,none⟩) (n+m) bh) (ai { h with b:=h.b.set i .dead } (.cells (cs++new) e false))):iK e sz (.slice (some ⟨i,0,none⟩) n bh) y h K:=by
 have pos:0<m*sz:=Nat.mul_pos ah ah
 simp only[iK,hy]
 refine⟨⟨ah,.inr hm⟩,fun h0=>absurd h0 hm,fun _=>?_⟩
 rw[hnew,bu]
 refine⟨hone,?_⟩
 have:bW h e sz (some ⟨i,0,none⟩) n bh m new=some (.slice (some ⟨h.n,0,none⟩) (n+m) bh,ai { h with b:=h.b.set i .dead } (.cells (cs++new) e false)):=by
   unfold bW;have f1:Nat.beq bh fb=false:=rfl;have f3:Nat.ble ((n+m)*sz) cs.length=false:=by
     cases hb:Nat.ble ((n+m)*sz) cs.length with
     | true =>
       have:=fX hb
       rw[hlen,iN]at this
       omega
     | false=>rfl
   have f4:Nat.beq (n*sz) cs.length=true:=by rw[hlen];exact db _
   simp only[f1,h3,cond_false,cond_true,db,f3,f4]
 rw[this,fj]
 exact k
theorem Av {h:ak}{v:Value}{l:List Nat}{i j:Nat}{K:Value→ak→Prop}[iJ K] (f:Fr h v l) (hj:j=h.n) (hl:l.length≤1000)
   (k:∀ v' h',Fr h' v' (l++[i])→(∀ j,fT v' j→fT v j∨h.n≤j)→h.n+1≤h'.n→(∀ j,j<h.n→¬fT v j→h'.b.get j=h.b.get j)→K v' h'):iK 3 1 v (.slice (some ⟨j,0,none⟩) 1 1) (ai h (.cells [iv i] 3 true)) K:=by
 subst hj
 have NS:∀ {N:Nat}{v':Value}{h':ak},bT N h' 3 v' (l.length+1) (l.map bZ++[bZ i])→Fr h' v' (l++[i])∧∀ j,fT v' j→N≤j:=fun {N v' h'} o=>by
   generalize hcs:l.map bZ++[bZ i]=cs at o;generalize hnn:l.length+1=nn at o;cases o with
   | nil=>omega
   | emp _ _=>omega
   | row b n cs h1 h2 h3 =>
     have e:(l++[i]).map bZ=cs:=by rw[← hcs];simp
     have en:(l++[i]).length=nn:=by rw[← hnn];simp
     refine⟨⟨fun j bj=>?_,some ⟨b,0,none⟩,bh,by rw[en],fun _=>⟨b,[],false,rfl,by rw[ei,e];exact h3⟩,.inr ⟨rfl,an,b,rfl,by rw[e];exact h3⟩⟩,fun j bj=>?_⟩
     · obtain⟨x,e,rfl,_⟩:=aU.1 bj;cases e;exact h2
     · obtain⟨x,e,rfl,_⟩:=aU.1 bj;cases e;exact h1
 by_cases h0:l=[]
 · subst h0;obtain⟨_,x,c,rfl,_,w⟩:=f;rcases w with ⟨rfl,w⟩|⟨_,w,_⟩;· have o:bT 0 h 3 (.slice x 0 0) 0 []∨True:=.inr trivial;refine jL (n:=0) (m:=1) (cs:=[]) (new:=[bZ i]) (by omega) (fun _=>rfl) (by cases x<;>rfl) rfl (by decide) (by decide) (by simp only[firstCells,fk];exact aV rfl) rfl ?_;have o2:bT h.n (ai (ai h (.cells [iv i] 3 true)) (.cells ([]++[bZ i]) 3 false)) 3 (.slice (some ⟨(ai h (.cells [iv i] 3 true)).n,0,none⟩) (0+1) bh) (([]:List Nat).length+1) (([]:List Nat).map bZ++[bZ i]):=.row _ _ _ (by simp[ai]) (by simp[ai]) (az _ _);obtain⟨f2,b2⟩:=NS o2;exact k _ _ f2 (fun j bj=>.inr (b2 j bj)) (by show h.n+1≤h.n+1+1;omega) fun j hj _=>by rw[aK _ (by show j<h.n+1;omega),aK _ hj]
   · exact absurd rfl w
 · obtain⟨b,r,t,c,rfl,hb,hg,bb,w⟩:=f.cut h0;have X:aw h.n h (ai h (.cells [iv i] 3 true)):=br;rcases w with rfl|⟨rfl,hg2⟩
   · refine jL (n:=l.length) (m:=1) (cs:=l.map bZ) (new:=[bZ i]) ah (fun e=>by cases e) ?_ rfl ao ao (by simp only[firstCells,fk];exact aV rfl) rfl ?_;· refine nJ X hb ?_;simp only[firstCells,bQ];exact aq hb hg (by rw[eh,← aI (f:=bZ),List.take_left]) an
     · have o2:bT h.n (ai (ai h (.cells [iv i] 3 true)) (.cells (l.map bZ++[bZ i]) 3 false)) 3 (.slice (some ⟨(ai h (.cells [iv i] 3 true)).n,0,none⟩) (l.length+1) bh) (l.length+1) (l.map bZ++[bZ i]):=.row _ _ _ (by simp[ai]) (by simp[ai]) (az _ _);obtain⟨f2,b2⟩:=NS o2;exact k _ _ f2 (fun j bj=>.inr (b2 j bj)) (by show h.n+1≤h.n+1+1;omega) fun j hj _=>by rw[aK _ (by show j<h.n+1;omega),aK _ hj]
   · have hg3:(ai h (.cells [iv i] 3 true)).b.get b=some (.cells (l.map bZ) 3 false):=(aK _ hb).trans hg2;refine Pk (m:=1) (new:=[bZ i]) hg3 an rfl ao ah (by simp only[firstCells,fk];exact aV rfl) rfl ao ?_;have o2:bT (h.n+1) (ai { (ai h (.cells [iv i] 3 true)) with b:=(ai h (.cells [iv i] 3 true)).b.set b .dead } (.cells (l.map bZ++[bZ i]) 3 false)) 3 (.slice (some ⟨(ai h (.cells [iv i] 3 true)).n,0,none⟩) (l.length+1) bh) (l.length+1) (l.map bZ++[bZ i]):=.row _ _ _ (by simp[ai]) (by simp[ai]) (by simp[ai,T.aj]);obtain⟨f2,b2⟩:=NS o2;refine k _ _ f2 (fun j bj=>.inr (by have:=b2 j bj;omega)) (by show h.n+1≤h.n+1+1;omega) fun j hj hno=>?_;have hne:b≠j:=fun e=>hno (e▸bb);simp only[ai];rw[T.aR _ _ ah,T.aR _ _ hne,T.aR _ _ ah]
theorem St.locK {a:Ad}{V V':VD}{h0 h:ak}{M0 M:MD}{j:Nat}{k:iY}(s0:St a V h0 M0) (s:St a V' h M) (kp:Kp (own a V) (own a V') h0 h) (hj:h0.n≤j) (ho:¬own a V' j)
   (e1:V'.all=V.all∧M.all=M0.all) (e2:V'.tm=V.tm∧M.tm=M0.tm) (e3:V'.log=V.log∧M.log=M0.log) (e4:V'.ps=V.ps∧M.ps=M0.ps) (e5:V'.cG=V.cG∧M.cfg=M0.cfg)
   (hc:∀ p (h1:p<V'.cl.length) (h2:p<M.cl.length),Eg (own a V') (aO h j k) V'.cl[p] M.cl[p]):St a V' (aO h j k) M:=by
 have kp':Kp (own a V) (own a V') h0 (aO h j k):=kp.loc hj
 have ne:∀ {i:Nat},own a V' i→i≠j:=fun o e=>ho (e▸o)
 have bM:∀ {i:Nat}{cs:List Value}{e:TypeId}{u:Bool},own a V' i→h.b.get i=some (.cells cs e u)→(aO h j k).b.get i=some (.cells cs e u):=fun o q=>(aC (ne o)).trans q
 exact { lt:=s.lt,cZ:=bM fE s.cZ,gs:=s.gs.imp fun _ q=>bM qe q,cl:=s.cl.imp fun _ q=>bM uj q,sh:=s.sh.imp fun _ q=>bM um q,ps:=s.ps.imp fun _ q=>bM pO q,
         fg:=s.fg.bM a_ fun i _ _ b _=>aC (ne (by simp[own,b])),fc:=s.fc.bM a_ fun i _ _ b _=>aC (ne (by simp[own,b])),fs:=s.fs.bM a_ fun i _ _ b _=>aC (ne (by simp[own,b])),ux:=s.ux,
         ax:=s.ax.bM a_ fun i _ _ b _=>aC (ne (by simp[own,b])),
         all:=by rw[e1.1,e1.2];exact s0.all.kp kp',tm:=by rw[e2.1,e2.2];exact s0.tm.kp kp',log:=by rw[e3.1,e3.2];exact s0.log.kp kp',xU:=s.xU,xR:=fun p h1 h2=>by have h1':p<V.ps.length:=e4.1▸h1;have h2':p<M0.ps.length:=e4.2▸h2;have:=(s0.xR p h1' h2').kp kp';simp only[e4.1,e4.2];exact this
         Bv:=s.Bv,Af:=hc,pr:=by rw[e5.1,e5.2];exact mu s0.pr kp' }
theorem eqc {α:Type}(l:List α):l=[]∨∃ f i,l=f++[i]:=by
 rcases zb l with h|⟨f,i,h⟩;·exact .inl h
 ·exact .inr ⟨f,i,by rw[h,List.concat_eq_append]⟩
theorem UZ (x:GD):(bt 50 (.agg ⟨x.cells⟩) (.agg ⟨x.cells⟩)=true)=True:=by simp[GD.cells,bt,bt.go]
theorem VM (x:SD):(bt 50 (.agg ⟨x.cells⟩) (.agg ⟨x.cells⟩)=true)=True:=by simp[SD.cells,bt,bt.go]
theorem Fm {a:Ad}{V:VD}{h:ak}{M:MD}{x:GD}{K:Value→ak→Prop}(s:St a V h M) (hin:∀ i∈M.fg,i<M.gs.length) (hfl:M.fg.length≤1000) (hgl:M.gs.length≤1000)
  (hK0:M.fg=[]→∀ h',aw h.n h h'→K (.tuple #[.agg ⟨[iv 0,uv 0]⟩,.bool false]) h')
  (hK1:∀ f i (hi:i<M.gs.length),M.fg=f++[i]→∀ V' h',St a V' h' { M with fg:=f,gs:=M.gs.set i ⟨M.gs[i].gen,true,x⟩ }→Kp (own a V) (own a V') h h'→K (.tuple #[.agg ⟨[iv i,uv M.gs[i].gen]⟩,.bool true]) h') :
  cy env (.func 22) [pt a.m 17,.agg ⟨x.cells⟩] h K:=by
 refine F22 rfl ?_
 have X1:aw h.n h (ai h (.cells x.cells 81 true)):=br
 have g1:(ai h (.cells x.cells 81 true)).b.get h.n=some (.cells x.cells 81 true):=az _ _
 have n1:(ai h (.cells x.cells 81 true)).n=h.n+1:=rfl
 have X2:aw (h.n+1) (ai h (.cells x.cells 81 true)) (ai (ai h (.cells x.cells 81 true)) (.cells [iv 0,uv 0] 38 true)):=br
 have g2:(ai (ai h (.cells x.cells 81 true)) (.cells [iv 0,uv 0] 38 true)).b.get (h.n+1)=some (.cells [iv 0,uv 0] 38 true):=az _ _
 have n2:(ai (ai h (.cells x.cells 81 true)) (.cells [iv 0,uv 0] 38 true)).n=h.n+1+1:=rfl
 have X12:=X1.trans (X2.mono (aL h.n))
 have g1':=X2.cY g1
 have s2:=s.ext X12
 have k18:=s2.k18
 rcases eqc M.fg with h0|⟨f,i,hfi⟩
 ·obtain⟨_,fv,fc,fe,_,_⟩:=s2.fg;rw[fe,h0]at k18;have wn0:IntKind.wrap .i64 (((0:Nat):Int)-1) = -1:=rfl;have ww:=mW (aN @cF.{0} @wn0);refine wk ?_;refine aM (off:=0) (cs':=[iv 0,uv 0]) g2 rfl rfl rfl rfl ao ?_;refine wk ?_;have dt:=aq (h:=aO (ai (ai h (.cells x.cells 81 true)) (.cells [iv 0,uv 0] 38 true)) (h.n+1) (.cells [iv 0,uv 0] 38 true)) (i:=h.n+1) (off:=0) (n:=2) (by show h.n+1<h.n+1+1;omega) aF rfl rfl;refine wk ?_;exact hK0 h0 _ (X12.trans (aw.set _ ah))
 ·have hne:M.fg≠[]:=by rw[hfi];simp
  have hfl':M.fg.length=f.length+1:=by rw[hfi];simp
  have hil:i<M.gs.length:=hin i (by rw[hfi];simp);obtain⟨b,r,t,c,fe,hb,hg,bb,fw⟩:=s2.fg.cut hne;have hc2:c≠fb:=by
   rcases fw with rfl|⟨rfl,_⟩;·unfold fb;omega
   ·decide
  have hc1:M.fg.length≤c:=by
   rcases fw with rfl|⟨rfl,_⟩;·exact aQ _
   ·unfold bh;omega
  have wn:IntKind.wrap .i64 ((M.fg.length:Int)-1)=((f.length:Nat):Int):=by rw[wrap_i64 ah ah];omega
  rw[fe]at k18;rw[hfi]at hg;have ci:=ay (off:=f.length) hb hg (v:=iv i) (by simp[bZ]);have o1:¬own a V (h.n):=fun o=>by have:=s.lt _ o;omega
  have o2:¬own a V (h.n+1):=fun o=>by have:=s.lt _ o;omega
  have dx:av (ai (ai h (.cells x.cells 81 true)) (.cells [iv 0,uv 0] 38 true)) ⟨h.n,0,none⟩ 19=some x.cells:=aq (off:=0) (n:=19) ah g1' rfl rfl;have ww:=mW (aN @wn @bQ);refine wk ?_;generalize ai (ai h (.cells x.cells 81 true)) (.cells [iv 0,uv 0] 38 true)=h2 at X12 g1' g2 n2 s2 hb hg ci dx k18 fw ⊢;refine jV jS ao hc2 ah hc1 ?_;refine wk ?_;refine WZ (l:=f) s2 a_ (fun _ _ _=>rfl) ⟨fun j bj=>?_,some ⟨b,0,none⟩,f.length,rfl,fun _=>⟨b,[bZ i]++r,t,rfl,by rw[hg];simp⟩,.inl ⟨rfl,fun x e=>by cases e;exact⟨rfl,rfl⟩⟩⟩ (fun j bj=>?_) fun h3 s3 k3 n3=>?_;·obtain⟨x,e,rfl,_⟩:=aU.1 bj;cases e;exact hb
  ·obtain⟨x,e,rfl,_⟩:=aU.1 bj;cases e;exact .inl bb
  have dx3:=fz k3 ah o1 dx;refine wk ?_;refine lY s3 hil (j:=1) (y:={ M.gs[i]with is:=true }) ah rfl rfl rfl rfl ao fun h4 s4 k4 n4=>?_;have hil4:i<(M.gs.set i { M.gs[i]with is:=true }).length:=by simpa using hil
  have dx4:=fz k4 ah (k3.no ah o1) dx3;have sx:=UZ x;have k17':=s4.M6;simp only[cS]at k17';have ww:=ww.a @sx;refine wk ?_;refine lY s4 hil4 (j:=2) (y:=⟨M.gs[i].gen,true,x⟩) ah rfl rfl (by simp only[cU];rfl) rfl ao fun h5 s5 k5 n5=>?_;have s5':St a { V with fg:=.slice (some ⟨b,0,none⟩) f.length f.length } h5 { M with fg:=f,gs:=M.gs.set i ⟨M.gs[i].gen,true,x⟩ }:=by simpa only[iD]using s5
  have hil5:i<(M.gs.set i ⟨M.gs[i].gen,true,x⟩).length:=by simpa using hil
  have K5:=(Kp.ext X12).trans (k3.trans (k4.trans k5));refine wk ?_;refine pS s5' hil5 fun h6 x6=>?_;have n6:=x6.n;have hge:(M.gs.set i ⟨M.gs[i].gen,true,x⟩)[i].gen=M.gs[i].gen:=an;have K25:=k3.trans (k4.trans k5);have g6:=x6.cY ((K25.get (h.n+1) ah o2).trans g2);have o6:=K25.no ah o2;have ww:=ww.a @hge;refine wk ?_;refine aM (off:=0) (cs':=[iv i,uv M.gs[i].gen]) g6 rfl rfl rfl rfl ao ?_;have s7:=St.locK (k:=.cells [iv i,uv M.gs[i].gen] 38 true) s (s5'.ext x6) (K5.trans (Kp.ext x6)) (aL h.n) o6 ⟨rfl,rfl⟩ ⟨rfl,rfl⟩ ⟨rfl,rfl⟩ ⟨rfl,rfl⟩ ⟨rfl,rfl⟩ (fun p h1 h2=>(s.Af p h1 h2).kp ((K5.trans (Kp.ext x6)).loc (aL h.n)));have d7:=aq (h:=aO h6 (h.n+1) (.cells [iv i,uv M.gs[i].gen] 38 true)) (i:=h.n+1) (off:=0) (n:=2) (by show h.n+1<h6.n;omega) aF rfl rfl;refine wk ?_;exact hK1 f i hil hfi _ _ s7 ((K5.trans (Kp.ext x6)).loc (aL h.n))
theorem Gl {a:Ad}{V:VD}{h:ak}{M:MD}{x:SD}{K:Value→ak→Prop}(s:St a V h M) (hin:∀ i∈M.fs,i<M.sh.length) (hfl:M.fs.length≤1000) (hgl:M.sh.length≤1000)
  (hK0:M.fs=[]→∀ h',aw h.n h h'→K (.tuple #[.agg ⟨[iv 0,uv 0]⟩,.bool false]) h')
  (hK1:∀ f i (hi:i<M.sh.length),M.fs=f++[i]→∀ V' h',St a V' h' { M with fs:=f,sh:=M.sh.set i ⟨M.sh[i].gen,true,x⟩ }→Kp (own a V) (own a V') h h'→K (.tuple #[.agg ⟨[iv i,uv M.sh[i].gen]⟩,.bool true]) h') :
  cy env (.func 20) [pt a.m 21,.agg ⟨x.cells⟩] h K:=by
 refine F20 rfl ?_
 have X1:aw h.n h (ai h (.cells x.cells 94 true)):=br
 have g1:(ai h (.cells x.cells 94 true)).b.get h.n=some (.cells x.cells 94 true):=az _ _
 have n1:(ai h (.cells x.cells 94 true)).n=h.n+1:=rfl
 have X2:aw (h.n+1) (ai h (.cells x.cells 94 true)) (ai (ai h (.cells x.cells 94 true)) (.cells [iv 0,uv 0] 38 true)):=br
 have g2:(ai (ai h (.cells x.cells 94 true)) (.cells [iv 0,uv 0] 38 true)).b.get (h.n+1)=some (.cells [iv 0,uv 0] 38 true):=az _ _
 have n2:(ai (ai h (.cells x.cells 94 true)) (.cells [iv 0,uv 0] 38 true)).n=h.n+1+1:=rfl
 have X12:=X1.trans (X2.mono (aL h.n))
 have g1':=X2.cY g1
 have s2:=s.ext X12
 have k22:=s2.k22
 rcases eqc M.fs with h0|⟨f,i,hfi⟩
 ·obtain⟨_,fv,fc,fe,_,_⟩:=s2.fs;rw[fe,h0]at k22;have wn0:IntKind.wrap .i64 (((0:Nat):Int)-1) = -1:=rfl;have ww:=mW (aN @cF.{0} @wn0);refine wk ?_;refine aM (off:=0) (cs':=[iv 0,uv 0]) g2 rfl rfl rfl rfl ao ?_;refine wk ?_;have dt:=aq (h:=aO (ai (ai h (.cells x.cells 94 true)) (.cells [iv 0,uv 0] 38 true)) (h.n+1) (.cells [iv 0,uv 0] 38 true)) (i:=h.n+1) (off:=0) (n:=2) (by show h.n+1<h.n+1+1;omega) aF rfl rfl;refine wk ?_;exact hK0 h0 _ (X12.trans (aw.set _ ah))
 ·have hne:M.fs≠[]:=by rw[hfi];simp
  have hfl':M.fs.length=f.length+1:=by rw[hfi];simp
  have hil:i<M.sh.length:=hin i (by rw[hfi];simp);obtain⟨b,r,t,c,fe,hb,hg,bb,fw⟩:=s2.fs.cut hne;have hc2:c≠fb:=by
   rcases fw with rfl|⟨rfl,_⟩;·unfold fb;omega
   ·decide
  have hc1:M.fs.length≤c:=by
   rcases fw with rfl|⟨rfl,_⟩;·exact aQ _
   ·unfold bh;omega
  have wn:IntKind.wrap .i64 ((M.fs.length:Int)-1)=((f.length:Nat):Int):=by rw[wrap_i64 ah ah];omega
  rw[fe]at k22;rw[hfi]at hg;have ci:=ay (off:=f.length) hb hg (v:=iv i) (by simp[bZ]);have o1:¬own a V (h.n):=fun o=>by have:=s.lt _ o;omega
  have o2:¬own a V (h.n+1):=fun o=>by have:=s.lt _ o;omega
  have dx:av (ai (ai h (.cells x.cells 94 true)) (.cells [iv 0,uv 0] 38 true)) ⟨h.n,0,none⟩ 7=some x.cells:=aq (off:=0) (n:=7) ah g1' rfl rfl;have ww:=mW (aN @wn @bQ);refine wk ?_;generalize ai (ai h (.cells x.cells 94 true)) (.cells [iv 0,uv 0] 38 true)=h2 at X12 g1' g2 n2 s2 hb hg ci dx k22 fw ⊢;refine jV jS ao hc2 ah hc1 ?_;refine wk ?_;refine Xr (l:=f) s2 a_ (fun _ _ _=>rfl) ⟨fun j bj=>?_,some ⟨b,0,none⟩,f.length,rfl,fun _=>⟨b,[bZ i]++r,t,rfl,by rw[hg];simp⟩,.inl ⟨rfl,fun x e=>by cases e;exact⟨rfl,rfl⟩⟩⟩ (fun j bj=>?_) fun h3 s3 k3 n3=>?_;·obtain⟨x,e,rfl,_⟩:=aU.1 bj;cases e;exact hb
  ·obtain⟨x,e,rfl,_⟩:=aU.1 bj;cases e;exact .inl bb
  have dx3:=fz k3 ah o1 dx;refine wk ?_;refine HQ s3 hil (j:=1) (y:={ M.sh[i]with is:=true }) ah rfl rfl rfl rfl ao fun h4 s4 k4 n4=>?_;have hil4:i<(M.sh.set i { M.sh[i]with is:=true }).length:=by simpa using hil
  have dx4:=fz k4 ah (k3.no ah o1) dx3;have sx:=VM x;have k21':=s4.k21;simp only[cS]at k21';have ww:=ww.a @sx;refine wk ?_;refine HQ s4 hil4 (j:=2) (y:=⟨M.sh[i].gen,true,x⟩) ah rfl rfl (by simp only[cU];rfl) rfl ao fun h5 s5 k5 n5=>?_;have s5':St a { V with fs:=.slice (some ⟨b,0,none⟩) f.length f.length } h5 { M with fs:=f,sh:=M.sh.set i ⟨M.sh[i].gen,true,x⟩ }:=by simpa only[iD]using s5
  have hil5:i<(M.sh.set i ⟨M.sh[i].gen,true,x⟩).length:=by simpa using hil
  have K5:=(Kp.ext X12).trans (k3.trans (k4.trans k5));refine wk ?_;refine vz s5' hil5 fun h6 x6=>?_;have n6:=x6.n;have hge:(M.sh.set i ⟨M.sh[i].gen,true,x⟩)[i].gen=M.sh[i].gen:=an;have K25:=k3.trans (k4.trans k5);have g6:=x6.cY ((K25.get (h.n+1) ah o2).trans g2);have o6:=K25.no ah o2;have ww:=ww.a @hge;refine wk ?_;refine aM (off:=0) (cs':=[iv i,uv M.sh[i].gen]) g6 rfl rfl rfl rfl ao ?_;have s7:=St.locK (k:=.cells [iv i,uv M.sh[i].gen] 38 true) s (s5'.ext x6) (K5.trans (Kp.ext x6)) (aL h.n) o6 ⟨rfl,rfl⟩ ⟨rfl,rfl⟩ ⟨rfl,rfl⟩ ⟨rfl,rfl⟩ ⟨rfl,rfl⟩ (fun p h1 h2=>(s.Af p h1 h2).kp ((K5.trans (Kp.ext x6)).loc (aL h.n)));have d7:=aq (h:=aO h6 (h.n+1) (.cells [iv i,uv M.sh[i].gen] 38 true)) (i:=h.n+1) (off:=0) (n:=2) (by show h.n+1<h6.n;omega) aF rfl rfl;refine wk ?_;exact hK1 f i hil hfi _ _ s7 ((K5.trans (Kp.ext x6)).loc (aL h.n))
theorem R' {a:Ad}{V:VD}{h:ak}{M:MD}{K:Value→ak→Prop}[iJ K] (s:St a V h M) {k:Nat}(hk:k<M.cl.length) {i j n:Nat}{v:Value}{new:List Value}{w y:Ob XW}{x:Ob XD}(hi:i=k*6+j) (hw:∃ hv:k<V.cl.length,w=V.cl[k]) (hv:v.cells.toList=new) (hl:new.length=n) (ho:fV (Ob.cells XW.cells w) j new=some (Ob.cells XW.cells y)) (h1:new.all aE=true) (hn:n≠0)
  (r:Eg (own a V) h y x) (q:∀ h',St a { V with cl:=V.cl.set k y } h' { M with cl:=M.cl.set k x }→Kp (own a V) (own a { V with cl:=V.cl.set k y }) h h'→h'.n=h.n→K undef h'):jQ n (pt a.c i) v h K:=by
 subst hi
 obtain⟨hv',rfl⟩:=hw
 obtain⟨t,hb⟩:=s.cl
 have:=s.setC (p:=k) (t:=t) r
 exact jc (y:=y) hb (ja (n:=4) fun _=>rfl) hv' hv hl ho h1 hn (q _ this.1 this.2 rfl)
theorem ED {a:Ad}{V:VD}{h:ak}{M:MD}{x:XW}{refs:List RF}{K:Value→ak→Prop}(s:St a V h M) (r:RS (own a V) 2 h x.ref (refs.map RF.cells)) (hin:∀ i∈M.fc,i<M.cl.length) (hfl:M.fc.length≤1000) (hgl:M.cl.length≤1000)
   (hK0:M.fc=[]→∀ h',aw h.n h h'→K (.tuple #[.agg ⟨[iv 0,uv 0]⟩,.bool false]) h')
   (hK1:∀ f i (hi:i<M.cl.length),M.fc=f++[i]→∀ V' h',St a V' h' { M with fc:=f,cl:=M.cl.set i ⟨M.cl[i].gen,true,⟨x.iP,x.ee,refs,x.dH⟩⟩ }→Kp (own a V) (own a V') h h'→K (.tuple #[.agg ⟨[iv i,uv M.cl[i].gen]⟩,.bool true]) h') :
   cy env (.func 21) [pt a.m 19,.agg ⟨x.cells⟩] h K:=by
 refine F21 rfl ?_
 have hone:x.cells.all aE=true:=by obtain ⟨_,_,_,e,_⟩:=r.c;simp[XW.cells,aE,e]
 have X1:aw h.n h (ai h (.cells x.cells 88 true)):=br
 have g1:(ai h (.cells x.cells 88 true)).b.get h.n=some (.cells x.cells 88 true):=az _ _
 have n1:(ai h (.cells x.cells 88 true)).n=h.n+1:=rfl
 have X2:aw (h.n+1) (ai h (.cells x.cells 88 true)) (ai (ai h (.cells x.cells 88 true)) (.cells [iv 0,uv 0] 38 true)):=br
 have g2:(ai (ai h (.cells x.cells 88 true)) (.cells [iv 0,uv 0] 38 true)).b.get (h.n+1)=some (.cells [iv 0,uv 0] 38 true):=az _ _
 have n2:(ai (ai h (.cells x.cells 88 true)) (.cells [iv 0,uv 0] 38 true)).n=h.n+1+1:=rfl
 have X12:=X1.trans (X2.mono (aL h.n))
 have g1':=X2.cY g1
 have s2:=s.ext X12
 have k20:=s2.k20
 rcases eqc M.fc with h0|⟨f,i,hfi⟩
 · obtain⟨_,fv,fc,fe,_,_⟩:=s2.fc;rw[fe,h0]at k20;have wn0:IntKind.wrap .i64 (((0:Nat):Int)-1) = -1:=rfl;have ww:=mW (aN @cF.{0} @wn0);refine wk ?_;refine aM (off:=0) (cs':=[iv 0,uv 0]) g2 rfl rfl rfl rfl ao ?_;refine wk ?_;have dt:=aq (h:=aO (ai (ai h (.cells x.cells 88 true)) (.cells [iv 0,uv 0] 38 true)) (h.n+1) (.cells [iv 0,uv 0] 38 true)) (i:=h.n+1) (off:=0) (n:=2) (by show h.n+1<h.n+1+1;omega) aF rfl rfl;refine wk ?_;exact hK0 h0 _ (X12.trans (aw.set _ ah))
 · have hne:M.fc≠[]:=by rw[hfi];simp
   have hfl':M.fc.length=f.length+1:=by rw[hfi];simp
   have hil:i<M.cl.length:=hin i (by rw[hfi];simp);obtain⟨b,rr,t,c,fe,hb,hg,bb,fw⟩:=s2.fc.cut hne;have hc2:c≠fb:=by
     rcases fw with rfl|⟨rfl,_⟩;· unfold fb;omega
     · decide
   have hc1:M.fc.length≤c:=by
     rcases fw with rfl|⟨rfl,_⟩;· exact aQ _
     · unfold bh;omega
   have wn:IntKind.wrap .i64 ((M.fc.length:Int)-1)=((f.length:Nat):Int):=by rw[wrap_i64 ah ah];omega
   rw[fe]at k20;rw[hfi]at hg;have ci:=ay (off:=f.length) hb hg (v:=iv i) (by simp[bZ]);have o1:¬own a V (h.n):=fun o=>by have:=s.lt _ o;omega
   have o2:¬own a V (h.n+1):=fun o=>by have:=s.lt _ o;omega
   have dx:av (ai (ai h (.cells x.cells 88 true)) (.cells [iv 0,uv 0] 38 true)) ⟨h.n,0,none⟩ 4=some x.cells:=aq (off:=0) (n:=4) ah g1' rfl rfl;have ww:=mW (aN @wn @bQ);refine wk ?_;generalize ai (ai h (.cells x.cells 88 true)) (.cells [iv 0,uv 0] 38 true)=h2 at X12 g1' g2 n2 s2 hb hg ci dx k20 fw ⊢;refine jV jS ao hc2 ah hc1 ?_;refine wk ?_;refine Xk (l:=f) s2 a_ (fun _ _ _=>rfl) ⟨fun j bj=>?_,some ⟨b,0,none⟩,f.length,rfl,fun _=>⟨b,[bZ i]++rr,t,rfl,by rw[hg];simp⟩,.inl ⟨rfl,fun x e=>by cases e;exact⟨rfl,rfl⟩⟩⟩ (fun j bj=>?_) fun h3 s3 k3 n3=>?_;· obtain⟨x,e,rfl,_⟩:=aU.1 bj;cases e;exact hb
   · obtain⟨x,e,rfl,_⟩:=aU.1 bj;cases e;exact .inl bb
   have dx3:=fz k3 ah o1 dx;refine wk ?_;obtain⟨w,hwl,hw,cr,_⟩:=s3.Bi hil;refine R' s3 hil (j:=1) (w:=w) (y:={ w with is:=true }) (x:={ M.cl[i]with is:=true }) ah ⟨hwl,hw⟩ rfl rfl rfl rfl ao { cr with is:=rfl } fun h4 s4 k4 n4=>?_;have hil4:i<(M.cl.set i { M.cl[i]with is:=true }).length:=by simpa using hil
   have dx4:=fz k4 ah (k3.no ah o1) dx3;have sx:(bt 50 (.agg ⟨x.cells⟩) (.agg ⟨x.cells⟩)=true)=True:=by
     obtain⟨xa,xn,xc,e,_,_,_,hsp⟩:=r.c;simp only[XW.cells,e];cases xa with
     | none=>simp[bt,bt.go]
     | some y =>
       obtain⟨yi,yo,sp⟩:=y
       have:sp=none:=hsp _ rfl
       subst this
       simp[bt,bt.go]
   have k19':=s4.k19;simp only[cS]at k19';have ww:=ww.a @sx;refine wk ?_;have r4:=r.kp ((Kp.ext X12).trans (k3.trans k4));obtain⟨w',hwl',hw',cr',_⟩:=s4.Bi (k:=i) hil4;have hwe:w'={ w with is:=true }:=by rw[hw'];simp
   refine R' s4 hil4 (j:=2) (w:=w') (y:=⟨w.gen,true,x⟩) (x:=⟨M.cl[i].gen,true,⟨x.iP,x.ee,refs,x.dH⟩⟩) ah ⟨hwl',hw'⟩ rfl rfl (by rw[hwe];rfl) hone ao ⟨cr.gen,rfl,rfl,rfl,rfl,r4⟩ fun h5 s5 k5 n5=>?_;have s5':St a { V with fc:=.slice (some ⟨b,0,none⟩) f.length f.length,cl:=V.cl.set i ⟨w.gen,true,x⟩ } h5 { M with fc:=f,cl:=M.cl.set i ⟨M.cl[i].gen,true,⟨x.iP,x.ee,refs,x.dH⟩⟩ }:=by simpa only[iD]using s5
   have hil5:i<(M.cl.set i ⟨M.cl[i].gen,true,⟨x.iP,x.ee,refs,x.dH⟩⟩).length:=by simpa using hil
   have K5:=(Kp.ext X12).trans (k3.trans (k4.trans k5));refine wk ?_;refine Fi s5' hil5 fun h6 x6=>?_;have n6:=x6.n;have hge:(M.cl.set i ⟨M.cl[i].gen,true,⟨x.iP,x.ee,refs,x.dH⟩⟩)[i].gen=M.cl[i].gen:=an;have K25:=k3.trans (k4.trans k5);have g6:=x6.cY ((K25.get (h.n+1) ah o2).trans g2);have o6:=K25.no ah o2;have ww:=ww.a @hge;refine wk ?_;refine aM (off:=0) (cs':=[iv i,uv M.cl[i].gen]) g6 rfl rfl rfl rfl ao ?_;have s7:=St.locK (k:=.cells [iv i,uv M.cl[i].gen] 38 true) s (s5'.ext x6) (K5.trans (Kp.ext x6)) (aL h.n) o6 ⟨rfl,rfl⟩ ⟨rfl,rfl⟩ ⟨rfl,rfl⟩ ⟨rfl,rfl⟩ ⟨rfl,rfl⟩ (fun p h1 h2=>by
     have kk:=(K5.trans (Kp.ext x6)).loc (j:=h.n+1) (k:=.cells [iv i,uv M.cl[i].gen] 38 true) (aL h.n);simp only[cS]at h1 h2;simp only[cJ];by_cases e:i=p;· rw[if_pos e,if_pos e];exact⟨cr.gen,rfl,rfl,rfl,rfl,r.kp kk⟩
     · rw[if_neg e,if_neg e];exact(s.Af p h1 h2).kp kk)
   have d7:=aq (h:=aO h6 (h.n+1) (.cells [iv i,uv M.cl[i].gen] 38 true)) (i:=h.n+1) (off:=0) (n:=2) (by show h.n+1<h6.n;omega) aF rfl rfl;refine wk ?_;exact hK1 f i hil hfi _ _ s7 ((K5.trans (Kp.ext x6)).loc (aL h.n))
def GD.zero:GD:=⟨0,false,⟨0,0⟩,⟨0,0⟩,0,0,0,0,0,0,0,0,0,0,0,0,0⟩
def SD.zero:SD:=⟨⟨0,0⟩,0,0,0,0,0⟩
theorem RS.nil {O:Nat→Prop}{sz:Nat}{h:ak}:RS O sz h (nS) []:=⟨⟨none,0,rfl,aQ _,fun i hi=>by simp at hi⟩,⟨_,_,_,rfl,ao,fun _=>rfl,(fun j bj=>by obtain ⟨x,e,_⟩:=aU.1 bj;cases e),(fun x e=>by cases e)⟩,fun j bj=>by obtain ⟨x,e,_⟩:=aU.1 bj;cases e⟩
theorem My {a:Ad}{V:VD}{h:ak}{M:MD}{r:RR}{k:Nat}{K:Value→ak→Prop}(s:St a V h M) (hr:aB M.gs r=some k) (hk:k<M.gs.length) (hg:M.gs[k].gen<1000000) (hfl:M.fg.length≤1000) (hgl:M.gs.length≤1000)
  (hK:∀ V' h',St a V' h' { M with gs:=M.gs.set k ⟨M.gs[k].gen+1,false,GD.zero⟩,fg:=M.fg++[k] }→Kp (own a V) (own a V') h h'→K (dE []) h'):cy env (.func 148) [pt a.m 17,.agg ⟨r.cells⟩] h K:=by
 obtain⟨_,e1,_,e2⟩:=aH.1 hr
 obtain⟨ri,rg⟩:=r
 simp only at e1 e2
 subst e1 e2
 refine F148 rfl ?_
 simp only[RR.cells]
 have s1:=s.new (.cells [iv k,uv M.gs[k].gen] 38 true)
 obtain⟨h1,eh1⟩:=gz (ai h (.cells [iv k,uv M.gs[k].gen] 38 true))
 have k1:Kp (own a V) (own a V) h h1:=eh1▸.new
 have d1:cellAt h1 (ad h.n 0)=some (iv k):=eh1▸bI
 have n1:=qk eh1
 have no:¬own a V h.n:=fun o=>dy _ (s.lt _ o)
 have wg:IntKind.wrap .u64 ((M.gs[k].gen:Int)+1)=((M.gs[k].gen+1:Nat):Int):=by rw[wrap_u64 ah ah];omega
 have ww:=mW @wg
 refine wk ?_
 rw[eh1];try rw[eh1]at s1
 refine lY s1 hk (j:=0) (y:=⟨M.gs[k].gen+1,false,GD.zero⟩) ah rfl rfl rfl rfl ao fun h3 s3 k3 n3=>?_
 have d3:=j7 k3 ah no d1
 have kf:=s3.k18
 obtain⟨_,fx,fc',fe,_⟩:=s3.fg
 have fe':=fe
 rw[fe']at kf
 refine wk ?_
 have frr:=s3.fg
 rw[fe']at frr
 refine Av (l:=M.fg) (i:=k) frr rfl hfl fun v4 h4 f4 b4 n4 g4=>?_
 have n34:h3.n≤h4.n:=ah
 have n3n:∀ b,(ai h3 b).n=h3.n+1:=fun _=>rfl
 obtain⟨_,vx,vc',ve,_⟩:=id f4
 have ww:=ww.a @n3n
 refine wk ?_
 rw[← fe']at b4 g4
 refine WZ (l:=M.fg++[k]) s3 n34 g4 f4 b4 fun h5 s5 k5 n5=>?_
 refine wk ?_
 exact hK _ h5 s5 (k1.trans (k3.trans k5))
theorem KB {a:Ad}{V:VD}{h:ak}{M:MD}{r:RR}{k:Nat}{K:Value→ak→Prop}(s:St a V h M) (hr:aB M.sh r=some k) (hk:k<M.sh.length) (hg:M.sh[k].gen<1000000) (hfl:M.fs.length≤1000) (hgl:M.sh.length≤1000)
  (hK:∀ V' h',St a V' h' { M with sh:=M.sh.set k ⟨M.sh[k].gen+1,false,SD.zero⟩,fs:=M.fs++[k] }→Kp (own a V) (own a V') h h'→K (dE []) h'):cy env (.func 137) [pt a.m 21,.agg ⟨r.cells⟩] h K:=by
 obtain⟨_,e1,_,e2⟩:=aH.1 hr
 obtain⟨ri,rg⟩:=r
 simp only at e1 e2
 subst e1 e2
 refine F137 rfl ?_
 simp only[RR.cells]
 have s1:=s.new (.cells [iv k,uv M.sh[k].gen] 38 true)
 obtain⟨h1,eh1⟩:=gz (ai h (.cells [iv k,uv M.sh[k].gen] 38 true))
 have k1:Kp (own a V) (own a V) h h1:=eh1▸.new
 have d1:cellAt h1 (ad h.n 0)=some (iv k):=eh1▸bI
 have n1:=qk eh1
 have no:¬own a V h.n:=fun o=>dy _ (s.lt _ o)
 have wg:IntKind.wrap .u64 ((M.sh[k].gen:Int)+1)=((M.sh[k].gen+1:Nat):Int):=by rw[wrap_u64 ah ah];omega
 have ww:=mW @wg
 refine wk ?_
 rw[eh1];try rw[eh1]at s1
 refine HQ s1 hk (j:=0) (y:=⟨M.sh[k].gen+1,false,SD.zero⟩) ah rfl rfl rfl rfl ao fun h3 s3 k3 n3=>?_
 have d3:=j7 k3 ah no d1
 have kf:=s3.k22
 obtain⟨_,fx,fc',fe,_⟩:=s3.fs
 have fe':=fe
 rw[fe']at kf
 refine wk ?_
 have frr:=s3.fs
 rw[fe']at frr
 refine Av (l:=M.fs) (i:=k) frr rfl hfl fun v4 h4 f4 b4 n4 g4=>?_
 have n34:h3.n≤h4.n:=ah
 have n3n:∀ b,(ai h3 b).n=h3.n+1:=fun _=>rfl
 obtain⟨_,vx,vc',ve,_⟩:=id f4
 have ww:=ww.a @n3n
 refine wk ?_
 rw[← fe']at b4 g4
 refine Xr (l:=M.fs++[k]) s3 n34 g4 f4 b4 fun h5 s5 k5 n5=>?_
 refine wk ?_
 exact hK _ h5 s5 (k1.trans (k3.trans k5))
theorem LK {a:Ad}{V:VD}{h:ak}{M:MD}{r:RR}{k:Nat}{K:Value→ak→Prop}(s:St a V h M) (hr:aB M.cl r=some k) (hk:k<M.cl.length) (hg:M.cl[k].gen<1000000) (hfl:M.fc.length≤1000) (hgl:M.cl.length≤1000)
  (hK:∀ V' h',St a V' h' { M with cl:=M.cl.set k ⟨M.cl[k].gen+1,false,⟨0,0,[],0⟩⟩,fc:=M.fc++[k] }→Kp (own a V) (own a V') h h'→K (dE []) h'):cy env (.func 138) [pt a.m 19,.agg ⟨r.cells⟩] h K:=by
 obtain⟨_,e1,_,e2⟩:=aH.1 hr
 obtain⟨ri,rg⟩:=r
 simp only at e1 e2
 subst e1 e2
 refine F138 rfl ?_
 simp only[RR.cells]
 have s1:=s.new (.cells [iv k,uv M.cl[k].gen] 38 true)
 obtain⟨h1,eh1⟩:=gz (ai h (.cells [iv k,uv M.cl[k].gen] 38 true))
 have k1:Kp (own a V) (own a V) h h1:=eh1▸.new
 have d1:cellAt h1 (ad h.n 0)=some (iv k):=eh1▸bI
 have n1:=qk eh1
 have no:¬own a V h.n:=fun o=>dy _ (s.lt _ o)
 have wg:IntKind.wrap .u64 ((M.cl[k].gen:Int)+1)=((M.cl[k].gen+1:Nat):Int):=by rw[wrap_u64 ah ah];omega
 have ww:=mW @wg
 refine wk ?_
 rw[eh1];try rw[eh1]at s1
 obtain⟨w,hwl,hw,cr,_⟩:=s1.Bi hk
 refine R' s1 hk (j:=0) (w:=w) (y:=⟨M.cl[k].gen+1,false,⟨0,0,nS,0⟩⟩) (x:=⟨M.cl[k].gen+1,false,⟨0,0,[],0⟩⟩) ah ⟨hwl,hw⟩ rfl rfl (by simp only[Ob.cells,XW.cells];rfl) rfl ao ⟨rfl,rfl,rfl,rfl,rfl,RS.nil⟩ fun h3 s3 k3 n3=>?_
 have d3:=j7 k3 ah no d1
 have kf:=s3.k20
 obtain⟨_,fx,fc',fe,_⟩:=s3.fc
 have fe':=fe
 rw[fe']at kf
 refine wk ?_
 have frr:=s3.fc
 rw[fe']at frr
 refine Av (l:=M.fc) (i:=k) frr rfl hfl fun v4 h4 f4 b4 n4 g4=>?_
 have n34:h3.n≤h4.n:=ah
 have n3n:∀ b,(ai h3 b).n=h3.n+1:=fun _=>rfl
 obtain⟨_,vx,vc',ve,_⟩:=id f4
 have ww:=ww.a @n3n
 refine wk ?_
 rw[← fe']at b4 g4
 refine Xk (l:=M.fc++[k]) s3 n34 g4 f4 b4 fun h5 s5 k5 n5=>?_
 refine wk ?_
 exact hK _ h5 s5 (k1.trans (k3.trans k5))
theorem zp (x y:KD):(BB x y).id=y.id:=by unfold BB;split<;>rfl
theorem tZ {α:Type}(l:List α) (i:Nat):(l.take i++l.drop (i+1)).Sublist l:=by
 conv=>rhs;rw[← iE i l]
 refine List.Sublist.append (List.Sublist.refl _) ?_;rw[← nB];exact List.drop_sublist 1 _
theorem Ud {α:Type}{l:List α}{i:Nat}(hi:i<l.length) {y:α}(hy:y∈l) (hne:y≠l[i]):y∈l.take i++l.drop (i+1):=by
 rw[← iE i l,kJ hi]at hy;rcases dV.1 hy with h|h;·exact jw _ h
 ·rcases cM.1 h with h|h;·exact absurd h hne
  ·exact qg _ h
theorem Ah {l:List KD}{cw i:Nat}(c:ud l cw) (hi:i<l.length):ud (uq l i l[i]) cw:=by
 have sub:=tZ l i;have hx:l[i]∈l:=bG hi;refine⟨fun y hy=>?_,?_,fun y hy=>?_⟩;·obtain⟨z,hz,rfl⟩:=bD.1 hy;rw[zp];exact c.pos z (sub.subset hz)
 ·have:(uq l i l[i]).map KD.id=(l.take i++l.drop (i+1)).map KD.id:=by simp only[uq,th];exact List.map_congr_left fun y _=>zp _ y
  rw[this];exact(sub.map KD.id).nodup c.uniq
 ·obtain⟨z,hz,rfl⟩:=bD.1 hy;have hzl:=sub.subset hz;have bM:∀ w∈l,w.id≠l[i].id→∃ y∈uq l i l[i],y.id=w.id:=fun w hw hne =>
   ⟨BB l[i] w,bD.2 ⟨w,Ud hi hw (fun e=>hne (by rw[e])),rfl⟩,zp _ _⟩
  by_cases he:z.ab=l[i].id
  ·have hab:(BB l[i] z).ab=l[i].ab:=by simp[BB,he]
   rw[hab,zp];rcases c.up _ hx with h0|⟨hn,aT,w,hw,hwid⟩;·exact .inl h0
   ·rcases c.up z hzl with h0'|⟨_,hlt',_⟩;·obtain⟨n,e,h1,_⟩:=c.pos _ hx;omega
    ·obtain⟨y,hy',hyid⟩:=bM w hw ah;exact .inr ⟨hn,ah,y,hy',by rw[hyid,hwid]⟩
  ·have hab:(BB l[i] z).ab=z.ab:=by simp[BB,he]
   rw[hab,zp];rcases c.up z hzl with h0|⟨hn,aT,w,hw,hwid⟩;·exact .inl h0
   ·obtain⟨y,hy',hyid⟩:=bM w hw (by rw[hwid];exact he);exact .inr ⟨hn,aT,y,hy',by rw[hyid,hwid]⟩
theorem Cb {l:List KD}{i:Nat}{x:KD}:(uq l i x).length≤l.length:=by simp only[uq,aI];exact(tZ l i).length_le
def Mc (o:Ob SD):Ob SD:={ o with x:={ o.x with own:=IntKind.wrap .i64 (o.x.own-1) } }
def rP (o:Ob XD):Ob XD:={ o with x:={ o.x with dH:=IntKind.wrap .i64 (o.x.dH-1) } }
def MD.kill (M:MD) (k d j:Nat) (hk:k<M.gs.length) (hd:d<M.sh.length) (hj:j<M.cl.length) (ax:List KD):MD :=
 { M.off k with ax:=ax,sh:=M.sh.set d (Mc M.sh[d]),cl:=M.cl.set j (rP M.cl[j]),gs:=M.gs.set k ⟨M.gs[k].gen+1,false,GD.zero⟩,fg:=M.fg++[k] }
theorem Ge {a:Ad}{V:VD}{h:ak}{M:MD}{r:RR}{k d j:Nat}{K:Value→ak→Prop}(s:St a V h M) (sm:Sm M) (ht:M.tm.length≤5000) (hr:aB M.gs r=some k) (hk:k<M.gs.length) (hd':aB M.sh M.gs[k].x.gG=some d) (hd:d<M.sh.length) (hj':aB M.cl M.gs[k].x.ctx=some j) (hj:j<M.cl.length)
  (hcl:M.ax.length≤10000) (c:ud M.ax M.cw) (hsl:M.cfg.bP≤1000) (hgl:M.gs.length≤1000) (hsh:M.sh.length≤1000) (hll:M.cl.length≤1000) (hg:M.gs[k].gen<1000000) (hfl:M.fg.length≤1000)
  (hK:∀ ax V' h',ud ax M.cw→ax.length≤M.ax.length→St a V' h' (M.kill k d j hk hd hj ax)→Kp (own a V) (own a V') h h'→K (dE []) h'):cy env (.func 125) [mp a,.agg ⟨r.cells⟩] h K:=by
 obtain⟨_,e1,_,e2⟩:=aH.1 hr
 obtain⟨ri,rg⟩:=r
 simp only at e1 e2
 subst e1
 unfold mp at *
 refine F125 rfl ?_
 simp only[RR.cells]
 have s1:=s.new (.cells [iv k,uv rg] 38 true)
 have k1:Kp (own a V) (own a V) h (ai h (.cells [.int .i64 (k:Int),.int .u64 rg] 38 true)):=.new
 have g1:(ai h (.cells [.int .i64 (k:Int),.int .u64 rg] 38 true)).b.get h.n=some (.cells [.int .i64 (k:Int),.int .u64 rg] 38 true):=az _ _
 have n1:(ai h (.cells [.int .i64 (k:Int),.int .u64 rg] 38 true)).n=h.n+1:=rfl
 have d1:av (ai h (.cells [.int .i64 (k:Int),.int .u64 rg] 38 true)) ⟨h.n,0,none⟩ 2=some (RR.cells ⟨(k:Int),rg⟩):=aV rfl
 have no:¬own a V h.n:=fun o=>dy _ (s.lt _ o)
 refine wk ?_
 generalize ai h (.cells [.int .i64 (k:Int),.int .u64 rg] 38 true)=h1 at s1 k1 g1 n1 d1 ⊢
 have XZ:aw h1.n h1 (ai h1 (.cells [iv 0,.bool false,iv 0,uv 0,iv 0,uv 0,.int .u8 0,iv 0,iv 0,uv 0,uv 0,uv 0,uv 0,uv 0,uv 0,uv 0,uv 0,iv 0,uv 0] 81 true)):=br
 have gz:(ai h1 (.cells [iv 0,.bool false,iv 0,uv 0,iv 0,uv 0,.int .u8 0,iv 0,iv 0,uv 0,uv 0,uv 0,uv 0,uv 0,uv 0,uv 0,uv 0,iv 0,uv 0] 81 true)).b.get h1.n=some (.cells [iv 0,.bool false,iv 0,uv 0,iv 0,uv 0,.int .u8 0,iv 0,iv 0,uv 0,uv 0,uv 0,uv 0,uv 0,uv 0,uv 0,uv 0,iv 0,uv 0] 81 true):=az _ _
 have nz:(ai h1 (.cells [iv 0,.bool false,iv 0,uv 0,iv 0,uv 0,.int .u8 0,iv 0,iv 0,uv 0,uv 0,uv 0,uv 0,uv 0,uv 0,uv 0,uv 0,iv 0,uv 0] 81 true)).n=h1.n+1:=rfl
 refine tQ (r:=⟨(k:Int),rg⟩) (s1.ext XZ) hgl fun h2 x2=>?_
 have n2:=x2.n
 rw[hr]
 unfold fC
 have X2:aw h1.n h1 h2:=XZ.jI x2
 have s2:=s1.ext X2
 have gN:=s2.gN hk
 have d2:=aG X2 ah d1
 have g2:=x2.cY gz
 generalize ai h1 (.cells [iv 0,.bool false,iv 0,uv 0,iv 0,uv 0,.int .u8 0,iv 0,iv 0,uv 0,uv 0,uv 0,uv 0,uv 0,uv 0,uv 0,uv 0,iv 0,uv 0] 81 true)=hz at XZ gz nz x2 n2
 refine wk ?_
 refine aM (off:=0) (cs':=M.gs[k].x.cells) g2 rfl rfl (by simp only[GD.cells];rfl) rfl ao ?_
 have g3:(aO h2 h1.n (.cells M.gs[k].x.cells 81 true)).b.get h1.n=some (.cells M.gs[k].x.cells 81 true):=aF
 have X3:aw h1.n h1 (aO h2 h1.n (.cells M.gs[k].x.cells 81 true)):=X2.trans (aw.set _ a_)
 have n3:(aO h2 h1.n (.cells M.gs[k].x.cells 81 true)).n=h2.n:=rfl
 have k3:Kp (own a V) (own a V) h1 (aO h2 h1.n (.cells M.gs[k].x.cells 81 true)):=Kp.ext X3
 have s3:=s1.ext X3
 have d3:=aG X3 ah d1
 have c3:=dk d3 (j:=0) (v:=iv k) rfl
 simp only[cj]at c3
 have no2:¬own a V h1.n:=fun o=>dy _ (s1.lt _ o)
 generalize aO h2 h1.n (.cells M.gs[k].x.cells 81 true)=h3 at s3 k3 g3 n3 d3 c3 ⊢
 refine wk ?_
 refine qM s3 sm ht fun V4 h4 s4 k4=>?_
 have n4:=k4.n
 have K4:=k1.trans (k3.trans k4)
 have k6:=s4.k6
 have hk6:(M.off k).cfg=M.cfg:=rfl
 rw[hk6]at k6
 refine wk ?_
 refine aP (fun m fr' h''=>∃ (q:Nat) (ax:List KD) (V5:VD),q≤M.cfg.bP∧m=M.cfg.bP-q∧fr'.get 23=some (iv q)∧ud ax M.cw∧ax.length≤M.ax.length∧St a V5 h'' { M.off k with ax:=ax }∧Kp (own a V4) (own a V5) h4 h'') M.cfg.bP ?_ ah ?_
 ·exact⟨0,M.ax,V4,ah,ah,aA,c,aQ _,s4,Kp.refl _ _⟩
 rintro m fr5 h5 ⟨q,ax,V5,hq,rfl,f23,c5,cl5,s5,k5⟩ hag
 have g0:fr5.get 0=some (pt a.m 0):=(hag 0 rfl).trans (by simp[T.aj,bY])
 have q3:fr5.get 3=some (pt h.n 0):=(hag 3 rfl).trans aA
 have q4:fr5.get 4=some (pt h1.n 0):=(hag 4 rfl).trans aA
 have n5:=k5.n
 have K35:=k4.trans k5
 have c5':=j7 K35 ah no c3
 by_cases aT:q<M.cfg.bP
 ·have wn:=rU q;refine wk ?_;refine pZ s5 (by show ax.length≤100000;omega) fun h6 x6=>?_;have n6:=x6.n;have s6:=s5.ext x6;by_cases hf:0≤ko ax (k:Int) (q:Int);·obtain⟨i,hi,hil⟩:=vm hf;have hi':ko ({ M.off k with ax:=ax }:MD).ax (k:Int) (q:Int)=(i:Int):=hi;rw[hi'];refine wk ?_;refine FX s6 hil (by show ax.length≤10000;omega) fun V7 h7 s7 k7=>?_;have ww:=mW @wn;refine wk ?_;exact⟨M.cfg.bP-(q+1),ah,q+1,uq ax i ax[i],V7,ah,rfl,aA,Ah c5 hil,bO Cb cl5,s7,k5.trans ((Kp.ext x6).trans k7)⟩
  ·have hf':¬0≤ko ({ M.off k with ax:=ax }:MD).ax (k:Int) (q:Int):=hf;have ww:=mW @wn;refine wk ?_;exact⟨M.cfg.bP-(q+1),ah,q+1,ax,V5,ah,rfl,aA,c5,cl5,s6,k5.trans (Kp.ext x6)⟩
 ·obtain rfl:q=M.cfg.bP:=ah;have hcells:∀ {h':ak},h'.b.get h1.n=some (.cells M.gs[k].x.cells 81 true)→h1.n<h'.n→av h' (ad h1.n 2) 2=some M.gs[k].x.gG.cells∧av h' (ad h1.n 4) 2=some M.gs[k].x.ctx.cells:=fun g hn=>⟨aq hn g rfl rfl,aq hn g rfl rfl⟩;have g5:=(K35.get h1.n ah no2).trans g3;obtain⟨cd,cc⟩:=hcells g5 ah;have ww:=mW @cd;refine wk ?_;refine oA s5 hsh fun h6 x6=>?_;have n6:=x6.n;have s6:=s5.ext x6;have hdd:aB ({ M.off k with ax:=ax }:MD).sh M.gs[k].x.gG=some d:=hd';rw[hdd];unfold fC;have c7:=s6.sC (k:=d) hd 7 ao;simp only[Ob.cells,SD.cells,cu,cR]at c7;refine wk ?_;refine HQ s6 (k:=d) hd (j:=7) (y:=Mc M.sh[d]) ah rfl rfl rfl rfl ao fun h7 s7 k7 n7=>?_;have K7:=K35.trans ((Kp.ext x6).trans k7);have g7:=(K7.get h1.n ah no2).trans g3;obtain⟨cd7,cc7⟩:=hcells g7 ah;have ww:=ww.a @cc7;refine wk ?_;refine j_ s7 hll fun h8 x8=>?_;have n8:=x8.n;have s8:=s7.ext x8;have hjj:aB ({ M.off k with ax:=ax,sh:=M.sh.set d (Mc M.sh[d]) }:MD).cl M.gs[k].x.ctx=some j:=hj';rw[hjj];unfold fC;obtain⟨w,hwl,hw,cr,gcw,_⟩:=s8.Bi (k:=j) hj;have c9:=gcw 5 ao;simp only[Ob.cells,XW.cells,cu,cR,cr.dH]at c9;have c9':cellAt h8 (ad a.c (j*6+5))=some (iv M.cl[j].x.dH):=c9;refine wk ?_;refine C6 s8 (k:=j) hj (j:=5) (w:=w) (y:={ w with x:={ w.x with dH:=IntKind.wrap .i64 (M.cl[j].x.dH-1) } }) (x:=rP M.cl[j]) ah ⟨hwl,hw⟩ rfl rfl rfl rfl ao { cr with dH:=rfl } fun V9 h9 s9 k9 n9=>?_;have K9:=(Kp.trans (Kp.ext x8) k9);have d9:=fz (K7.trans K9) ah no d3;have n79:=K9.n;refine wk ?_;refine My (r:=⟨(k:Int),rg⟩) s9 hr hk hg hfl hgl fun V10 h10 s10 k10=>?_;have n10:=k10.n;refine wk ?_;exact hK ax V10 h10 c5 cl5 s10 (K4.trans (k5.trans ((Kp.ext x6).trans (k7.trans (K9.trans k10)))))
end Go.Proofs.YthjlppdnlahhoaaGreat
