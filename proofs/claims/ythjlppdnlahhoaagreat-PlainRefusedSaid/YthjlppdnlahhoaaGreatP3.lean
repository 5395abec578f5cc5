/- THE PLAIN MACHINE's FUNCTIONS, walked (3). Conditions: none beyond each theorem's own. -/
import Derived.Test.YthjlppdnlahhoaaGreatP1
import Derived.Test.YthjlppdnlahhoaaGreatP2
import Derived.Test.YthjlppdnlahhoaaGreatNE
set_option linter.unusedSimpArgs false
set_option linter.unusedVariables false
namespace Go.Proofs.YthjlppdnlahhoaaGreat
open Go.Ev
open Pl
set_option maxRecDepth 100000
set_option maxHeartbeats 4000000
theorem RI.nil {O:Nat→Prop}{h:ak}(hO:∀ j,O j→j<h.n):RI O h (nS) []:=RI.iS (N:=h.n) bT.nil hO an
theorem RI.lit {O:Nat→Prop}{h:ak}{g:Nat}(hO:∀ j,O j→j<h.n):RI O (ai h (.cells [iv g] 3 true)) (.slice (some ⟨h.n,0,none⟩) 1 1) [g] :=
 ⟨⟨_,_,rfl,aQ _,fun _=>⟨ao,h.n,0,rfl,cK _,aV rfl⟩⟩,.fresh (N:=h.n) ao (fun e=>by cases e) hO (fun x e=>by cases e;exact⟨aQ _,rfl⟩),fun j bj=>by obtain ⟨x,e,rfl,_⟩:=aU.1 bj;cases e;exact⟨cK _,_,_,_,az _ _,ao⟩⟩
theorem Ag {a:Ad}{V:VD}{h:ak}{M:MD}{p:Nat}{K:Value→ak→Prop}(s:St a V h M) (hp:p<M.ps.length) (hn:M.ps[p].next.length≤1) (hr:M.ps[p].ring.length≤5000) (ha:M.all.length≤5000) (hR:M.cfg.ring≤5000) (hR2:2≤M.cfg.ring)
   (hK:∀ V' h',St a V' h' (M.q (iT M.cfg.ring M.all M.ps p))→Kp (own a V) (own a V') h h'→K (dE []) h'):cy env (.func 42) [mp a,iv p] h K:=by
 obtain⟨w,hv,hw,r,c0,c1,c2,c3,c4,_⟩:=s.Gt hp
 obtain⟨ra,rc,re,r1,r2,r3,_⟩:=r.next.cut
 have e:M.ps[p]?=some M.ps[p]:=bw hp
 have nr:=r.next
 rw[re]at c1 nr
 unfold mp at *
 refine F42 rfl ?_
 have ww:=mW (aN @c1 @cb)
 refine wk ?_
 refine oF s hp ah (RI.nil s.lt) fun V1 h1 s1 k1 n1=>?_
 have nr1:=nr.kp k1
 cases hnx:M.ps[p].next with
 | nil =>
   rw[hnx]at nr1
   have ww:=ww.a (aN @hnx @cF.{0})
   refine wk ?_
   refine vU 2 ao ?_
   rw[mY]
   refine wk ?_
   have:iT M.cfg.ring M.all M.ps p=(M.all,M.ps.set p { M.ps[p]with next:=[] }):=by simp only[iT,e,hnx,sG]
   rw[this]at hK
   exact hK _ _ s1 k1
 | cons g l =>
   have hl:l=[]:=by rw[hnx]at hn;simp at hn;exact hn
   subst hl
   rw[hnx]at nr1
   obtain⟨i,o,rfl,hi,hc⟩:=nr1.r.at_ (k:=0) an
   simp only[hJ,cj]at hc
   refine wk ?_
   refine vU 3 ao ?_
   rw[mY]
   have ww:=ww.a (aN (aN (aN @hc @dO) @cj) (aN @dn.{0} @cF.{0}))
   refine wk ?_
   refine Dw s1 (by simpa using hp) (by simpa using hr) ha hR hR2 fun V2 h2 s2 k2=>?_
   have ww:=ww.a @hnx
   refine wk ?_
   rw[mY]
   have ww:=ww.a @w01
   refine wk ?_
   have:iT M.cfg.ring M.all M.ps p=kO M.cfg.ring M.all (M.ps.set p { M.ps[p]with next:=[] }) p g:=by simp only[iT,e,hnx,sG]
   rw[this]at hK
   exact hK _ _ s2 (k1.trans k2)
theorem FD:∀ n,n≤8→∀ s,s<256→IntKind.u8.wrap ((BitVec.ofInt IntKind.u8.bits (s:Nat) &&& BitVec.ofInt IntKind.u8.bits (2 ^ n-1:Nat)).toNat:Nat)=((s &&& (2 ^ n-1):Nat):Int):=by decide +kernel
theorem DP {n s p:Nat}(h:(s &&& (2 ^ n-1)).testBit p=true):p<n:=by rw[Nat.testBit_and,Nat.testBit_two_pow_sub_one]at h;simpa using (Bool.and_eq_true_iff.1 h).2
inductive Mj (Ring:Nat) (all:List Nat) (ps:List PD) (g:Nat):List Nat×List PD→Prop
 | next {p:Nat}(hp:p<(iT Ring all ps p).2.length) (hp':p<ps.length):Mj Ring all ps g ((iT Ring all ps p).1,(iT Ring all ps p).2.set p { (iT Ring all ps p).2[p]with next:=[g] })
 | all:Mj Ring all ps g (all++[g],ps)
 | row {p:Nat}(hp:p<ps.length):Mj Ring all ps g (kO Ring all ps p g)
structure Sm (M:MD):Prop where
 ps:M.ps.length≤8
 all:M.all.length≤5000
 row:∀ p (h:p<M.ps.length),M.ps[p].ring.length≤5000∧M.ps[p].next.length≤1∧M.ps[p].runs.length≤1
 ring:M.cfg.ring≤5000
 nR:2≤M.cfg.ring
theorem yE {a:Ad}{V:VD}{h:ak}{M:MD}{g b:Nat}{pick:Int}{K:Value→ak→Prop}(s:St a V h M) (m:Sm M) (hg:g<M.gs.length) (haf:M.gs[g].x.jF<256) (hb:b<M.ps.length)
   (hK:∀ x V' h',Mj M.cfg.ring M.all M.ps g x→St a V' h' (M.q x)→Kp (own a V) (own a V') h h'→K (dE []) h'):cy env (.func 128) [mp a,iv g,iv b,iv pick] h K:=by
 have gc:=s.gC hg 8 ao
 have mps:=m.ps
 simp only[Ob.cells,GD.cells,cu,cR]at gc
 unfold mp at *
 refine F128 rfl ?_
 refine wk ?_
 refine vW m.ps ?_
 have am:=FD M.ps.length m.ps _ haf
 have hs:M.gs[g].x.jF &&& (2 ^ M.ps.length-1)<256:=mC (Nat.and_le_left) haf
 have hm:=@DP M.ps.length M.gs[g].x.jF
 generalize M.gs[g].x.jF &&& (2 ^ M.ps.length-1)=set at am hs hm
 have ww:=mW @am
 refine wk ?_
 refine CV ah hs ?_
 cases hbit:set.testBit b with
 | true =>
   refine wk ?_
   obtain⟨r1,r2,r3⟩:=m.row b hb
   refine Ag s hb r2 r1 m.all m.ring m.nR fun V1 h1 s1 k1=>?_
   have hl:=(MI (Ring:=M.cfg.ring) (all:=M.all) hb 0).2
   have n1:=k1.n
   have hb1:b<(M.q (iT M.cfg.ring M.all M.ps b)).ps.length:=by show b<(iT M.cfg.ring M.all M.ps b).2.length;omega
   refine wk ?_
   have s2:=s1.new (.cells [iv g] 3 true)
   obtain⟨h2,eh2⟩:=gz (ai h1 (.cells [iv g] 3 true))
   have k2:Kp (own a V1) (own a V1) h1 h2:=eh2▸.new
   have q2:RI (own a V1) h2 (.slice (some ⟨h1.n,0,none⟩) 1 1) [g]:=eh2▸(RI.lit s1.lt)
   change jQ 1 _ _ (ai h1 (.cells [iv g] 3 true)) _
   rw[eh2];try rw[eh2]at s2
   refine oF s2 hb1 rfl q2 fun V3 h3 s3 k3 n3=>?_
   refine wk ?_
   exact hK _ _ _ (.next hb1 hb) s3 ((k1.trans k2).trans k3)
 | false =>
   refine wk ?_
   refine Vm hs fun p is hp=>?_
   cases is with
   | true =>
     have hpl:=hm (hp rfl)
     obtain⟨r1,r2,r3⟩:=m.row p hpl
     refine wk ?_
     refine Dw s hpl r1 m.all m.ring m.nR fun V1 h1 s1 k1=>?_
     refine wk ?_
     exact hK _ _ _ (.row hpl) s1 k1
   | false =>
     obtain⟨aa,ac,ae,a1,a2,a3,_⟩:=s.all.cut
     have Dn:=s.Dn
     rw[ae]at Dn
     have ma:=m.all
     refine wk ?_
     refine js jS ao a1 a2 a3 ?_
     refine wk ?_
     refine Aq (O:=own a V) s.lt a_ rfl (ae▸s.all.r) a2 a3 ah fun v1 h1 q1 _ x1 n1=>?_
     refine wk ?_
     refine xL (s.ext x1) q1 fun V2 h2 s2 k2 _=>?_
     refine wk ?_
     exact hK _ _ _ .all s2 ((Kp.ext x1).trans k2)
def kY (k:Nat) (ps:List PD) (g:Nat):List PD:=(ps.take k).map (dR g)++ps.drop k
theorem Iy {k:Nat}{ps:List PD}{g:Nat}:(kY k ps g).length=ps.length:=by simp[kY];omega
theorem mQ {k:Nat}{ps:List PD}{g:Nat}(hk:k<ps.length) (h:k<(kY k ps g).length):(kY k ps g)[k]=ps[k]:=by simp only[kY];rw[sH (by simp;omega)];simp[jv (jG hk)]
theorem od {k:Nat}{ps:List PD}{g:Nat}(hk:k<ps.length):(kY k ps g).set k (dR g ps[k])=kY (k+1) ps g:=by
 simp only[kY];rw[List.set_append_right _ _ (by simp;omega),kx hk,fo];have e:k-(List.map (dR g) (List.take k ps)).length=0:=by simp[jv (jG hk)]
 rw[e,kJ hk,Bf];simp
theorem BL {a:Ad}{V:VD}{h:ak}{M:MD}{g:Nat}{K:Value→ak→Prop}(s:St a V h M) (m:Sm M)
   (hK:∀ b V' h',St a V' h' (M.q (cO M.all M.ps g))→Kp (own a V) (own a V') h h'→K (.bool b) h'):cy env (.func 79) [mp a,iv g] h K:=by
 have ma:=m.all
 have mps:=m.ps
 obtain⟨aa,ac,ae,a1,a2,a3,_⟩:=s.all.cut
 have Dn:=s.Dn
 rw[ae]at Dn
 unfold mp at *
 refine F79 rfl ?_
 refine wk ?_
 refine dI (ae▸s.all) s.lt ah fun v1 h1 r1 x1=>?_
 have n1:=x1.n
 refine wk ?_
 refine xL (s.ext x1) r1 fun V2 h2 s2 k2 n2=>?_
 have K2:=(Kp.ext x1).trans k2
 obtain⟨a2',c2',e2',_⟩:=s2.all.cut
 have k26':=s2.Dn
 have el:({ M with all:=M.all.erase g }:MD).all=M.all.erase g:=rfl
 rw[e2',el]at k26'
 have ep:({ M with all:=M.all.erase g }:MD).ps=M.ps:=rfl
 have LV:=s2.LV
 rw[ep]at LV
 have hle:(M.all.erase g).length≤M.all.length:=qS
 by_cases aT:(M.all.erase g).length<M.all.length
 all_goals
   refine wk ?_
   refine aP (fun n fr' h''=>∃ k:Nat,k≤M.ps.length∧n=M.ps.length-k∧fr'.get 35=some (iv k)∧(∃ b,fr'.get 6=some (.bool b))∧∃ V'',St a V'' h'' (M.q (M.all.erase g,kY k M.ps g))∧Kp (own a V) (own a V'') h h'') M.ps.length ?_ ah ?_
   · exact⟨0,ah,ah,aA,⟨_,by simp[T.aj];rfl⟩,V2,s2,K2⟩
   rintro n fr4 h4 ⟨k,hk,rfl,f35,⟨b,f6⟩,V4,s4,k4⟩ hag
   have k25':=s4.LV
   have ep4:(M.q (M.all.erase g,kY k M.ps g)).ps.length=M.ps.length:=Iy
   rw[ep4]at k25'
   by_cases aT:k<M.ps.length
   · have hk4:k<(M.q (M.all.erase g,kY k M.ps g)).ps.length:=ah;have hget:(M.q (M.all.erase g,kY k M.ps g)).ps[k]=M.ps[k]:=mQ aT hk4;obtain⟨w,hv,hw,r,c0,c1,c2,c3,c4,_⟩:=s4.Gt hk4;rw[hget]at r;obtain⟨mr,mn,_⟩:=m.row k aT;have rs:=r.ring;have rn:=r.next
     have sr:=r.ring.c.same;cases b with
     | true =>
       have ww:=mW (aN @c0 @c1)
       refine wk ?_
       refine dI rn s4.lt ah fun v5 h5 r5 x5=>?_
       have n5:=x5.n
       have c0':=aD x5 (s4.lt _ pO) c0
       have ww:=ww.a @sr
       refine wk ?_
       refine dI (rs.kp (Kp.ext x5)) (s4.ext x5).lt ah fun v6 h6 r6 x6=>?_
       have n6:=x6.n
       refine wk ?_
       refine oF (s4.ext (x5.trans (x6.mono n5))) hk4 ah (r5.kp (Kp.ext x6)) fun V7 h7 s7 k7 n7=>?_
       refine wk ?_
       refine oe s7 (by simpa using hk4) ah (r6.kp k7) fun V8 h8 s8 k8 n8=>?_
       refine wk ?_
       refine⟨M.ps.length-(k+1),by omega,k+1,by omega,rfl,by simp[T.aj,bC (show k≤4611686018427387904 by omega)],⟨_,by simp[T.aj,f6];try rfl⟩,V8,(congrArg (St a V8 h8) ?_).mp s8,k4.trans ((Kp.ext (x5.trans (x6.mono n5))).trans (k7.trans k8))⟩
       simp only[MD.q,iD,cU,mQ aT,← od aT,dR]
     | false =>
       have ww:=mW (aN @c0 @c1)
       refine wk ?_
       refine qP rn.r ah ?_
       by_cases hg1:g∈M.ps[k].next
       · rw[decide_eq_true hg1];refine wk ?_;refine dI rn s4.lt ah fun v5 h5 r5 x5=>?_;have n5:=x5.n;have c0':=aD x5 (s4.lt _ pO) c0;have ww:=ww.a @sr;refine wk ?_;refine dI (rs.kp (Kp.ext x5)) (s4.ext x5).lt ah fun v6 h6 r6 x6=>?_;have n6:=x6.n;refine wk ?_;refine oF (s4.ext (x5.trans (x6.mono n5))) hk4 ah (r5.kp (Kp.ext x6)) fun V7 h7 s7 k7 n7=>?_;refine wk ?_;refine oe s7 (by simpa using hk4) ah (r6.kp k7) fun V8 h8 s8 k8 n8=>?_;refine wk ?_;refine⟨M.ps.length-(k+1),by omega,k+1,by omega,rfl,by simp[T.aj,bC (show k≤4611686018427387904 by omega)],⟨_,by simp[T.aj,f6];try rfl⟩,V8,(congrArg (St a V8 h8) ?_).mp s8,k4.trans ((Kp.ext (x5.trans (x6.mono n5))).trans (k7.trans k8))⟩;simp only[MD.q,iD,cU,mQ aT,← od aT,dR]
       · rw[decide_eq_false hg1];refine wk ?_;refine qP rs.r ah ?_;generalize decide (g∈M.ps[k].ring)=b';cases b' with
         | true =>refine wk ?_;refine dI rn s4.lt ah fun v5 h5 r5 x5=>?_;have n5:=x5.n;have c0':=aD x5 (s4.lt _ pO) c0;have ww:=ww.a @sr;refine wk ?_;refine dI (rs.kp (Kp.ext x5)) (s4.ext x5).lt ah fun v6 h6 r6 x6=>?_;have n6:=x6.n;refine wk ?_;refine oF (s4.ext (x5.trans (x6.mono n5))) hk4 ah (r5.kp (Kp.ext x6)) fun V7 h7 s7 k7 n7=>?_;refine wk ?_;refine oe s7 (by simpa using hk4) ah (r6.kp k7) fun V8 h8 s8 k8 n8=>?_;refine wk ?_;refine⟨M.ps.length-(k+1),by omega,k+1,by omega,rfl,by simp[T.aj,bC (show k≤4611686018427387904 by omega)],⟨_,by simp[T.aj,f6];try rfl⟩,V8,(congrArg (St a V8 h8) ?_).mp s8,k4.trans ((Kp.ext (x5.trans (x6.mono n5))).trans (k7.trans k8))⟩;simp only[MD.q,iD,cU,mQ aT,← od aT,dR]
         | false =>refine wk ?_;refine dI rn s4.lt ah fun v5 h5 r5 x5=>?_;have n5:=x5.n;have c0':=aD x5 (s4.lt _ pO) c0;have ww:=ww.a @sr;refine wk ?_;refine dI (rs.kp (Kp.ext x5)) (s4.ext x5).lt ah fun v6 h6 r6 x6=>?_;have n6:=x6.n;refine wk ?_;refine oF (s4.ext (x5.trans (x6.mono n5))) hk4 ah (r5.kp (Kp.ext x6)) fun V7 h7 s7 k7 n7=>?_;refine wk ?_;refine oe s7 (by simpa using hk4) ah (r6.kp k7) fun V8 h8 s8 k8 n8=>?_;refine wk ?_;refine⟨M.ps.length-(k+1),by omega,k+1,by omega,rfl,by simp[T.aj,bC (show k≤4611686018427387904 by omega)],⟨_,by simp[T.aj,f6];try rfl⟩,V8,(congrArg (St a V8 h8) ?_).mp s8,k4.trans ((Kp.ext (x5.trans (x6.mono n5))).trans (k7.trans k8))⟩;simp only[MD.q,iD,cU,mQ aT,← od aT,dR]
   · obtain rfl:k=M.ps.length:=ah;refine wk ?_;refine hK _ _ _ ((congrArg (St a V4 h4) ?_).mp s4) k4;simp only[MD.q,cO,kY,iF,List.drop_length,ei]
theorem AH:∀ {ps:List PD}{g k:Nat}(hk:k<ps.length),g∈ps[k].runs→(∀ j (hj:j<ps.length),j<k→g∉ps[j].runs)→dF ps g=some k
 | [],_,_,hk,_,_=>by simp at hk
 | p::ps,g,0,_,h,_=>by simp only[hJ]at h;simp[dF,h]
 | p::ps,g,k+1,hk,h,hp=>by
   have h0:g∉p.runs:=hp 0 an ah;have:=AH (ps:=ps) (k:=k) (by simpa using hk) (by simpa using h) fun j hj hjk=>by have:=hp (j+1) (by simpa using hj) ah;simpa using this
   simp[dF,h0,this]
theorem xZ:∀ {ps:List PD}{g:Nat},(∀ j (hj:j<ps.length),g∉ps[j].runs)→dF ps g=none
 | [],_,_=>rfl
 | p::ps,g,hp=>by
   have h0:g∉p.runs:=hp 0 an;have:=xZ (ps:=ps) (g:=g) fun j hj=>by have:=hp (j+1) (by simpa using hj);simpa using this
   simp[dF,h0,this]
def wv (ps:List PD) (g:Nat):Int:=match dF ps g with
 | some p=>(p:Int)
 | none=>-1
theorem K_ {a:Ad}{V:VD}{h:ak}{w:PW}{x:PD}{b1 g:Nat}{K:Value→ak→Prop}(r:IY (own a V) h w x) (hl:x.runs.length≤1) (l1:b1<h.n) (c1:cellAt h (ad b1 0)=some (iv g))
  (hK:∀ h',aw h.n h h'→K (.bool (decide (g∈x.runs))) h'):cy env (.func 114) [.agg ⟨[w.ring,w.next,w.runs,iv x.left,uv x.turns]⟩,pt b1 0] h K:=by
 obtain⟨ra,rc,re,_⟩:=r.runs.cut
 obtain⟨na,nc,ne,_⟩:=r.next.cut
 obtain⟨ga,gc,ge,_⟩:=r.ring.cut
 have rr:=r.runs.r
 rw[re,ne,ge]
 rw[re]at rr
 refine F114 rfl ?_
 have X:aw h.n h (ai h (.cells [.slice ga x.ring.length gc,.slice na x.next.length nc,.slice ra x.runs.length rc,.int .i64 x.left,.int .u64 x.turns] 113 true)):=br
 have d1:=aD X l1 c1
 refine wk ?_
 refine qP (rr.ext X) ah ?_
 refine wk ?_
 exact hK _ X
theorem OD {a:Ad}{V:VD}{h:ak}{M:MD}{b1 g:Nat}{K:Value→ak→Prop}(s:St a V h M) (m:Sm M) (l1:b1<h.n) (c1:cellAt h (ad b1 0)=some (iv g))
  (hK:∀ h',aw h.n h h'→K (iv (wv M.ps g)) h'):cy env (.func 113) [.slice (some ⟨a.p,0,none⟩) M.ps.length M.ps.length,.func (.func 114) #[] #[pt b1 0]] h K:=by
 have mps:=m.ps
 refine F113 rfl ?_
 refine wk ?_
 refine aP (fun n fr' h''=>∃ k:Nat,k≤M.ps.length∧n=M.ps.length-k∧aw h.n h h''∧fr'.get 8=some (iv k)∧(∀ j (hj:j<M.ps.length),j<k→g∉M.ps[j].runs)) M.ps.length ?_ ah ?_
 ·exact⟨0,ah,ah,aw.refl _ _,aA,fun j _ hj=>ah⟩
 rintro n fr4 h2 ⟨k,hk,rfl,X,f8,hp⟩ hag
 have n2:=X.n
 by_cases aT:k<M.ps.length
 ·obtain⟨w,hv,hw,r,_,_,_,_,_,c5⟩:=(s.ext X).Gt aT;have ww:=mW @c5;refine wk ?_;refine K_ r (m.row k aT).2.2 ah (aD X l1 c1) fun h3 X3=>?_;have XX:=X.trans (X3.mono n2);by_cases hl:g∈M.ps[k].runs;·rw[decide_eq_true hl];refine wk ?_;have:=hK _ XX;simp only[wv,AH aT hl hp]at this;exact this
  ·rw[decide_eq_false hl];refine wk ?_;exact⟨M.ps.length-(k+1),ah,k+1,ah,rfl,XX,by simp[T.aj,bC (show k≤4611686018427387904 by omega)],fun j hj hjk=>by
    by_cases e:j=k;·subst e;exact hl
    ·exact hp j hj ah⟩
 ·refine wk ?_;have:=hK _ X;simp only[wv,xZ fun j hj=>hp j hj ah]at this;exact this
theorem zQ {a:Ad}{V:VD}{h:ak}{M:MD}{g:Nat}{K:Value→ak→Prop}(s:St a V h M) (m:Sm M)
  (hK:∀ h',aw h.n h h'→K (iv (wv M.ps g)) h'):cy env (.func 80) [mp a,iv g] h K:=by
 unfold mp
 have X1:aw h.n h (ai h (.cells [.int .i64 (g:Int)] 3 true)):=br
 have d1:cellAt (ai h (.cells [.int .i64 (g:Int)] 3 true)) ⟨h.n,0,none⟩=some (.int .i64 (g:Int)):=bI
 have n1:(ai h (.cells [.int .i64 (g:Int)] 3 true)).n=h.n+1:=rfl
 have LV:=(s.ext X1).LV
 refine F80 rfl ?_
 refine wk ?_
 refine OD (s.ext X1) m ah d1 fun h3 X3=>?_
 refine wk ?_
 exact hK _ (X1.jI X3)
theorem td {B:Nat}{v:Value}{l:List TD}{h:ak}{K:Value→ak→Prop}(r:MG B h v l) (hB:B≤h.n) (hN:l.length≤50000) (hK:∀ v' h',bT h.n h' 137 v' l.length (l.map TD.cells).flatten→aw h.n h h'→K v' h'):cy env (.func 52) [v] h K:=by
 refine F52 rfl ?_;obtain⟨a,c,rfl,_,q⟩:=id r;cases a with
 | none =>
   have hN0:l=[]:=by
     rcases l with _|⟨x,l⟩;· rfl
     · obtain⟨i,o,e,_⟩:=q 0 an;cases e
   subst hN0
   have ww:=mW (aN @GY @pD.{0})
   refine wk ?_
   exact hK _ h bT.nil (aw.refl _ _)
 | some a =>
   have ww:=mW (aN @GY @ti.{0})
   refine wk ?_
   have X1:aw h.n h (ai h (.cells [] 137 true)):=br
   have hn1:(ai h (.cells [] 137 true)).n=h.n+1:=rfl
   refine lN (l:=[]) rfl ?_
   generalize ai h (.cells [] 137 true)=h1 at X1 hn1 ⊢
   refine wk ?_
   refine o0 (bT.emp (B:=h.n) h.n (by omega)) (by omega) rfl rfl (by omega) (fun h0=>((r.ext (X1.mono hB)).first h0)) (TD.len l) (TD.one l) (by decide) fun v' h' o X2=>?_
   rw[cb,gy]at o
   have n2:=X2.n
   refine wk ?_
   exact hK v' h' o (X1.trans X2)
section
variable {E:Env}{fr:Go.Ev.Fr}{h:ak}{K:Value→ak→Prop}{x:Operand}{t:TypeId}
def Ts (E:Env) (t:TypeId) (v:Value) (h:ak) (K:Value→ak→Prop) [iJ K]:Prop:=match uT E [t] [v] h with
 | some (u,h')=>K u h'
 | none=>False
theorem LH:fY E (.call ⟨.builtin .clear,⟨[x]⟩,⟨[t]⟩⟩) fr h K=dM E fr x fun v=>Ts E t v h K:=by
 simp only[fY,jl,kR,tV,bR,eT,mb,Bx,aW,dM,de,Ts];cases ev E fr x with
 | none=>simp[qF]
 | some a =>
   simp only[aS,exists_eq_left']
   generalize uT E [t] [a] h=r
   cases r with
   | none=>simp[qF]
   | some p=>obtain⟨u,h'⟩:=p;simp[fj]
end
theorem und58:b_ env 58=some (.slice 137):=c_
theorem SH:(zero env 137).map (·.cells.toList)=some [uv 0,iv 0]:=c_
theorem EM:∀ m,(rep m [uv 0,iv 0]).all aE=true∧(rep m [uv 0,iv 0]).length=m*2
 | 0=>⟨rfl,rfl⟩
 | m+1=>by have ih:=EM m;simp only[rep,List.all_append,dA,ih.1,ih.2,dn,cF];exact⟨rfl,ah⟩
theorem Vw {i M n c:Nat}{rows:List TD}{h:ak}{K:Value→ak→Prop}(hg:h.b.get i=some (.cells (rows.map TD.cells).flatten 137 false)) (hn:rows.length=n) (hM:M<n)
  (q:∀ cs,(cs.take (M*2))=((rows.take M).map TD.cells).flatten→cs.length=n*2→K (.tuple #[]) (aO h i (.cells cs 137 false))) :
  Ts env 58 (.slice (some ⟨i,M*2,none⟩) (n-M) c) h K:=by
 obtain⟨r1,r2⟩:=EM (n-M)
 have hz:=SH
 obtain⟨z,hz1,hz2⟩:=aY.1 hz
 have hlen:((rows.map TD.cells).flatten).length=n*2:=by rw[TD.len,hn]
 have hsp:(rows.map TD.cells).flatten=((rows.take M).map TD.cells).flatten++(((rows.drop M).map TD.cells).flatten++[]):=by rw[ei,← jA,← fo,iE]
 have hl1:(((rows.take M).map TD.cells).flatten).length=M*2:=by rw[TD.len,fp];omega
 have hl2:(((rows.drop M).map TD.cells).flatten).length=(rep (n-M) [uv 0,iv 0]).length:=by rw[TD.len,r2,kg,hn]
 have ov:=pb (rep (n-M) [uv 0,iv 0]) ((rows.take M).map TD.cells).flatten ((rows.drop M).map TD.cells).flatten [] hl2
 rw[← hsp,hl1]at ov
 have hne:rep (n-M) [uv 0,iv 0]≠[]:=by intro e;rw[e]at r2;simp at r2;omega
 have hw:=mN hg ov hne
 have e:uT env [58] [.slice (some ⟨i,M*2,none⟩) (n-M) c] h=some (.tuple #[],aO h i (.cells (((rows.take M).map TD.cells).flatten++(rep (n-M) [uv 0,iv 0]++[])) 137 false)):=by simp only[uT,und58,hz1,hz2,r1,hw];rfl
 simp only[Ts,e]
 refine q _ ?_ ?_
 ·rw[← hl1,List.take_left'];rfl
 ·rw[dA,hl1,ei,r2];omega
def Lp (g:Nat) (t:TD):Bool:=decide (t.id=(g:Int))
def Vg (l:List TD) (g:Nat):Int:=match l.findIdx? (Lp g) with
 | some k=>(k:Int)
 | none=>-1
theorem Gj {x:TD}{b1 g:Nat}{h:ak}{K:Value→ak→Prop}(l1:b1<h.n) (c1:cellAt h (ad b1 0)=some (iv g))
  (hK:∀ h',aw h.n h h'→K (.bool (Lp g x)) h'):cy env (.func 82) [.agg ⟨[uv x.at_,iv x.id]⟩,pt b1 0] h K:=by
 refine F82 rfl ?_
 have X:aw h.n h (ai h (.cells [uv x.at_,iv x.id] 137 true)):=br
 have d1:=aD X l1 c1
 unfold Lp at hK
 by_cases e:x.id=(g:Int)
 ·rw[decide_eq_true e]at hK;refine wk ?_;all_goals first|exact hK _ X|omega
 ·rw[decide_eq_false e]at hK;refine wk ?_;all_goals first|exact hK _ X|omega
theorem Ru {B:Nat}{v:Value}{l:List TD}{b1 g:Nat}{h:ak}{K:Value→ak→Prop}(r:MG B h v l) (hB:B≤h.n) (hl:l.length≤100000) (l1:b1<h.n) (c1:cellAt h (ad b1 0)=some (iv g))
   (hK:∀ h',aw h.n h h'→K (iv (Vg l g)) h'):cy env (.func 115) [v,.func (.func 82) #[] #[pt b1 0]] h K:=by
 obtain⟨pa,pc,rfl,_⟩:=id r
 refine F115 rfl ?_
 refine wk ?_
 refine aP (fun m fr' h''=>∃ k:Nat,k≤l.length∧m=l.length-k∧aw h.n h h''∧fr'.get 8=some (iv k)∧(∀ j (hj:j<l.length),j<k→Lp g l[j]=false)) l.length ?_ ah ?_
 · exact⟨0,ah,ah,aw.refl _ _,aA,fun j _ hj=>ah⟩
 rintro m fr4 h2 ⟨k,hk,rfl,X,f8,hp⟩ hag
 have n2:=X.n
 by_cases aT:k<l.length
 · obtain⟨i,o,rfl,hi,hc⟩:=(r.ext (X.mono hB)).at_ aT;have ww:=mW @hc;refine wk ?_;refine Gj ah (aD X l1 c1) fun h3 X3=>?_;have XX:=X.trans (X3.mono n2);cases hl:Lp g l[k]with
   | false =>refine wk ?_;exact⟨l.length-(k+1),ah,k+1,ah,rfl,XX,by simp[T.aj,bC (show k≤4611686018427387904 by omega)],fun j hj hjk=>by
       by_cases e:j=k;· subst e;exact hl
       · exact hp j hj ah⟩
   | true =>refine wk ?_;have:=hK _ XX;have e:l.findIdx? (Lp g)=some k:=qs.2 ⟨aT,hl,fun j hj=>by rw[hp j ah hj];simp⟩;simp only[Vg,e]at this;exact this
 · refine wk ?_;have:=hK _ X;have e:l.findIdx? (Lp g)=none:=tO.2 fun x hx=>by obtain⟨j,hj,rfl⟩:=eU hx;exact hp j hj ah
   simp only[Vg,e]at this;exact this
open Go.Ev
open Pl
set_option maxRecDepth 100000
set_option maxHeartbeats 4000000
def oX (l:List TD) (g:Nat):List TD:=l.filter fun t=>!Lp g t
theorem MM {l:List TD}{g:Nat}(h:∀ x∈l,Lp g x=false):oX l g=l:=List.filter_eq_self.2 fun x hx=>by rw[h x hx];rfl
theorem TD.hf:∀ x:TD,x.cells.length=2:=fun _=>rfl
theorem RS.pre {O:Nat→Prop}{N i m:Nat}{h:ak}{cs:List Value}{l:List TD}(hi:i<h.n) (hg:h.b.get i=some (.cells cs 137 false)) (hc:cs.take (l.length*2)=(l.map TD.cells).flatten) (hm:m=l.length) (hO:∀ j,O j→j<N) (hN:N≤i) (hl:l.length≤100000):RS O 2 h (.slice (some ⟨i,0,none⟩) m bh) (l.map TD.cells):=by
 subst hm;refine⟨⟨_,_,by rw[aI],by rw[aI];unfold bh;omega,fun k hk=>⟨i,0,rfl,hi,?_⟩⟩,.fresh (N:=N) a_ (fun e=>by cases e) hO (fun x e=>by cases e;exact⟨hN,rfl⟩),fun j bj=>by obtain ⟨x,e,rfl,_⟩:=aU.1 bj;cases e;exact⟨hi,_,_,_,hg,ao⟩⟩;rw[aI]at hk;refine aq hi hg ?_ (by simp[TD.cells]);rw[cb];have h1:((cs.take (l.length*2)).drop (k*2)).take 2=(l.map TD.cells)[k]'(by simpa using hk):=by rw[hc,tD (sz:=2) _ k (by simp[TD.cells])]
 rw[List.drop_take,List.take_take,jv ah]at h1;exact h1
theorem Fy {O:Nat→Prop}{N b1 g:Nat}{v:Value}{l:List TD}{h:ak}{K:Value→ak→Prop}(o:bT N h 137 v l.length (l.map TD.cells).flatten) (hO:∀ j,O j→j<N) (hl:l.length≤5000) (l1:b1<N) (hN:N≤h.n) (c1:cellAt h (ad b1 0)=some (iv g))
   (hK:∀ v' h',RS O 2 h' v' ((oX l g).map TD.cells)→aw N h h'→K v' h'):cy env (.func 81) [v,.func (.func 82) #[] #[pt b1 0]] h K:=by
 refine F81 rfl ?_
 have oc:=tJ o hO
 have r:=MG.own o ah
 obtain⟨pa,pc,rfl,_,rr⟩:=id r
 refine wk ?_
 refine Ru r a_ ah ah c1 fun h1 x1=>?_
 have X1:=x1.mono hN
 unfold Vg
 cases hf:l.findIdx? (Lp g) with
 | none =>
   have:=tO.1 hf
   have e:oX l g=l:=MM this
   refine wk ?_
   refine hK _ _ ?_ X1
   rw[e]
   exact RS.kp ⟨⟨pa,pc,by rw[aI],by rw[aI];assumption,rr⟩,oc.1,oc.2⟩ (Kp.ext x1)
 | some k0 =>
   obtain⟨hk0,hd,hp⟩:=qs.1 hf
   generalize hcs:(l.map TD.cells).flatten=cs at o
   generalize hnn:l.length=nn at o
   cases o with
   | nil=>omega
   | emp i hi=>omega
   | row i n cs h1' h2 h3 =>
   subst hnn hcs
   have n1:=x1.n
   have hb1:h1.b.get i=some (.cells (l.map TD.cells).flatten 137 false):=(x1.get i h2).trans h3
   have w1:=rU k0
   have ww:=mW @w1
   refine wk ?_
   have hpre:oX (l.take (k0+1)) g=l.take k0:=by
     rw[kx hk0,oX,u_,List.filter_eq_self.2,uZ,List.filter_nil,ei];· simp[hd]
     · intro x hx;obtain⟨j,hj,rfl⟩:=eU hx;simp only[fp]at hj;rw[List.getElem_take];have:=hp j ah;simp at this;simp[this]
   refine aP (fun m fr' h''=>∃ (j i':Nat) (c:List TD),j≤l.length∧m=l.length-j∧i'<j∧c.length=l.length∧i'=(oX (l.take j) g).length∧c.take i'=oX (l.take j) g∧c.drop j=l.drop j∧aw i h h''∧h.n≤h''.n∧h''.b.get i=some (.cells (c.map TD.cells).flatten 137 false)∧fr'.get 6=some (iv j)∧fr'.get 5=some (iv i')) (l.length-(k0+1)) ?_ ah ?_
   · refine⟨k0+1,k0,l,ah,ah,ah,rfl,by rw[hpre];simp;omega,by rw[hpre],rfl,x1.mono ah,n1,hb1,aA,aA⟩
   rintro m fr4 h4 ⟨j,i',c,hj,rfl,hij,hcl,hi',hc1,hc2,X4,n4,hb4,f6,f5⟩ hag
   by_cases aT:j<l.length
   · have hcj:c[j]'(by omega)=l[j]:=by have:=congrArg (fun z=>z[0]?) hc2;simp only[kH,cj]at this;rw[bw ah,bw aT]at this;exact gY this
     have ld:av h4 (ad i (j*2)) 2=some [uv l[j].at_,iv l[j].id]:=by have:=dC (j:=0) (n:=2) (sz:=2) hb4 ah TD.hf (k:=j) ah ao;rw[hcj]at this;exact this
     have w2:=rU j;have w3:=rU i';have ww:=ww.a (aN @ld @w2);refine wk ?_;obtain⟨h5,eh5⟩:=gz (ai h4 (.cells [uv l[j].at_,iv l[j].id] 137 true));have X5:=tW eh5;have n5:=qk eh5;have d5:av h5 (ad h4.n 0) 2=some [uv l[j].at_,iv l[j].id]:=eh5▸(aV rfl);rw[eh5];have c5:=aD (X4.jI X5) ah c1;refine Gj (x:=l[j]) ah c5 fun h6 x6=>?_;have n6:=x6.n;have d6:=aG x6 ah d5;have hb6:h6.b.get i=some (.cells (c.map TD.cells).flatten 137 false):=x6.cY (X5.cY hb4);have X6:=X4.trans ((X5.mono ah).trans (x6.mono ah));have tks:l.take (j+1)=l.take j++[l[j]]:=kx aT;have hdr:∀ c':List TD,c'.length=l.length→c'.drop j=l.drop j→c'.drop (j+1)=l.drop (j+1):=fun c' h1 h2=>by rw[← nB,h2,nB]
     cases hd:Lp g l[j]with
     | true =>
       have ho:oX (l.take (j+1)) g=oX (l.take j) g:=by rw[tks,oX,u_,uZ (by simp[hd]),List.filter_nil,ei];rfl
       refine wk ?_
       exact⟨l.length-(j+1),ah,j+1,i',c,ah,rfl,ah,hcl,by rw[ho];exact hi',by rw[ho];exact hc1,hdr c hcl hc2,X6,ah,hb6,aA,by simp[T.aj,f5]⟩
     | false =>
       have ho:oX (l.take (j+1)) g=oX (l.take j) g++[l[j]]:=by rw[tks,oX,u_,zU (by simp[hd]),List.filter_nil];rfl
       refine wk ?_
       refine jc (l:=c) (f:=TD.cells) (sz:=2) (k:=i') (j:=0) (y:=l[j]) hb6 TD.hf ah rfl rfl rfl rfl ao ?_
       obtain⟨h7,eh7⟩:=gz (aO h6 i (.cells ((c.set i' l[j]).map TD.cells).flatten 137 false))
       have hb7:=rS eh7
       have X7:aw i h6 h7:=eh7▸(aw.set _ a_)
       have n7:=sW eh7
       rw[eh7]
       have ww:=ww.a @w3
       refine wk ?_
       refine⟨l.length-(j+1),ah,j+1,i'+1,c.set i' l[j],ah,rfl,ah,by simp[hcl],by rw[ho];simp[hi'],?_,?_,X6.trans X7,ah,hb7,aA,aA⟩
       · rw[ho,← hc1,kx (by simp;omega),Ax a_,cU]
       · exact hdr _ (by simp[hcl]) (by rw[ze hij];exact hc2)
   · obtain rfl:j=l.length:=ah;rw[iF]at hi' hc1;refine wk ?_;refine kV Ia ao ao ah (by unfold bh;omega) fun a' c' ha _ _=>?_;obtain rfl:=ha hij;rw[cb];have ww:=ww.a @LH;refine wk ?_;refine Vw hb4 hcl hij fun cs hcs hcn=>?_;have hb7:(aO h4 i (.cells cs 137 false)).b.get i=some (.cells cs 137 false):=aF;have X7:aw i h4 (aO h4 i (.cells cs 137 false)):=aw.set _ a_;have n7:(aO h4 i (.cells cs 137 false)).n=h4.n:=rfl;generalize aO h4 i (.cells cs 137 false)=h7 at hb7 X7 n7 ⊢;refine wk ?_;refine Au Ia ao ao (jG hij) (by unfold bh;omega) ?_;refine wk ?_;refine hK _ _ (RS.pre (N:=N) ah hb7 ?_ hi' hO h1' ah) ((X4.trans X7).mono h1');rw[← hi',hcs,hc1]
theorem Kp.no {O O':Nat→Prop}{h h':ak}{j:Nat}(k:Kp O O' h h') (hj:j<h.n) (ho:¬O j):¬O' j:=fun o=>ho (k.own j hj o)
theorem j7 {O O':Nat→Prop}{h h':ak}{j off:Nat}{v:Value}(k:Kp O O' h h') (hj:j<h.n) (ho:¬O j) (c:cellAt h (ad j off)=some v):cellAt h' (ad j off)=some v:=by
 unfold cellAt at c ⊢;cases hl:av h ⟨j,off,none⟩ 1 with
 | none=>rw[hl]at c;cases c
 | some l=>rw[hl]at c;rw[lL k.n (k.get j hj ho) hl];exact c
def MD.off (M:MD) (g:Nat):MD:={ M with all:=(my M.all M.ps g).1,ps:=(my M.all M.ps g).2,tm:=oX M.tm g }
theorem Sm.leave {M:MD}(m:Sm M) (g:Nat):Sm (M.q (cO M.all M.ps g)):=by
 refine⟨by simp only[MD.q,cO,aI];exact m.ps,?_,fun p h=>?_,m.ring,m.nR⟩;·exact bO qS m.all
 ·simp only[MD.q,cO,aI]at h;simp only[MD.q,cO,dr,dR];obtain⟨h1,h2,h3⟩:=m.row p h;exact⟨bO qS h1,bO qS h2,h3⟩
theorem RS.len {O:Nat→Prop}{sz:Nat}{h:ak}{v:Value}{rows:List (List Value)}(r:RS O sz h v rows):∃ a c,v=.slice a rows.length c∧c≠fb∧(a=none→c=0)∧rows.length≤c∧c≤bh:=by obtain⟨a,n,c,e,h1,h2,_⟩:=r.c;obtain⟨a',c',e',h3,_⟩:=r.r;rw[e]at e';cases e';exact⟨a,c,e,fun e=>by rw[e]at h1;revert h1;decide,h2,h3,h1⟩
theorem qM {a:Ad}{V:VD}{h:ak}{M:MD}{g:Nat}{K:Value→ak→Prop}(s:St a V h M) (m:Sm M) (ht:M.tm.length≤5000)
   (hK:∀ V' h',St a V' h' (M.off g)→Kp (own a V) (own a V') h h'→K (dE []) h'):cy env (.func 44) [mp a,iv g] h K:=by
 unfold mp at *
 have d1:cellAt (ai h (.cells [.int .i64 (g:Int)] 3 true)) ⟨h.n,0,none⟩=some (.int .i64 (g:Int)):=bI
 have s1:=s.new (.cells [iv g] 3 true)
 have k1:Kp (own a V) (own a V) h (ai h (.cells [.int .i64 (g:Int)] 3 true)):=.new
 have n1:(ai h (.cells [.int .i64 (g:Int)] 3 true)).n=h.n+1:=rfl
 have no:¬own a V h.n:=fun o=>dy _ (s.lt _ o)
 refine F44 rfl ?_
 refine wk ?_
 refine BL s1 m fun b V2 h2 s2 k2=>?_
 have d2:=j7 k2 ah no d1
 have no2:=k2.no ah no
 have n2:=k2.n
 refine wk ?_
 refine zQ s2 (m.leave g) fun h3 x3=>?_
 have s3:=s2.ext x3
 have d3:=j7 (Kp.ext (O:=own a V2) x3) ah no2 d2
 have n3:=x3.n
 have K3:=(k1.trans k2).trans (Kp.ext x3)
 have hps:(M.q (cO M.all M.ps g)).ps=(cO M.all M.ps g).2:=rfl
 unfold wv
 rw[hps]
 cases hr:dF (cO M.all M.ps g).2 g with
 | none =>
   have eo:my M.all M.ps g=cO M.all M.ps g:=by simp only[my,hr]
   refine wk ?_
   refine td (RS.T s3.tm) a_ (by show M.tm.length≤_;omega) fun v4 h4 o4 x4=>?_
   have n4:=x4.n
   refine wk ?_
   refine Fy (N:=h3.n) (g:=g) o4 (O:=own a V2) s3.lt ht ah n4 (aD x4 ah d3) fun v5 h5 r5 x5=>?_
   have n5:=x5.n
   refine wk ?_
   refine WU (s3.ext (x4.trans x5)) r5 fun V6 h6 s6 k6 n6=>?_
   refine wk ?_
   refine hK V6 h6 ((congrArg (St a V6 h6) ?_).mp s6) (K3.trans ((Kp.ext (x4.trans x5)).trans k6))
   simp only[MD.off,MD.q,eo]
 | some p =>
   obtain⟨hp,_⟩:=lI hr
   have hpl:p<M.ps.length:=by simpa[cO]using hp
   have mps:=m.ps
   have eo:my M.all M.ps g=((cO M.all M.ps g).1,(cO M.all M.ps g).2.set p { (cO M.all M.ps g).2[p]with runs:=[] }):=by simp only[my,hr,JH,bw hp]
   have LV:=s3.LV
   have hl25:(M.q (cO M.all M.ps g)).ps.length=M.ps.length:=by simp[MD.q,cO]
   rw[hl25]at LV
   refine wk ?_
   refine J7 s3 hp ah (RI.nil s3.lt) fun V4 h4 s4 k4 n4=>?_
   have no3:=(Kp.ext (O:=own a V2) x3).no ah no2
   have d4:=j7 k4 ah no3 d3
   refine wk ?_
   refine td (RS.T s4.tm) a_ (by show M.tm.length≤_;omega) fun v5 h5 o5 x5=>?_
   have n5:=x5.n
   refine wk ?_
   refine Fy (N:=h4.n) (g:=g) o5 (O:=own a V4) s4.lt ht ah n5 (aD x5 ah d4) fun v6 h6 r6 x6=>?_
   have n6:=x6.n
   refine wk ?_
   refine WU (s4.ext (x5.trans x6)) r6 fun V7 h7 s7 k7 n7=>?_
   refine wk ?_
   refine hK V7 h7 ((congrArg (St a V7 h7) ?_).mp s7) (K3.trans (k4.trans ((Kp.ext (x5.trans x6)).trans k7)))
   simp only[MD.off,MD.q,eo]
theorem yq (l:List Nat) (g z:Nat) (h:g∈l):(l.erase g).count z+(if z=g then 1 else 0)=l.count z:=by
 rw[lD];by_cases e:z=g;·subst e;have:=kD.2 h;rw[if_pos rfl,if_pos rfl];omega
 ·rw[if_neg e,if_neg e];omega
theorem zo:∀ (n:Nat) (l:List Nat),(∀ x∈l,x<n)→(∀ x,l.count x≤1)→l.length≤n
 | 0,l,h,_=>by
   cases l with
   | nil=>simp
   | cons x l=>have:=h x an;omega
 | n+1,l,h,hc=>by
   by_cases hm:n∈l
   · have h1:=zo n (l.erase n) (fun x hx=>by
       have h2:=h x (List.mem_of_mem_erase hx);have h3:x≠n:=by rintro rfl;have:=kD.2 hx;have h4:=lD l x x;rw[if_pos rfl]at h4;have:=hc x;omega
       omega) (fun x=>by have:=lD l n x;have:=hc x;split at *<;>omega)
     have:=List.length_erase_of_mem hm;have:=List.length_pos_of_mem hm;omega
   · have:=zo n l (fun x hx=>by
       have h2:=h x hx;have h3:x≠n:=by rintro rfl;exact hm hx
       omega) hc
     omega
structure nD (M:MD):Prop where
 Bj:M.ps.length≤8
 zP:M.gs.length≤64
 dS:∀ z,dS M.all M.ps z≤1
 lt:∀ z,0<Pl.dS M.all M.ps z→z<M.gs.length
 next:∀ p (h:p<M.ps.length),M.ps[p].next.length≤1
 runs:∀ p (h:p<M.ps.length),M.ps[p].runs.length≤1
 ring:M.cfg.ring≤32
 nR:2≤M.cfg.ring
theorem CM {all:List Nat}{ps:List PD}{z:Nat}:all.count z≤dS all ps z:=by simp only[dS];omega
theorem mH {all:List Nat}{ps:List PD}{p z:Nat}(hp:p<ps.length):ps[p].runs.count z+(ps[p].next.count z+ps[p].ring.count z)≤dS all ps z:=by have:=lX hp z;simp only[PD.Bl]at this;simp only[dS];omega
theorem nD.abV {M:MD}(q:nD M):M.all.length≤64:=by refine bO (zo M.gs.length M.all (fun x hx=>q.lt x ?_) fun x=>bO CM (q.dS x)) q.zP;exact bX (kD.2 hx) CM
theorem nD.FI {M:MD}(q:nD M) {p:Nat}(hp:p<M.ps.length):M.ps[p].ring.length≤64:=by
 refine bO (zo M.gs.length M.ps[p].ring (fun x hx=>q.lt x ?_) fun x=>?_) q.zP;·have:=mH (all:=M.all) (z:=x) hp;have:=kD.2 hx;omega
 ·have:=mH (all:=M.all) (z:=x) hp;have:=q.dS x;omega
theorem nD.sm {M:MD}(q:nD M):Sm M :=
 ⟨q.Bj,bO q.abV ao,fun p h=>⟨bO (q.FI h) ao,q.next p h,q.runs p h⟩,bO q.ring ao,q.nR⟩
structure Mv (M:MD) (x:List Nat×List PD) (l:List Nat):Prop where
 dS:∀ z,dS x.1 x.2 z+l.count z=Pl.dS M.all M.ps z
 len:x.2.length=M.ps.length
 next:∀ p (h:p<x.2.length),x.2[p].next.length≤1
 runs:∀ p (h:p<x.2.length) (h':p<M.ps.length),x.2[p].runs=M.ps[p].runs
theorem Mv.refl {M:MD}(q:nD M):Mv M (M.all,M.ps) []:=⟨fun z=>an,rfl,q.next,fun _ _ _=>rfl⟩
theorem Mv.Sv {M:MD}{x:List Nat×List PD}{l:List Nat}(q:nD M) (m:Mv M x l):nD (M.q x) :=
 ⟨by show x.2.length≤8;rw[m.len];exact q.Bj,q.zP,fun z=>by have:=m.dS z;have:=q.dS z;show Pl.dS x.1 x.2 z≤1;omega,
  fun z h=>q.lt z (by have h:0<Pl.dS x.1 x.2 z:=h;have:=m.dS z;omega),m.next,fun p h=>by
   have h':p<M.ps.length:=by rw[← m.len];exact h
   show x.2[p].runs.length≤1;rw[m.runs p h h'];exact q.runs p h',q.ring,q.nR⟩
theorem Mv.trans {M:MD}{x y:List Nat×List PD}{l l':List Nat}(m:Mv M x l) (m':Mv (M.q x) y l'):Mv M y (l++l') :=
 ⟨fun z=>by have h1:=m.dS z;have h2:=m'.dS z;simp only[MD.q]at h2;rw[hI];omega,by rw[m'.len];exact m.len,m'.next,fun p h h'=>by
  have h2:p<x.2.length:=by rw[m.len];exact h'
  rw[m'.runs p h h2];exact m.runs p h2 h'⟩
theorem ju (g z:Nat):([g]:List Nat).count z=if z=g then 1 else 0:=by
 by_cases h:z=g;·subst h;simp
 ·rw[if_neg h,pe];simpa using h
theorem AG {Ring:Nat}{all:List Nat}{ps:List PD}{p g q:Nat}(h:q<(kO Ring all ps p g).2.length) (h':q<ps.length) :
  (kO Ring all ps p g).2[q].next=ps[q].next∧(kO Ring all ps p g).2[q].runs=ps[q].runs:=by
 revert h
 generalize hy:kO Ring all ps p g=y
 intro h
 have st:∀ (w:PD) (hp:p<ps.length),w.next=ps[p].next→w.runs=ps[p].runs→y.2=ps.set p w→y.2[q].next=ps[q].next∧y.2[q].runs=ps[q].runs:=fun w hp h1 h2 e=>by
  simp only[e,cJ];split;·rename_i e;subst e;exact⟨h1,h2⟩
  ·exact⟨rfl,rfl⟩
 by_cases hp:p<ps.length
 ·have e:ps[p]?=some ps[p]:=bw hp;by_cases hr:ps[p].ring.length<Ring;·simp only[kO,e,if_pos hr]at hy;subst hy;exact st { ps[p]with ring:=ps[p].ring++[g] } hp rfl rfl rfl
  ·simp only[kO,e,if_neg hr]at hy;subst hy;exact st { ps[p]with ring:=ps[p].ring.drop ((Ring+1) / 2) } hp rfl rfl rfl
 ·have e:ps[p]?=none:=qK ah;simp only[kO,e]at hy;subst hy;exact⟨rfl,rfl⟩
theorem Mv.row {M:MD}{x:List Nat×List PD}{l:List Nat}{p g:Nat}(m:Mv M x (g::l)) (hp:p<M.ps.length):Mv M (kO M.cfg.ring x.1 x.2 p g) l:=by
 have hp':p<x.2.length:=by rw[m.len];exact hp
 refine⟨fun z=>?_,by rw[tr];exact m.len,fun q h=>?_,fun q h h'=>?_⟩
 ·have h1:=m.dS z;have h2:=EL (Ring:=M.cfg.ring) (all:=x.1) (g:=g) hp' z;have h3:(g::l).count z=l.count z+(if z=g then 1 else 0):=by rw[show g::l=[g]++l from rfl,hI,ju];omega
  omega
 ·have h2:q<x.2.length:=by rw[tr]at h;exact h
  rw[(AG h h2).1];exact m.next q h2
 ·have h2:q<x.2.length:=by rw[tr]at h;exact h
  rw[(AG h h2).2];exact m.runs q h2 h'
theorem Mv.set {M:MD}{x:List Nat×List PD}{l l':List Nat}{p:Nat}{y:PD}(m:Mv M x l) (hp:p<x.2.length) (hr:y.runs=x.2[p].runs) (hn:y.next.length≤1)
  (ho:∀ z,y.next.count z+y.ring.count z+l'.count z=x.2[p].next.count z+x.2[p].ring.count z+l.count z):Mv M (x.1,x.2.set p y) l':=by
 refine⟨fun z=>?_,by simpa using m.len,fun q h=>?_,fun q h h'=>?_⟩
 ·have h1:=m.dS z;have h2:=ni hp y z;have h3:=ho z;have h4:=lX hp z;simp only[PD.Bl,hr]at h2 h4;simp only[Pl.dS]at h1 ⊢;omega
 ·simp only[cS]at h;simp only[cJ];split;·exact hn
  ·exact m.next q h
 ·simp only[cS]at h;simp only[cJ];split;·rename_i e;subst e;rw[hr];exact m.runs _ h h'
  ·exact m.runs q h h'
theorem DQ {M:MD}(q:nD M) {p:Nat}(hp:p<M.ps.length):Mv M (iT M.cfg.ring M.all M.ps p) []∧∀ h:p<(iT M.cfg.ring M.all M.ps p).2.length,(iT M.cfg.ring M.all M.ps p).2[p].next=[]:=by
 have e:M.ps[p]?=some M.ps[p]:=bw hp;have m0:Mv M (M.all,M.ps.set p { M.ps[p]with next:=[] }) M.ps[p].next:=Mv.set (Mv.refl q) hp rfl an fun z=>by simp;omega
 have hl:=q.next p hp
 unfold iT;rw[e];simp only;match hn:M.ps[p].next with
 | [] =>
   rw[hn]at m0
   exact⟨m0,fun h=>by simp only[sG,cU]⟩
 | [g] =>
   rw[hn]at m0
   refine⟨m0.row hp,fun h=>?_⟩
   simp only[sG]at h ⊢
   rw[(AG h (by simpa using hp)).1,cU]
 | g::g'::l=>rw[hn]at hl;simp at hl
def v_ (M:MD):Prop:=∀ g (h:g<M.gs.length),M.gs[g].x.jF<256
theorem Db {a:Ad}{V:VD}{h:ak}{M:MD}{g p:Nat}{K:Value→ak→Prop}(s:St a V h M) (ha:v_ M) (hg:g<M.gs.length) (hp:p<8)
   (hK:∀ b,K (.bool b) h):cy env (.func 118) [mp a,iv g,iv p] h K:=by
 have g1:=s.gC hg 1 ao
 have g8:=s.gC hg 8 ao
 simp only[Ob.cells,GD.cells,cu,cR]at g1 g8
 unfold mp
 refine F118 rfl ?_
 cases his:M.gs[g].is with
 | true =>
   rw[his]at g1
   refine wk ?_
   refine CV hp (ha g hg) ?_
   refine wk ?_
   exact hK _
 | false =>
   rw[his]at g1
   refine wk ?_
   exact hK _
theorem FC {a:Ad}{V:VD}{h:ak}{M:MD}{b1 b2 g p:Nat}{K:Value→ak→Prop}(s:St a V h M) (ha:v_ M) (hg:g<M.gs.length) (hp:p<8) (c1:cellAt h (ad b1 0)=some (mp a)) (c2:cellAt h (ad b2 0)=some (iv p))
  (hK:∀ b,K (.bool b) h):cy env (.func 117) [iv g,pt b1 0,pt b2 0] h K:=by
 refine F117 rfl ?_
 have ww:=mW (aN @c1 @c2)
 refine wk ?_
 refine Db s ha hg hp fun b=>?_
 refine wk ?_
 exact hK b
theorem P7 {a:Ad}{V:VD}{h:ak}{M:MD}{B b1 b2 p:Nat}{v:Value}{l:List Nat}{K:Value→ak→Prop}(s:St a V h M) (ha:v_ M) (hl:l.length≤5000) (aT:∀ x∈l,x<M.gs.length) (r:rG B h v l) (hp:p<8) (c1:cellAt h (ad b1 0)=some (mp a)) (c2:cellAt h (ad b2 0)=some (iv p))
   (hK1:∀ i,i<l.length→K (iv i) h) (hK2:K (iv (-1)) h):cy env (.func 116) [v,.func (.func 117) #[] #[pt b1 0,pt b2 0]] h K:=by
 obtain⟨pa,pc,rfl,_⟩:=id r
 refine F116 rfl ?_
 refine wk ?_
 refine aP (fun m fr' h''=>∃ k:Nat,k≤l.length∧m=l.length-k∧h''=h∧fr'.get 8=some (iv k)) l.length ?_ ah ?_
 · exact⟨0,ah,ah,rfl,aA⟩
 rintro m fr4 h'' ⟨k,hk,rfl,rfl,f8⟩ hag
 by_cases hk':k<l.length
 · obtain⟨i,o,rfl,hi,hc⟩:=r.at_ hk';have ww:=mW (aN @hc @bQ);refine wk ?_;refine FC s ha (aT _ (bG hk')) hp c1 c2 fun b=>?_;cases b with
   | true =>refine wk ?_;exact hK1 k hk'
   | false =>refine wk ?_;exact⟨l.length-(k+1),ah,k+1,ah,rfl,by simp[T.aj,bC (show k≤4611686018427387904 by omega)]⟩
 · refine wk ?_;exact hK2
theorem IF {a:Ad}{V:VD}{h:ak}{M:MD}{p:Nat}{K:Value→ak→Prop}(s:St a V h M) (q:nD M) (ha:v_ M) (hp:p<8)
  (hK:∀ l x v V' h',l.length≤1→Mv M x l→RI (own a V') h' v l→St a V' h' (M.q x)→Kp (own a V) (own a V') h h'→K v h'):cy env (.func 84) [mp a,iv p] h K:=by
 have hal:=q.abV
 unfold mp at *
 refine F84 rfl ?_
 have s1:=s.new (.cells [pt a.m 0] 32 true)
 have k1:Kp (own a V) (own a V) h (ai h (.cells [.pointer (some ⟨a.m,0,none⟩)] 32 true)):=.new
 have d1:cellAt (ai h (.cells [.pointer (some ⟨a.m,0,none⟩)] 32 true)) ⟨h.n,0,none⟩=some (.pointer (some ⟨a.m,0,none⟩)):=bI
 have n1:(ai h (.cells [.pointer (some ⟨a.m,0,none⟩)] 32 true)).n=h.n+1:=rfl
 have X2:aw (h.n+1) (ai h (.cells [.pointer (some ⟨a.m,0,none⟩)] 32 true)) (ai (ai h (.cells [.pointer (some ⟨a.m,0,none⟩)] 32 true)) (.cells [.int .i64 (p:Int)] 3 true)):=br
 have s2:=s1.ext X2
 have k2:=k1.trans (Kp.ext X2)
 have d2:cellAt (ai (ai h (.cells [.pointer (some ⟨a.m,0,none⟩)] 32 true)) (.cells [.int .i64 (p:Int)] 3 true)) ⟨h.n+1,0,none⟩=some (.int .i64 (p:Int)):=bI
 have d1':=aD X2 (cK _) d1
 have n2:(ai (ai h (.cells [.pointer (some ⟨a.m,0,none⟩)] 32 true)) (.cells [.int .i64 (p:Int)] 3 true)).n=h.n+1+1:=rfl
 have no:¬own a V h.n:=fun o=>dy _ (s.lt _ o)
 obtain⟨aa,ac,ae,a1,a2,a3,_⟩:=s2.all.cut
 have Dn:=s2.Dn
 have sm:=s2.all.c.same
 rw[ae]at Dn sm
 have ww:=mW @n1
 refine wk ?_
 refine P7 s2 ha ah (fun x hx=>q.lt x (bX (kD.2 hx) CM)) (ae▸s2.all.r) hp d1' d2 (fun i hi=>?_) ?_
 ·obtain⟨ib,io,rfl,hib,hc⟩:=rG.at_ (ae▸s2.all.r) hi;have ww:=ww.a (aN @hc @bQ);refine wk ?_;refine dI (ae▸s2.all) s2.lt ah fun v3 h3 r3 x3=>?_;have n3:=x3.n;have d1'':=aD x3 ah d1';refine wk ?_;refine xL (s2.ext x3) r3 fun V4 h4 s4 k4 n4=>?_;refine wk ?_;refine hK [M.all[i]] (M.all.erase M.all[i],M.ps) _ _ _ an ?_ (RI.lit s4.lt) (s4.new _) (k2.trans ((Kp.ext x3).trans (k4.trans .new)));have m0:=Mv.refl q;refine⟨fun z=>?_,m0.len,m0.next,m0.runs⟩;have:=yq M.all M.all[i] z (bG hi);rw[ju];simp only[Pl.dS];omega
 ·refine wk ?_;exact hK [] _ _ _ _ an (Mv.refl q) (RI.nil s2.lt) s2 k2
end Go.Proofs.YthjlppdnlahhoaaGreat
