/- THE PLAIN MACHINE's FUNCTIONS, walked (4). Conditions: none beyond each theorem's own. -/
import Derived.Test.YthjlppdnlahhoaaGreatP3
import Derived.Test.YthjlppdnlahhoaaGreatP2
set_option linter.unusedSimpArgs false
set_option linter.unusedVariables false
namespace Go.Proofs.YthjlppdnlahhoaaGreat
open Go.Ev
open Pl
set_option maxRecDepth 100000
set_option maxHeartbeats 4000000
section
variable {E:Env}{t:TypeId}{K:Value→Prop}{O:Nat→Prop}{h:ak}{l:List Nat}
theorem Cl.to {v:Value}(r:Cl O v) {a':Option Addr}{n' c':Nat}(hc:c'≤bh) (h0:a'=none→c'=0) (hb:∀ x,a'=some x→n'≠0→∃ y n c,v=.slice (some y) n c∧n≠0∧x.block=y.block) (hs:∀ x,a'=some x→x.spot=none):Cl O (.slice a' n' c'):=by obtain⟨a,n,c,rfl,h1,h2,h3,h4⟩:=r;refine⟨a',n',c',rfl,hc,h0,fun j bj=>?_,hs⟩;obtain⟨x,e,rfl,hn⟩:=aU.1 bj;obtain⟨y,n2,c2,e2,hn2,e3⟩:=hb x e hn;rw[e3];exact h3 _ ⟨y,n2,c2,e2,rfl,hn2⟩
theorem RI.Jz {a:Option Addr}{c c' j:Nat}(r:RI O h (.slice a l.length c) l) (hj:j≤l.length) (hc:j≤c') (hu:c'≤bh) (h0:a=none→c'=0):RI O h (.slice a j c') (l.take j):=by
 have hl:(l.take j).length=j:=by rw[fp,jv hj]
 have hsp:∀ x,a=some x→x.spot=none:=by obtain⟨_,_,_,e,_,_,_,h4⟩:=r.c;cases e;exact h4
 refine⟨?_,r.c.to hu h0 (fun x e hn=>⟨x,_,_,by rw[e],ah,rfl⟩) hsp,fun b bj=>?_⟩;·obtain⟨a2,c2,e,hc2,q⟩:=rG.take r.r hj;injection e with e1 e2 e3;subst e1 e3;refine⟨a,c',by rw[hl],ah,fun hne=>?_⟩;obtain⟨_,i,o,h1,h2,h3⟩:=q hne;exact⟨fun e=>by rw[e]at hu;revert hu;decide,i,o,h1,h2,h3⟩
 ·obtain⟨x,e,rfl,hn⟩:=aU.1 bj;exact r.b _ ⟨x,_,_,by rw[e],rfl,ah⟩
theorem E7 {v:Value}{j:Nat}{k k':IntKind}(hs:kq E t=some 1) (r:RI O h v l) (hj:j≤l.length) (q:∀ v',RI O h v' (l.take j)→K v') :
   dW E t v none (some (.int k (j:Int))) (some (.int k' (j:Int))) K:=by
 obtain⟨a,c,rfl,h1,h2,h3,h4⟩:=r.cut
 cases a with
 | some a=>exact jV hs ao h1 hj h3 (q _ (r.Jz hj a_ ah (fun e=>by cases e)))
 | none =>
   have hc:=h2 rfl
   obtain rfl:j=l.length:=ah
   exact js hs ao h1 h2 h3 (q _ (r.Jz hj a_ ah (fun e=>ah)))
theorem BY {v:Value}{j:Nat}{k:IntKind}(hs:kq E t=some 1) (r:RI O h v l) (hj:j≤l.length) (q:∀ v',RI O h v' (l.take j)→K v') :
   dW E t v none (some (.int k (j:Int))) none K:=by
 obtain⟨a,c,rfl,h1,h2,h3,h4⟩:=r.cut
 cases a with
 | some a=>exact Au hs ao h1 hj h3 (q _ (r.Jz hj ah h4 (fun e=>by cases e)))
 | none =>
   have hc:=h2 rfl
   subst hc
   obtain rfl:j=0:=ah
   have hl:l.length=0:=ah
   rw[hl]
   have:=q _ (r.Jz (c':=0) hj a_ ao (fun _=>rfl))
   unfold kq at hs
   split at hs
   · rename_i e hu;have f1:Nat.beq 0 fb=false:=rfl;have f2:Nat.beq 0 bh=false:=rfl;simp only[dW,hX,hu,f1,f2,cond_false,uA (aQ 0),hs,db,cond_true,nH,bu];exact this
   · cases hs
theorem EV {v:Value}{lo:Nat}{k:IntKind}(hs:kq E t=some 1) (r:RI O h v l) (hlo:lo≤l.length) (q:∀ v',rG h.n h v' (l.drop lo)→K v') :
   dW E t v (some (.int k (lo:Int))) none none K:=by
 obtain⟨a,c,rfl,h1,h2,h3,h4⟩:=r.cut
 cases a with
 | some x =>
   have hsp:x.spot=none:=by obtain⟨_,_,_,e,_,_,_,h4⟩:=r.c;cases e;exact h4 x rfl
   obtain⟨b,off,sp⟩:=x
   simp only at hsp
   subst hsp
   refine kV hs ao h1 hlo h3 fun a' c' ha hc' hu'=>q _ ?_
   by_cases hl:lo<l.length
   · obtain rfl:=ha hl;obtain⟨a2,c2,e,_,q2⟩:=r.r;cases e;obtain⟨_,i,o,e,hi,hcs⟩:=q2 (by intro e;rw[e]at hl;simp at hl);cases e;exact rG.drop hi hcs hlo hc' (hu' hl h4)
   · have:l.drop lo=[]:=mE ah;rw[this];exact⟨_,_,by rw[cF,sO ah],an,fun e=>absurd rfl e⟩
 | none =>
   have hc:=h2 rfl
   subst hc
   have hl:l.length=0:=ah
   obtain rfl:lo=0:=ah
   rw[hl]
   have:=q (nS) (by obtain rfl:l=[]:=dq.1 hl;exact⟨_,_,rfl,aQ _,fun e=>absurd rfl e⟩)
   unfold kq at hs
   split at hs
   · rename_i e hu;have f1:Nat.beq 0 fb=false:=rfl;have f2:Nat.beq 0 bh=false:=rfl;simp only[dW,hX,hu,f1,f2,cond_false,qB (aQ 0),hs,db,cond_true,nH,bu];exact this
   · cases hs
end
theorem Th {a:Ad}{V:VD}{h:ak}{M:MD}{p:Nat}{K:Value→ak→Prop}(s:St a V h M) (q:nD M) (hp:p<M.ps.length)
  (hK:∀ l x v V' h',l.length≤1→Mv M x l→RI (own a V') h' v l→St a V' h' (M.q x)→Kp (own a V) (own a V') h h'→K v h'):cy env (.func 83) [mp a,iv p] h K:=by
 have sm:=q.sm
 obtain⟨m1,m2⟩:=DQ q hp
 unfold mp at *
 refine F83 rfl ?_
 refine wk ?_
 obtain⟨r1,r2,r3⟩:=sm.row p hp
 refine Ag s hp r2 r1 sm.all sm.ring sm.nR fun V1 h1 s1 k1=>?_
 have hl1:=m1.len
 have q1:=m1.Sv q
 generalize iT M.cfg.ring M.all M.ps p=x1 at s1 q1 m1 m2 hl1
 have hp1:p<(M.q x1).ps.length:=by show p<x1.2.length;omega
 have hrl:=q1.FI hp1
 have hps8:=q1.Bj
 obtain⟨w,hv,hw,r,c0,_⟩:=s1.Gt hp1
 obtain⟨ra,rc,re,_⟩:=r.ring.cut
 have rr:=r.ring
 rw[re]at c0 rr
 have wm:(min (((M.q x1).ps[p].ring.length:Nat):Int) 1)=((min (M.q x1).ps[p].ring.length 1:Nat):Int):=ah
 generalize hR:(M.q x1).ps[p].ring=R at c0 rr wm hrl
 have ww:=mW (aN @c0 @wm)
 refine wk ?_
 refine E7 jS rr (Nat.min_le_left _ _) fun v2 rv2=>?_
 refine wk ?_
 refine EV jS rr (Nat.min_le_left _ _) fun v3 rv3=>?_
 refine wk ?_
 refine qR rv3 a_ (by simp;omega) s1.lt fun v4 h4 rv4 x4=>?_
 have n4:=x4.n
 refine wk ?_
 refine oe (s1.ext x4) hp1 ah rv4 fun V5 h5 s5 k5 n5=>?_
 refine wk ?_
 refine hK (R.take (min R.length 1)) (x1.1,x1.2.set p { x1.2[p]'(by omega) with ring:=R.drop (min R.length 1) }) _ _ _ (by simp;omega) ?_ ((rv2.kp (Kp.ext x4)).kp k5) s5 (k1.trans ((Kp.ext x4).trans k5))
 refine Mv.set m1 ah rfl ?_ fun z=>?_
 ·simp[m2]
 ·have hR':(x1.2[p]'(by omega)).ring=R:=hR;simp only[hR',m2,pA];rw[← iE (min R.length 1) R,hI];simp only[iE];omega
open Go.Ev
open Pl
set_option maxRecDepth 100000
set_option maxHeartbeats 4000000
theorem w1':IntKind.wrap .i64 1=1:=rfl
theorem Vj {Ring:Nat}{all:List Nat}{ps:List PD}{p g q:Nat}(h:q<(kO Ring all ps p g).2.length) (h':q<ps.length) (hne:q≠p):(kO Ring all ps p g).2[q]=ps[q]:=by
 revert h;generalize hy:kO Ring all ps p g=y;intro h;have st:∀ (w:PD),y.2=ps.set p w→y.2[q]=ps[q]:=fun w e=>by simp only[e,cJ];rw[if_neg (bV hne)]
 by_cases hp:p<ps.length
 ·have e:ps[p]?=some ps[p]:=bw hp;by_cases hr:ps[p].ring.length<Ring;·simp only[kO,e,if_pos hr]at hy;subst hy;exact st { ps[p]with ring:=ps[p].ring++[g] } rfl
  ·simp only[kO,e,if_neg hr]at hy;subst hy;exact st { ps[p]with ring:=ps[p].ring.drop ((Ring+1) / 2) } rfl
 ·have e:ps[p]?=none:=qK ah;simp only[kO,e]at hy;subst hy;rfl
theorem er2 {a b:List Nat}{g:Nat}(h1:0<a.count g+b.count g) (h2:a.count g+b.count g≤1) (z:Nat):(a.erase g).count z+(b.erase g).count z+(if z=g then 1 else 0)=a.count z+b.count z:=by
 rw[lD,lD];by_cases e:z=g;·subst e;rw[if_pos rfl,if_pos rfl,if_pos rfl];omega
 ·rw[if_neg e,if_neg e,if_neg e];omega
theorem IB {M:MD}{x:List Nat×List PD}{l:List Nat}{g v:Nat}(q:nD M) (m:Mv M x l) (hv:v<x.2.length) (hg:0<x.2[v].next.count g+x.2[v].ring.count g) :
  Mv M (x.1,x.2.set v { x.2[v]with ring:=x.2[v].ring.erase g,next:=x.2[v].next.erase g }) (g::l):=by
 have hle:x.2[v].next.count g+x.2[v].ring.count g≤1:=by have h1:=m.dS g;have h2:=q.dS g;have h3:=mH (all:=x.1) (z:=g) hv;omega
 refine m.set hv rfl (bO qS (m.next v hv)) fun z=>?_
 have:=er2 hg hle z
 rw[show g::l=[g]++l from rfl,hI,ju]
 simp only
 omega
theorem Iq {a:Ad}{V:VD}{h:ak}{M:MD}{p v:Nat}{Lx:List Nat}{lv:Value}{fr:Go.Ev.Fr}{K:Value→ak→Prop}(s:St a V h M) (q:nD M) (hp:p<M.ps.length) (hv:v<M.ps.length) (hvp:v≠p)
  (f0:fr.get 0=some (pt a.m 0)) (f1:fr.get 1=some (iv p)) (f7:fr.get 7=some (pt a.p (v*5))) (f8:fr.get 8=some lv) (rl:RI (own a V) h lv Lx) (hL:Lx.length≤100) (hLx:∀ z,Lx.count z≤M.ps[v].next.count z+M.ps[v].ring.count z)
  (hK:∀ l x v V' h',l.length≤1→Mv M x l→RI (own a V') h' v l→St a V' h' (M.q x)→Kp (own a V) (own a V') h h'→K v h'):Eh.wp env 122 none fr h (cW env [ResultVar.tmp 6] K):=by
 have sm:=q.sm
 obtain⟨la,lc,le,_⟩:=rl.cut
 subst le
 have ww:=mW vP
 refine wk ?_
 refine aP (fun m fr' h''=>∃ k:Nat,k≤Lx.length∧m=Lx.length-k∧fr'.get 87=some (iv k)∧∃ x V'',Mv M x ((Lx.take k).take 1)∧(∀ (hv:v<x.2.length) z,(Lx.drop k).count z≤x.2[v].next.count z+x.2[v].ring.count z)∧St a V'' h'' (M.q x)∧Kp (own a V) (own a V'') h h'') Lx.length ?_ ah ?_
 ·exact⟨0,ah,ah,aA,(M.all,M.ps),V,Mv.refl q,fun hv z=>hLx z,s,Kp.refl _ _⟩
 rintro m fr2 h2 ⟨k,hk,rfl,f87,x,V2,m2,hx2,s2,k2⟩ hag
 have g0:fr2.get 0=some (pt a.m 0):=(hag 0 rfl).trans (by simp[T.aj,f0])
 have g1:fr2.get 1=some (iv p):=(hag 1 rfl).trans (by simp[T.aj,f1])
 have g7:fr2.get 7=some (pt a.p (v*5)):=(hag 7 rfl).trans (by simp[T.aj,f7])
 have g8:fr2.get 8=some (.slice la Lx.length lc):=(hag 8 rfl).trans (by simp[T.aj,f8])
 have rl2:=rl.kp k2
 have n2:=k2.n
 by_cases aT:k<Lx.length
 ·obtain⟨i,o,rfl,hi,hcell⟩:=rl2.r.at_ aT;have hv2:v<(M.q x).ps.length:=by show v<x.2.length;rw[m2.len];exact hv
  have hg:=hx2 hv2 Lx[k];have hcd:∀ z,(Lx.drop k).count z=(Lx.drop (k+1)).count z+(if z=Lx[k] then 1 else 0):=fun z=>by rw[kJ aT,show Lx[k]::Lx.drop (k+1)=[Lx[k]]++Lx.drop (k+1) from rfl,hI,ju];omega
  have hg':0<x.2[v].next.count Lx[k]+x.2[v].ring.count Lx[k]:=by have:=hcd Lx[k];rw[if_pos rfl]at this;omega
  have m3:=IB q m2 hv2 hg';have q2:=m2.Sv q;obtain⟨w,_,_,r,c0,c1,_⟩:=s2.Gt hv2;have rr:=r.ring;have rn:=r.next
  have hrl:=q2.FI hv2;have hnl:=q2.next v hv2
  have sr:=r.next.c.same
  have ww:=ww.a (aN (aN @hcell @bQ) (aN @c0 @c1));refine wk ?_;refine dI rr s2.lt ah fun v3 h3 r3 x3=>?_;have n3:=x3.n;have c1':=aD x3 (s2.lt _ pO) c1;have ww:=ww.a @sr;refine wk ?_;refine dI (rn.kp (Kp.ext x3)) (s2.ext x3).lt ah fun v4 h4 r4 x4=>?_;have n4:=x4.n;refine wk ?_;refine oe (s2.ext (x3.trans (x4.mono n3))) hv2 ah (r3.kp (Kp.ext x4)) fun V5 h5 s5 k5 n5=>?_;refine wk ?_;refine oF s5 (by simpa using hv2) ah (r4.kp k5) fun V6 h6 s6 k6 n6=>?_;have K6:=k2.trans ((Kp.ext (x3.trans (x4.mono n3))).trans (k5.trans k6));have s6':St a V6 h6 (M.q (x.1,x.2.set v { x.2[v]with ring:=x.2[v].ring.erase Lx[k],next:=x.2[v].next.erase Lx[k] })):=by refine(congrArg (St a V6 h6) ?_).mp s6;simp only[MD.q,iD,cU];try rfl
  have hcnt:∀ z,(Lx.drop (k+1)).count z≤(x.2[v].next.erase Lx[k]).count z+(x.2[v].ring.erase Lx[k]).count z:=fun z=>by
   have h1:=hx2 hv2 z;have h2:=hcd z;have hle:x.2[v].next.count Lx[k]+x.2[v].ring.count Lx[k]≤1:=by have h1:=m2.dS Lx[k];have h2:=q.dS Lx[k];have h3:=mH (all:=x.1) (z:=Lx[k]) hv2;simp only[MD.q]at h3;omega
   have h3:=er2 hg' hle z;omega
  have q6:=m3.Sv q;have hp6:p<(M.q (x.1,x.2.set v { x.2[v]with ring:=x.2[v].ring.erase Lx[k],next:=x.2[v].next.erase Lx[k] })).ps.length:=by simp only[MD.q,cS];rw[m2.len];exact hp
  by_cases hk0:k=0
  ·subst hk0;refine wk ?_;refine⟨Lx.length-1,ah,1,ah,rfl,by simp[T.aj,w1'],_,V6,?_,?_,s6',K6⟩
   ·have:(Lx.take 1).take 1=[Lx[0]]:=by
     cases Lx with
     | nil=>simp at aT
     | cons g l=>rfl
    rw[this];simpa using m3
   ·intro hv' z;simp only[cU];exact hcnt z
  ·refine wk ?_;refine Dw s6' hp6 (q6.sm.row p hp6).1 q6.sm.all q6.sm.ring q6.sm.nR fun V7 h7 s7 k7=>?_;refine wk ?_;have m7:=m3.row hp;refine⟨Lx.length-(k+1),ah,k+1,ah,rfl,by simp[T.aj,bC (show k≤4611686018427387904 by omega)],_,V7,?_,?_,s7,K6.trans k7⟩
   ·have:(Lx.take (k+1)).take 1=(Lx.take k).take 1:=by rw[List.take_take,List.take_take];congr 1;omega
    rw[this];exact m7
   ·intro hv' z;rw[Vj hv' (by show v<(x.2.set _ _).length;rw[cS];exact hv2) hvp];simp only[MD.q,cU];exact hcnt z
 ·obtain rfl:k=Lx.length:=ah;rw[iF]at m2;have wm:(min ((Lx.length:Nat):Int) 1)=((min Lx.length 1:Nat):Int):=ah;have ww:=ww.a @wm;refine wk ?_;refine BY jS rl2 (Nat.min_le_left _ _) fun v3 r3=>?_;refine wk ?_;refine hK (Lx.take (min Lx.length 1)) x _ _ _ (by simp;omega) ?_ r3 s2 k2;have:Lx.take (min Lx.length 1)=Lx.take 1:=by
   cases Lx with
   | nil=>rfl
   | cons g l=>simp[Nat.min_eq_right (Nat.succ_le_succ (eX l.length))]
  rw[this];exact m2
theorem LG {a:Ad}{V:VD}{h:ak}{M:MD}{p:Nat}{iw:Int}{K:Value→ak→Prop}(s:St a V h M) (q:nD M) (ha:v_ M) (hp:p<M.ps.length)
   (hK:∀ l x v V' h',l.length≤1→Mv M x l→RI (own a V') h' v l→St a V' h' (M.q x)→Kp (own a V) (own a V') h h'→K v h'):cy env (.func 85) [mp a,iv p,iv iw] h K:=by
 have sm:=q.sm
 have Bj:=q.Bj
 unfold mp at *
 refine F85 rfl ?_
 by_cases hv0:0≤iw∧iw<(M.ps.length:Int)∧iw≠(p:Int)
 · obtain⟨v,rfl⟩:∃ v:Nat,iw=(v:Int):=⟨iw.toNat,ah⟩;have hv:v<M.ps.length:=ah;have hvp:v≠p:=ah;obtain⟨w,_,_,r,c0,c1,_⟩:=s.Gt hv;obtain⟨ra,rc,re,_⟩:=r.ring.cut;obtain⟨na,nc,ne,_⟩:=r.next.cut
   have rr:=r.ring;have rn:=r.next
   have hrl:=q.FI hv;have hnl:=q.next v hv
   rw[re]at c0 rr;rw[ne]at c1 rn;have ww:=mW @c0;refine wk ?_;refine aP (fun m fr' h''=>∃ k:Nat,k≤M.ps[v].ring.length∧m=M.ps[v].ring.length-k∧aw h.n h h''∧fr'.get 40=some (iv k)∧∃ (L:List Nat) (lv:Value),L.length≤k∧(∀ z,L.count z≤(M.ps[v].ring.take k).count z)∧fr'.get 8=some lv∧bT h.n h'' 3 lv L.length (L.map bZ)) M.ps[v].ring.length ?_ ah ?_;· exact⟨0,ah,ah,aw.refl _ _,aA,[],nS,an,an,aA,bT.nil⟩
   rintro m fr2 h2 ⟨k,hk,rfl,X2,f40,L,lv,hL,hc,f8,oL⟩ hag;have g0:fr2.get 0=some (pt a.m 0):=(hag 0 rfl).trans (by simp[T.aj,bY]);have g1:fr2.get 1=some (iv p):=(hag 1 rfl).trans (by simp[T.aj,bY]);have g7:fr2.get 7=some (pt a.p (v*5)):=(hag 7 rfl).trans (by simp[T.aj,Addr.add_lit]);have n2:=X2.n;by_cases aT:k<M.ps[v].ring.length
   · have htk:M.ps[v].ring.take (k+1)=M.ps[v].ring.take k++[M.ps[v].ring[k]]:=kx aT;have hgl:M.ps[v].ring[k]<M.gs.length:=q.lt _ (by have:=mH (all:=M.all) (z:=M.ps[v].ring[k]) hv;have:=kD.2 (bG aT);omega);obtain⟨i,o,rfl,hi,hcell⟩:=(rr.r.ext X2).at_ aT;have ww:=ww.a (aN @hcell @bQ);refine wk ?_;refine Db (s.ext X2) ha hgl ah fun b=>?_;cases b with
     | true =>
       refine wk ?_;refine yv (new:=[bZ M.ps[v].ring[k]]) oL n2 an ah rfl rfl ao rfl fun v3 h3 o3 x3=>?_;have n3:=x3.n;refine wk ?_;refine⟨M.ps[v].ring.length-(k+1),ah,k+1,ah,rfl,X2.trans x3,by simp[T.aj,bC (show k≤4611686018427387904 by omega)],L++[M.ps[v].ring[k]],v3,by simp;omega,fun z=>?_,aA,?_⟩;· rw[htk,hI,hI];have:=hc z;omega
       · rw[fo,dA];exact o3
     | false =>refine wk ?_;refine⟨M.ps[v].ring.length-(k+1),ah,k+1,ah,rfl,X2,by simp[T.aj,bC (show k≤4611686018427387904 by omega)],L,lv,ah,fun z=>?_,by simp[T.aj,f8],oL⟩;rw[htk,hI];have:=hc z;omega
   · obtain rfl:k=M.ps[v].ring.length:=ah;rw[iF]at hc;have s2:=s.ext X2;have rL:RI (own a V) h2 lv L:=RI.iS oL s.lt ah;have w1:IntKind.wrap .i64 ((L.length:Int)+1)=((L.length+1:Nat):Int):=bC ah;have w2:IntKind.wrap .i64 (((L.length+1:Nat):Int).tdiv 2)=(((L.length+1) / 2:Nat):Int):=by rw[show (2:Int)=((2:Nat):Int) from rfl,← Int.ofNat_tdiv];exact wrap_i64 ah ah
     obtain⟨la,lc,rfl,_⟩:=rL.cut;have ww:=ww.a (aN @w1 @w2);refine wk ?_;refine BY jS rL ah fun v3 r3=>?_;have hT:(L.take ((L.length+1) / 2)).length≤100:=by simp;omega
     have hTc:∀ z,(L.take ((L.length+1) / 2)).count z≤M.ps[v].next.count z+M.ps[v].ring.count z:=fun z=>by have h1:=hc z;have h2:(L.take ((L.length+1) / 2)).count z≤L.count z:=(List.take_sublist _ _).count_le z;omega
     generalize L.take ((L.length+1) / 2)=Lt at r3 hT hTc;obtain⟨ta,tc,rfl,_⟩:=r3.cut;have c1':=aD X2 (s.lt _ pO) c1;have tail:∀ fr lv' Lx,fr.get 0=some (pt a.m 0)→fr.get 1=some (iv p)→fr.get 7=some (pt a.p (v*5))→fr.get 8=some lv'→RI (own a V) h2 lv' Lx→Lx.length≤100→(∀ z,Lx.count z≤M.ps[v].next.count z+M.ps[v].ring.count z)→Eh.wp env 122 none fr h2 (cW env [ResultVar.tmp 6] K) :=
       fun fr lv' Lx h0 h1 h7 h8 hr hl hcc=>Iq s2 q hp hv hvp h0 h1 h7 h8 hr hl hcc fun l x v V' h' a1 a2 a3 a4 a5=>hK l x v V' h' a1 a2 a3 a4 ((Kp.ext X2).trans a5)
     by_cases hT0:Lt.length=0
     · rw[hT0]at r3 ⊢;cases hnx:M.ps[v].next with
       | nil =>rw[hnx]at c1' rn;have ww:=ww.a @cF.{0};refine wk ?_;exact tail _ _ Lt (by simp[T.aj,g0]) (by simp[T.aj,g1]) (by simp[T.aj,g7]) aA r3 hT hTc
       | cons gg ll =>
         rw[hnx]at c1' rn hnl;obtain⟨i,o,rfl,hi,hcell⟩:=(rn.r.ext X2).at_ (k:=0) an;simp only[hJ,cj]at hcell;have hgl:gg<M.gs.length:=q.lt _ (by have:=mH (all:=M.all) (z:=gg) hv;rw[hnx]at this;simp only[List.count_cons_self]at this;omega);have ww:=ww.a (aN (aN @hcell @dO) @dn.{0});refine wk ?_;refine Db s2 ha hgl ah fun b=>?_;cases b with
         | true =>
           refine wk ?_
           refine tail _ _ (gg::ll) (by simp[T.aj,g0]) (by simp[T.aj,g1]) (by simp[T.aj,g7]) aA (rn.kp (Kp.ext X2)) ah fun z=>?_
           rw[← hnx];omega
         | false =>
           refine wk ?_
           exact tail _ _ Lt (by simp[T.aj,g0]) (by simp[T.aj,g1]) (by simp[T.aj,g7]) aA r3 hT hTc
     · refine wk ?_;exact tail _ _ Lt (by simp[T.aj,g0]) (by simp[T.aj,g1]) (by simp[T.aj,g7]) aA r3 hT hTc
 · have fin:K (nS) h:=hK [] _ _ _ _ an (Mv.refl q) (RI.nil s.lt) s (Kp.refl _ _);by_cases h1:iw<0;· have ww:=mW vP;refine wk ?_;exact fin
   · by_cases h2:iw<(M.ps.length:Int);· obtain rfl:iw=(p:Int):=ah;have ww:=mW vP;refine wk ?_;exact fin
     · have ww:=mW vP;refine wk ?_;exact fin
theorem fz {O O':Nat→Prop}{h h':ak}{j off n:Nat}{l:List Value}(k:Kp O O' h h') (hj:j<h.n) (ho:¬O j) (c:av h (ad j off) n=some l):av h' (ad j off) n=some l:=lL k.n (k.get j hj ho) c
theorem An {a:Ad}{V:VD}{h:ak}{M:MD}{p b:Nat}{iw:Int}{fr:Go.Ev.Fr}{K:Value→ak→Prop}(s:St a V h M) (q:nD M) (ha:v_ M) (hp:p<M.ps.length) (hb:b<h.n) (hbo:¬own a V b)
  (f0:fr.get 0=some (pt a.m 0)) (f1:fr.get 1=some (iv p)) (f2:fr.get 2=some (iv iw)) (f10:fr.get 10=some (.slice (some ⟨b,0,none⟩) 3 3))
  (dd:∀ k,k<3→∃ c:Nat,cellAt h (ad b k)=some (iv c))
  (hK:∀ l x v (how:Int) V' h',l.length≤1→Mv M x l→RI (own a V') h' v l→St a V' h' (M.q x)→Kp (own a V) (own a V') h h'→K (.tuple #[v,iv how]) h'):HU.wp env 53 none fr h (cW env [ResultVar.tmp 8,ResultVar.tmp 9] K):=by
 have Bj:=q.Bj
 have ww:=mW Pj
 refine wk ?_
 refine aP (fun m fr' h''=>∃ k:Nat,k≤3∧m=3-k∧fr'.get 28=some (iv k)∧∃ x V'',Mv M x []∧St a V'' h'' (M.q x)∧Kp (own a V) (own a V'') h h'') 3 ?_ ah ?_
 ·exact⟨0,ah,ah,aA,(M.all,M.ps),V,Mv.refl q,s,Kp.refl _ _⟩
 rintro m fr2 h2 ⟨k,hk,rfl,f28,x,V2,m2,s2,k2⟩ hag
 have g0:fr2.get 0=some (pt a.m 0):=(hag 0 rfl).trans (by simp[T.aj,f0])
 have g1:fr2.get 1=some (iv p):=(hag 1 rfl).trans (by simp[T.aj,f1])
 have g2:fr2.get 2=some (iv iw):=(hag 2 rfl).trans (by simp[T.aj,f2])
 have n2:=k2.n
 have q2:=m2.Sv q
 have hp2:p<(M.q x).ps.length:=by show p<x.2.length;rw[m2.len];exact hp
 by_cases aT:k<3
 ·obtain⟨c,hc⟩:=dd k aT;have hc2:=j7 k2 hb hbo hc;have fin:∀ l x' v V' h',l.length≤1→Mv (M.q x) x' l→RI (own a V') h' v l→St a V' h' ((M.q x).q x')→Kp (own a V2) (own a V') h2 h'→∀ how:Int,K (.tuple #[v,iv how]) h':=fun l x' v V' h' h1 h3 h4 h5 h6 how =>
   hK l x' v how V' h' h1 (m2.trans h3) h4 h5 (k2.trans h6)
  by_cases h2c:c=2
  ·subst h2c;have ww:=ww.a @bQ;refine wk ?_;refine Th s2 q2 hp2 fun l x' v V3 h3 hl m3 r3 s3 k3=>?_;obtain⟨va,vc,rfl,_⟩:=r3.cut;have F:=fin _ _ _ _ _ hl m3 r3 s3 k3;by_cases hl0:0<l.length;·refine wk ?_;exact F _
   ·obtain rfl:l=[]:=dq.1 ah;have ww:=ww.a @cF.{0};refine wk ?_;exact⟨3-(k+1),ah,k+1,ah,rfl,by simp[T.aj,bC (show k≤4611686018427387904 by omega)],x',V3,m2.trans m3,s3,k2.trans k3⟩
  ·by_cases h3c:c=3
   ·subst h3c;have ww:=ww.a @bQ;refine wk ?_;refine IF s2 q2 ha ah fun l x' v V3 h3 hl m3 r3 s3 k3=>?_;obtain⟨va,vc,rfl,_⟩:=r3.cut;have F:=fin _ _ _ _ _ hl m3 r3 s3 k3;by_cases hl0:0<l.length;·refine wk ?_;exact F _
    ·obtain rfl:l=[]:=dq.1 ah;have ww:=ww.a @cF.{0};refine wk ?_;exact⟨3-(k+1),ah,k+1,ah,rfl,by simp[T.aj,bC (show k≤4611686018427387904 by omega)],x',V3,m2.trans m3,s3,k2.trans k3⟩
   ·have ww:=ww.a @bQ;refine wk ?_;refine LG s2 q2 ha hp2 fun l x' v V3 h3 hl m3 r3 s3 k3=>?_;obtain⟨va,vc,rfl,_⟩:=r3.cut;have F:=fin _ _ _ _ _ hl m3 r3 s3 k3;by_cases hl0:0<l.length;·refine wk ?_;exact F _
    ·obtain rfl:l=[]:=dq.1 ah;have ww:=ww.a @cF.{0};refine wk ?_;exact⟨3-(k+1),ah,k+1,ah,rfl,by simp[T.aj,bC (show k≤4611686018427387904 by omega)],x',V3,m2.trans m3,s3,k2.trans k3⟩
 ·refine wk ?_;exact hK [] x _ _ V2 h2 an m2 (RI.nil s2.lt) s2 k2
theorem La {a:Ad}{V:VD}{h:ak}{M:MD}{p:Nat}{iw:Int}{gl:Bool}{K:Value→ak→Prop}(s:St a V h M) (q:nD M) (ha:v_ M) (hp:p<M.ps.length)
   (hK:∀ l x v (how:Int) V' h',l.length≤1→Mv M x l→RI (own a V') h' v l→St a V' h' (M.q x)→Kp (own a V) (own a V') h h'→K (.tuple #[v,iv how]) h'):cy env (.func 45) [mp a,iv p,iv iw,.bool gl] h K:=by
 unfold mp at *
 refine F45 rfl ?_
 have no:¬own a V h.n:=fun o=>dy _ (s.lt _ o)
 cases gl with
 | true =>
   refine wk ?_
   refine lN (l:=[iv 2,iv 3,iv 4]) rfl ?_
   have ww:=mW (aN (aN @Int.toNat_one @fk) @bQ)
   refine wk ?_
   refine Jy (cs':=[iv 3,iv 3,iv 4]) rfl rfl ?_
   refine wk ?_
   refine Jy (off:=1) (cs':=[iv 3,iv 2,iv 4]) rfl rfl ?_
   refine wk ?_
   refine An (iw:=iw) (s.new _) q ha hp (cK _) no (by simp[T.aj,bY]) (by simp[T.aj,bY]) (by simp[T.aj,bY]) aA (fun k hk=>?_) fun l x v how V' h' h1 h2 h3 h4 h5=>hK l x v how V' h' h1 h2 h3 h4 (Kp.new.trans h5)
   rw[bI]
   match k,hk with
   | 0,_=>exact⟨3,rfl⟩
   | 1,_=>exact⟨2,rfl⟩
   | 2,_=>exact⟨4,rfl⟩
 | false =>
   refine wk ?_
   refine lN (l:=[iv 2,iv 3,iv 4]) rfl ?_
   refine wk ?_
   refine An (iw:=iw) (s.new _) q ha hp (cK _) no (by simp[T.aj,bY]) (by simp[T.aj,bY]) (by simp[T.aj,bY]) aA (fun k hk=>?_) fun l x v how V' h' h1 h2 h3 h4 h5=>hK l x v how V' h' h1 h2 h3 h4 (Kp.new.trans h5)
   rw[bI]
   match k,hk with
   | 0,_=>exact⟨2,rfl⟩
   | 1,_=>exact⟨3,rfl⟩
   | 2,_=>exact⟨4,rfl⟩
def aB {α:Type}(l:List (Ob α)) (r:RR):Option Nat:=if 0≤r.i then (match l[r.i.toNat]? with
 | some o=>if o.is=true∧(o.gen:Int)=r.g then some r.i.toNat else none
 | none=>none) else none
theorem aH {α:Type}{l:List (Ob α)}{r:RR}{k:Nat}:aB l r=some k↔∃ hk:k<l.length,r.i=(k:Int)∧l[k].is=true∧(l[k].gen:Int)=r.g:=by
 unfold aB;constructor
 ·intro h;split at h
  ·rename_i h0;split at h
   ·rename_i o ho;split at h;·rename_i h2;obtain rfl:=gY h;obtain⟨hk,rfl⟩:=cQ.1 ho;exact⟨hk,ah,h2⟩
    ·cases h
   ·cases h
  ·cases h
 ·rintro⟨hk,e,h1,h2⟩;have e':r.i.toNat=k:=ah;rw[if_pos ah,e',bw hk];simp only;rw[if_pos ⟨h1,h2⟩]
def fC (b sz:Nat) (o:Option Nat):Value:=match o with
 | some k=>.pointer (some ⟨b,k*sz+2,none⟩)
 | none=>.pointer none
theorem tQ {a:Ad}{V:VD}{h:ak}{M:MD}{r:RR}{K:Value→ak→Prop}(s:St a V h M) (hl:M.gs.length≤1000)
   (hK:∀ h',aw h.n h h'→K (fC a.g 21 (aB M.gs r)) h'):cy env (.func 46) [pt a.m 17,.agg ⟨r.cells⟩] h K:=by
 refine F46 rfl ?_
 obtain⟨ri,rg⟩:=r
 simp only[RR.cells]
 have X1:aw h.n h (ai h (.cells [iv ri,uv rg] 38 true)):=br
 have s1:=s.ext X1
 by_cases h0:ri<0
 · have e:aB M.gs ⟨ri,rg⟩=none:=by unfold aB;rw[if_neg (by simp only;omega)]
   rw[e]at hK;refine wk ?_;exact hK _ X1
 by_cases h1:(M.gs.length:Int)≤ri
 · have e:aB M.gs ⟨ri,rg⟩=none:=by unfold aB;rw[if_pos (by simp only;omega),qK (by simp only;omega)]
   rw[e]at hK;refine wk ?_;exact hK _ X1
 obtain⟨k,rfl⟩:∃ k:Nat,ri=(k:Int):=⟨ri.toNat,ah⟩
 have hk:k<M.gs.length:=ah
 have g0:=s1.gC hk 0 ao
 have g1:=s1.gC hk 1 ao
 simp only[Ob.cells,cu,cR]at g0 g1
 rw[cj]at g0
 cases his:M.gs[k].is with
 | false =>
   have e:aB M.gs ⟨(k:Int),rg⟩=none:=by
     cases hl:aB M.gs ⟨(k:Int),rg⟩ with
     | none=>rfl
     | some j =>
       obtain⟨hj,e1,e2,_⟩:=aH.1 hl
       obtain rfl:j=k:=by simp only at e1;omega
       rw[his]at e2;cases e2
   rw[e]at hK
   rw[his]at g1
   refine wk ?_
   exact hK _ X1
 | true =>
   rw[his]at g1
   by_cases hg:(M.gs[k].gen:Int)=rg
   · have e:aB M.gs ⟨(k:Int),rg⟩=some k:=aH.2 ⟨hk,rfl,his,hg⟩;rw[e]at hK;rw[hg]at g0;refine wk ?_;exact hK _ X1
   · have e:aB M.gs ⟨(k:Int),rg⟩=none:=by
       cases hl:aB M.gs ⟨(k:Int),rg⟩ with
       | none=>rfl
       | some j =>
         obtain⟨hj,e1,_,e2⟩:=aH.1 hl
         obtain rfl:j=k:=by simp only at e1;omega
         exact absurd e2 hg
     rw[e]at hK;refine wk ?_;exact hK _ X1
theorem pS {a:Ad}{V:VD}{h:ak}{M:MD}{k:Nat}{K:Value→ak→Prop}(s:St a V h M) (hk:k<M.gs.length)
  (hK:∀ h',aw h.n h h'→K (.agg ⟨[iv k,uv M.gs[k].gen]⟩) h'):cy env (.func 29) [pt a.m 17,iv k] h K:=by
 refine F29 rfl ?_
 have s1:=s.new (.cells [iv 0,uv 0] 38 true)
 have g0:=s1.gC hk 0 ao
 have g1:=s1.gC hk 1 ao
 simp only[Ob.cells,cu,cR]at g0 g1
 rw[cj]at g0
 refine wk ?_
 exact hK _ br
theorem j_ {a:Ad}{V:VD}{h:ak}{M:MD}{r:RR}{K:Value→ak→Prop}(s:St a V h M) (hl:M.cl.length≤1000)
   (hK:∀ h',aw h.n h h'→K (fC a.c 6 (aB M.cl r)) h'):cy env (.func 74) [pt a.m 19,.agg ⟨r.cells⟩] h K:=by
 refine F74 rfl ?_
 obtain⟨ri,rg⟩:=r
 simp only[RR.cells]
 have X1:aw h.n h (ai h (.cells [iv ri,uv rg] 38 true)):=br
 have s1:=s.ext X1
 by_cases h0:ri<0
 · have e:aB M.cl ⟨ri,rg⟩=none:=by unfold aB;rw[if_neg (by simp only;omega)]
   rw[e]at hK;refine wk ?_;exact hK _ X1
 by_cases h1:(M.cl.length:Int)≤ri
 · have e:aB M.cl ⟨ri,rg⟩=none:=by unfold aB;rw[if_pos (by simp only;omega),qK (by simp only;omega)]
   rw[e]at hK;refine wk ?_;exact hK _ X1
 obtain⟨k,rfl⟩:∃ k:Nat,ri=(k:Int):=⟨ri.toNat,ah⟩
 have hk:k<M.cl.length:=ah
 obtain⟨w,_,_,cr,gc,_⟩:=s1.Bi hk
 have g0:=gc 0 ao
 have g1:=gc 1 ao
 simp only[Ob.cells,cu,cR,cr.gen,cr.is]at g0 g1
 rw[cj]at g0
 cases his:M.cl[k].is with
 | false =>
   have e:aB M.cl ⟨(k:Int),rg⟩=none:=by
     cases hl:aB M.cl ⟨(k:Int),rg⟩ with
     | none=>rfl
     | some j =>
       obtain⟨hj,e1,e2,_⟩:=aH.1 hl
       obtain rfl:j=k:=by simp only at e1;omega
       rw[his]at e2;cases e2
   rw[e]at hK
   rw[his]at g1
   have ww:=mW (aN @g0 @g1)
   refine wk ?_
   exact hK _ X1
 | true =>
   rw[his]at g1
   by_cases hg:(M.cl[k].gen:Int)=rg
   · have e:aB M.cl ⟨(k:Int),rg⟩=some k:=aH.2 ⟨hk,rfl,his,hg⟩;rw[e]at hK;rw[hg]at g0;have ww:=mW (aN @g0 @g1);refine wk ?_;exact hK _ X1
   · have e:aB M.cl ⟨(k:Int),rg⟩=none:=by
       cases hl:aB M.cl ⟨(k:Int),rg⟩ with
       | none=>rfl
       | some j =>
         obtain⟨hj,e1,_,e2⟩:=aH.1 hl
         obtain rfl:j=k:=by simp only at e1;omega
         exact absurd e2 hg
     rw[e]at hK;have ww:=mW (aN @g0 @g1);refine wk ?_;exact hK _ X1
theorem Fi {a:Ad}{V:VD}{h:ak}{M:MD}{k:Nat}{K:Value→ak→Prop}(s:St a V h M) (hk:k<M.cl.length)
  (hK:∀ h',aw h.n h h'→K (.agg ⟨[iv k,uv M.cl[k].gen]⟩) h'):cy env (.func 38) [pt a.m 19,iv k] h K:=by
 refine F38 rfl ?_
 have s1:=s.new (.cells [iv 0,uv 0] 38 true)
 obtain⟨w,_,_,cr,gc,_⟩:=s1.Bi hk
 have g0:=gc 0 ao
 have g1:=gc 1 ao
 simp only[Ob.cells,cu,cR,cr.gen,cr.is]at g0 g1
 rw[cj]at g0
 have ww:=mW @g0
 refine wk ?_
 exact hK _ br
theorem oA {a:Ad}{V:VD}{h:ak}{M:MD}{r:RR}{K:Value→ak→Prop}(s:St a V h M) (hl:M.sh.length≤1000)
   (hK:∀ h',aw h.n h h'→K (fC a.s 9 (aB M.sh r)) h'):cy env (.func 72) [pt a.m 21,.agg ⟨r.cells⟩] h K:=by
 refine F72 rfl ?_
 obtain⟨ri,rg⟩:=r
 simp only[RR.cells]
 have X1:aw h.n h (ai h (.cells [iv ri,uv rg] 38 true)):=br
 have s1:=s.ext X1
 by_cases h0:ri<0
 · have e:aB M.sh ⟨ri,rg⟩=none:=by unfold aB;rw[if_neg (by simp only;omega)]
   rw[e]at hK;refine wk ?_;exact hK _ X1
 by_cases h1:(M.sh.length:Int)≤ri
 · have e:aB M.sh ⟨ri,rg⟩=none:=by unfold aB;rw[if_pos (by simp only;omega),qK (by simp only;omega)]
   rw[e]at hK;refine wk ?_;exact hK _ X1
 obtain⟨k,rfl⟩:∃ k:Nat,ri=(k:Int):=⟨ri.toNat,ah⟩
 have hk:k<M.sh.length:=ah
 have g0:=s1.sC hk 0 ao
 have g1:=s1.sC hk 1 ao
 simp only[Ob.cells,cu,cR]at g0 g1
 rw[cj]at g0
 cases his:M.sh[k].is with
 | false =>
   have e:aB M.sh ⟨(k:Int),rg⟩=none:=by
     cases hl:aB M.sh ⟨(k:Int),rg⟩ with
     | none=>rfl
     | some j =>
       obtain⟨hj,e1,e2,_⟩:=aH.1 hl
       obtain rfl:j=k:=by simp only at e1;omega
       rw[his]at e2;cases e2
   rw[e]at hK
   rw[his]at g1
   refine wk ?_
   exact hK _ X1
 | true =>
   rw[his]at g1
   by_cases hg:(M.sh[k].gen:Int)=rg
   · have e:aB M.sh ⟨(k:Int),rg⟩=some k:=aH.2 ⟨hk,rfl,his,hg⟩;rw[e]at hK;rw[hg]at g0;refine wk ?_;exact hK _ X1
   · have e:aB M.sh ⟨(k:Int),rg⟩=none:=by
       cases hl:aB M.sh ⟨(k:Int),rg⟩ with
       | none=>rfl
       | some j =>
         obtain⟨hj,e1,_,e2⟩:=aH.1 hl
         obtain rfl:j=k:=by simp only at e1;omega
         exact absurd e2 hg
     rw[e]at hK;refine wk ?_;exact hK _ X1
theorem vz {a:Ad}{V:VD}{h:ak}{M:MD}{k:Nat}{K:Value→ak→Prop}(s:St a V h M) (hk:k<M.sh.length)
  (hK:∀ h',aw h.n h h'→K (.agg ⟨[iv k,uv M.sh[k].gen]⟩) h'):cy env (.func 37) [pt a.m 21,iv k] h K:=by
 refine F37 rfl ?_
 have s1:=s.new (.cells [iv 0,uv 0] 38 true)
 have g0:=s1.sC hk 0 ao
 have g1:=s1.sC hk 1 ao
 simp only[Ob.cells,cu,cR]at g0 g1
 rw[cj]at g0
 refine wk ?_
 exact hK _ br
def xq (E:Env) (t:TypeId):Bool:=match b_ E t with
 | some (.pointer _)=>true
 | _=>false
theorem xf {E:Env}{t:TypeId}{c:Bool}{a:Addr}{K:Value→Prop}(ht:xq E t=true):cH E .neq t c (.pointer (some a)) (.pointer none) K=K (.bool true):=by
 unfold xq at ht;split at ht
 ·rename_i e hu;have:eS E .neq t (.pointer (some a)) (.pointer none)=some (.bool true):=by simp[eS,gw,nP,hu]
  simp only[cH,this,bu]
 ·cases ht
theorem wZ {E:Env}{t:TypeId}{c:Bool}{K:Value→Prop}(ht:xq E t=true):cH E .neq t c (.pointer none) (.pointer none) K=K (.bool false):=by
 unfold xq at ht;split at ht
 ·rename_i e hu;have:eS E .neq t (.pointer none) (.pointer none)=some (.bool false):=by simp[eS,gw,nP,hu]
  simp only[cH,this,bu]
 ·cases ht
theorem yF:∀ {c:Bool}{a:Addr}{K:Value→Prop},cH env .neq 192 c (.pointer (some a)) (.pointer none) K=K (.bool true):=xf c_
theorem yC:∀ {c:Bool}{K:Value→Prop},cH env .neq 192 c (.pointer none) (.pointer none) K=K (.bool false):=wZ c_
theorem yI:∀ {c:Bool}{a:Addr}{K:Value→Prop},cH env .neq 141 c (.pointer (some a)) (.pointer none) K=K (.bool true):=xf c_
theorem yP:∀ {c:Bool}{K:Value→Prop},cH env .neq 141 c (.pointer none) (.pointer none) K=K (.bool false):=wZ c_
theorem JS:∀ {c:Bool}{a:Addr}{K:Value→Prop},cH env .neq 196 c (.pointer (some a)) (.pointer none) K=K (.bool true):=xf c_
theorem Kg:∀ {c:Bool}{K:Value→Prop},cH env .neq 196 c (.pointer none) (.pointer none) K=K (.bool false):=wZ c_
theorem Rp {B n i:Nat}{h:ak}{e:TypeId}{v:Value}{cs:List Value}{k:iY}(o:bT B h e v n cs) (hi:i<B):bT B { h with b:=h.b.set i k } e v n cs:=by
 cases o with
 | nil=>exact .nil
 | emp j hj=>exact .emp j hj
 | row j n cs h1 h2 h3=>exact .row j _ _ h1 h2 ((T.aR _ _ ah).trans h3)
inductive tP (sh:List (Ob SD)):RR→List RR→Prop
 | nil {r:RR}(h:aB sh r=none):tP sh r []
 | cons {r:RR}{k:Nat}{l:List RR}(h:aB sh r=some k) (hk:k<sh.length) (c:tP sh sh[k].x.par l):tP sh r (r::l)
theorem tP.live {sh:List (Ob SD)}{r:RR}{l:List RR}(c:tP sh r l):∀ x∈l,∃ k,aB sh x=some k:=by
 induction c with
 | nil=>intro x hx;cases hx
 | cons h hk _ ih =>
   intro x hx
   rcases cM.1 hx with rfl|hx
   · exact⟨_,h⟩
   · exact ih x hx
theorem RR.len (l:List RR):((l.map RR.cells).flatten).length=l.length*2:=by rw[gU (sz:=2) _ (by simp[RR.cells])];simp
theorem RS.iS {O:Nat→Prop}{N sz:Nat}{h:ak}{e:TypeId}{v:Value}{rows:List (List Value)}(o:bT N h e v rows.length rows.flatten) (hs:∀ r∈rows,r.length=sz) (hO:∀ j,O j→j<N) (hn:rows.length≤100000) (he:e≠46:=by decide):RS O sz h v rows:=by obtain⟨a,c,e',r⟩:=bT.rowAt o hs rfl;exact⟨⟨a,c,e',Fa o e' (by unfold bh;omega),r⟩,(tJ o hO he).1,(tJ o hO he).2⟩
theorem St.sP {a:Ad}{V:VD}{h:ak}{M:MD}(s:St a V h M) {k:Nat}(hk:k<M.sh.length):av h (ad a.s (k*9+2)) 2=some [iv M.sh[k].x.par.i,uv M.sh[k].x.par.g]:=by obtain⟨t,hb⟩:=s.sh;exact dC (j:=2) (n:=2) hb (s.lt _ um) (ja (n:=7) fun _=>rfl) hk ao
theorem xp {a:Ad}{V:VD}{h:ak}{M:MD}{r:RR}{l:List RR}{K:Value→ak→Prop}(s:St a V h M) (hs:M.sh.length≤1000) (c:tP M.sh r l) (hl:l.length≤5000)
   (hK:∀ v h',aw h.n h h'→bT (h.n+1) h' 38 v l.length (l.map RR.cells).flatten→K v h'):cy env (.func 76) [mp a,.agg ⟨r.cells⟩] h K:=by
 unfold mp
 refine F76 rfl ?_
 have X1:aw h.n h (ai h (.cells r.cells 38 true)):=br
 have g1:(ai h (.cells r.cells 38 true)).b.get h.n=some (.cells r.cells 38 true):=az _ _
 have n1:(ai h (.cells r.cells 38 true)).n=h.n+1:=rfl
 have d1:av (ai h (.cells r.cells 38 true)) ⟨h.n,0,none⟩ 2=some r.cells:=aV rfl
 have s1:=s.ext X1
 refine wk ?_
 generalize ai h (.cells r.cells 38 true)=h1 at X1 g1 n1 d1 s1 ⊢
 refine wk ?_
 refine oA s1 hs fun h2 x2=>?_
 have n2:=x2.n
 refine wk ?_
 refine aP (fun m fr' h''=>∃ (k:Nat) (rk:RR) (v:Value),k≤l.length∧m=l.length-k∧fr'.get 5=some (fC a.s 9 (aB M.sh rk))∧fr'.get 4=some v∧bT (h.n+1) h'' 38 v k ((l.take k).map RR.cells).flatten∧h''.b.get h.n=some (.cells rk.cells 38 true)∧tP M.sh rk (l.drop k)∧aw h.n h h''∧h.n<h''.n) l.length ?_ ah ?_
 · exact⟨0,r,nS,ah,ah,aA,aA,by simpa using bT.nil,x2.cY g1,c,X1.jI x2,ah⟩
 rintro m fr3 h3 ⟨k,rk,v,hk,rfl,f5,f4,o3,g3,c3,X3,n3⟩ hag
 have e5:=bf f5
 have e4:=bf f4
 have b0:=jP (hag 0 rfl)
 have b3:=jP (hag 3 rfl)
 have s3:=s.ext X3
 have d3:av h3 (ad h.n 0) 2=some rk.cells:=aq n3 g3 rfl rfl
 generalize hld:l.drop k=ld at c3
 cases c3 with
 | nil hno =>
   have hkl:k=l.length:=by have:=congrArg List.length hld;simp at this;omega
   subst hkl
   rw[hno,fC]at e5
   (repeat' (first|(with_reducible show gV _ (rg _ _) _ _ _;first|with_reducible refine Ef ?_)|(with_reducible show lW _ _ _;first|with_reducible refine CJ ?_|with_reducible refine CS ?_|with_reducible refine wN (fun _=>?_) (fun _=>?_))|(with_reducible show _∧_;first|with_reducible refine CU ?_|with_reducible refine CN ?_|with_reducible refine Ea ?_)|(with_reducible show jQ _ _ _ _ _;first|with_reducible refine C1 ?_)|(with_reducible show vX _ _ _ _ _ _ _;first|with_reducible refine C9 ?_)|(with_reducible show yb _ _ _ _;first|with_reducible refine Du ?_)|(with_reducible show lU _ _ _ _;first|with_reducible refine C0 ?_)|(with_reducible show eR _ _ _;first|with_reducible refine Dd ?_|with_reducible refine Ei ?_)|(with_reducible show de (cellAt _ _) _;first|with_reducible refine Cz ?_|with_reducible refine C_ ?_|with_reducible refine DZ ?_)|(with_reducible show de (av _ _ _) _;first|with_reducible refine BZ ?_|with_reducible refine D1 ?_)|simp -dsimp only[↓ww.o,↓WB,WP,WS,bE,Nat.reduceEqDiff,Nat.reduceAdd]|simp -dsimp only[↓WB,WP,WS,bE,Nat.reduceEqDiff,Nat.reduceAdd,↓e5,↓e4,↓b0,↓b3,yF,yC]|(with_reducible show dJ _ _ _ _ _;refine DU ?_)|simp -dsimp (disch:=(first|with_reducible assumption|(with_reducible refine hag _ ?_;rfl)|(with_reducible show _<_;omega))) only [CP,DX,CI,D7]|simp -dsimp (disch:=(first|with_reducible assumption|(with_reducible refine hag _ ?_;rfl)|(with_reducible show _<_;omega))) only [Dz,cL,p_,List.getElem?_cons_zero,List.getElem?_cons_succ]|simp -dsimp (disch:=(first|with_reducible assumption|(with_reducible show _<_;omega)|(with_reducible show GetElem?.getElem? _ _=_;with_unfolding_all rfl)|(with_reducible show List.length _=_;with_unfolding_all rfl))) only [DM,qp]|simp -dsimp (disch:=(conv=>lhs;cbv)) only [Dl]))
   refine hK _ _ X3 ?_
   rw[iF]at o3;exact o3
 | @cons _ j ld' hsome hkk c4 =>
   have hkl:k<l.length:=by have:=congrArg List.length hld;simp at this;omega
   have hlk:l[k]=rk∧l.drop (k+1)=ld':=by rw[kJ hkl]at hld;exact⟨(List.cons.inj hld).1,(List.cons.inj hld).2⟩
   have d4:=s3.sP hkk
   rw[hsome,fC]at e5
   (repeat' (first|(with_reducible show gV _ (rg _ _) _ _ _;first|with_reducible refine Ef ?_)|(with_reducible show lW _ _ _;first|with_reducible refine CJ ?_|with_reducible refine CS ?_|with_reducible refine wN (fun _=>?_) (fun _=>?_))|(with_reducible show _∧_;first|with_reducible refine CU ?_|with_reducible refine CN ?_|with_reducible refine Ea ?_)|(with_reducible show jQ _ _ _ _ _;first|with_reducible refine C1 ?_)|(with_reducible show vX _ _ _ _ _ _ _;first|with_reducible refine C9 ?_)|(with_reducible show yb _ _ _ _;first|with_reducible refine Du ?_)|(with_reducible show lU _ _ _ _;first|with_reducible refine C0 ?_)|(with_reducible show eR _ _ _;first|with_reducible refine Dd ?_|with_reducible refine Ei ?_)|(with_reducible show de (cellAt _ _) _;first|with_reducible refine Cz ?_|with_reducible refine C_ ?_|with_reducible refine DZ ?_)|(with_reducible show de (av _ _ _) _;first|with_reducible refine BZ ?_|with_reducible refine D1 ?_)|simp -dsimp only[↓ww.o,↓WB,WP,WS,bE,Nat.reduceEqDiff,Nat.reduceAdd]|simp -dsimp only[↓WB,WP,WS,bE,Nat.reduceEqDiff,Nat.reduceAdd,↓e5,↓e4,↓b0,↓b3,yF,yC,d3]|(with_reducible show dJ _ _ _ _ _;refine DU ?_)|simp -dsimp (disch:=(first|with_reducible assumption|(with_reducible refine hag _ ?_;rfl)|(with_reducible show _<_;omega))) only [CP,DX,CI,D7]|simp -dsimp (disch:=(first|with_reducible assumption|(with_reducible refine hag _ ?_;rfl)|(with_reducible show _<_;omega))) only [Dz,cL,p_,List.getElem?_cons_zero,List.getElem?_cons_succ]|simp -dsimp (disch:=(first|with_reducible assumption|(with_reducible show _<_;omega)|(with_reducible show GetElem?.getElem? _ _=_;with_unfolding_all rfl)|(with_reducible show List.length _=_;with_unfolding_all rfl))) only [DM,qp]|simp -dsimp (disch:=(conv=>lhs;cbv)) only [Dl]))
   refine yv (new:=rk.cells) o3 ah (by rw[RR.len,fp];omega) ah rfl rfl ao rfl fun v5 h5 o5 x5=>?_
   have n5:=x5.n
   have g5:=x5.cY g3
   have d5:=aG x5 (by have:=s.lt _ (um (V:=V));omega) d4
   (repeat' (first|(with_reducible show gV _ (rg _ _) _ _ _;first|with_reducible refine Ef ?_)|(with_reducible show lW _ _ _;first|with_reducible refine CJ ?_|with_reducible refine CS ?_|with_reducible refine wN (fun _=>?_) (fun _=>?_))|(with_reducible show _∧_;first|with_reducible refine CU ?_|with_reducible refine CN ?_|with_reducible refine Ea ?_)|(with_reducible show jQ _ _ _ _ _;first|with_reducible refine C1 ?_)|(with_reducible show vX _ _ _ _ _ _ _;first|with_reducible refine C9 ?_)|(with_reducible show yb _ _ _ _;first|with_reducible refine Du ?_)|(with_reducible show lU _ _ _ _;first|with_reducible refine C0 ?_)|(with_reducible show eR _ _ _;first|with_reducible refine Dd ?_|with_reducible refine Ei ?_)|(with_reducible show de (cellAt _ _) _;first|with_reducible refine Cz ?_|with_reducible refine C_ ?_|with_reducible refine DZ ?_)|(with_reducible show de (av _ _ _) _;first|with_reducible refine BZ ?_|with_reducible refine D1 ?_)|simp -dsimp only[↓ww.o,↓WB,WP,WS,bE,Nat.reduceEqDiff,Nat.reduceAdd]|simp -dsimp only[↓WB,WP,WS,bE,Nat.reduceEqDiff,Nat.reduceAdd,↓e5,↓e4,↓b0,↓b3,d5]|(with_reducible show dJ _ _ _ _ _;refine DU ?_)|simp -dsimp (disch:=(first|with_reducible assumption|(with_reducible refine hag _ ?_;rfl)|(with_reducible show _<_;omega))) only [CP,DX,CI,D7]|simp -dsimp (disch:=(first|with_reducible assumption|(with_reducible refine hag _ ?_;rfl)|(with_reducible show _<_;omega))) only [Dz,cL,p_,List.getElem?_cons_zero,List.getElem?_cons_succ]|simp -dsimp (disch:=(first|with_reducible assumption|(with_reducible show _<_;omega)|(with_reducible show GetElem?.getElem? _ _=_;with_unfolding_all rfl)|(with_reducible show List.length _=_;with_unfolding_all rfl))) only [DM,qp]|simp -dsimp (disch:=(conv=>lhs;cbv)) only [Dl]))
   refine fa (off:=0) (cs':=M.sh[j].x.par.cells) g5 rfl rfl rfl rfl ao ?_
   have X6:aw h.n h5 { h5 with b:=h5.b.set h.n (.cells M.sh[j].x.par.cells 38 true) }:=aw.set _ a_
   have o6:=Rp (k:=.cells M.sh[j].x.par.cells 38 true) o5 (cK h.n)
   obtain⟨h6,eh6⟩:=gz ({ h5 with b:=h5.b.set h.n (.cells M.sh[j].x.par.cells 38 true) }:ak)
   have g6:h6.b.get h.n=some (.cells M.sh[j].x.par.cells 38 true):=eh6▸aA
   have n6:h6.n=h5.n:=eh6▸rfl
   rw[eh6];try rw[eh6]at X6;try rw[eh6]at o6
   have X7:=X3.trans ((x5.mono ah).trans X6)
   have d6:av h6 (ad h.n 0) 2=some M.sh[j].x.par.cells:=aq ah g6 rfl rfl
   refine wk ?_
   refine oA (s.ext X7) hs fun h8 x8=>?_
   have n8:=x8.n
   refine wk ?_
   refine⟨l.length-(k+1),ah,k+1,M.sh[j].x.par,v5,ah,rfl,aA,aA,?_,x8.cY g6,by rw[hlk.2];exact c4,X7.jI x8,ah⟩
   have:=o6.ext x8 a_
   rw[kx hkl,fo,jA,hlk.1]
   simpa using this
end Go.Proofs.YthjlppdnlahhoaaGreat
