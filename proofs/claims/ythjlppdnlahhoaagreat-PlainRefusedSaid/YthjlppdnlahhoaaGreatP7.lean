/- THE PLAIN MACHINE's FUNCTIONS, walked (7). Conditions: none beyond each theorem's own. -/
import Derived.Test.YthjlppdnlahhoaaGreatP6
import Derived.Test.YthjlppdnlahhoaaGreatP1
import Derived.Test.YthjlppdnlahhoaaGreatP4
set_option linter.unusedSimpArgs false
set_option linter.unusedVariables false
namespace Go.Proofs.YthjlppdnlahhoaaGreat
open Go.Ev
open Pl
set_option maxRecDepth 100000
set_option maxHeartbeats 400000
section
variable {a:Ad}{V:VD}{h h0:ak}{M:MD}
theorem St.JX (s0:St a V h0 M) {vg vc vs vk:Value}{lg lc ls:List Nat}{lk:List KD}(hn:h0.n≤h.n) (hk:∀ j,j<h0.n→¬own a V j→h.b.get j=h0.b.get j) (hc:∀ j,j=a.m∨j=a.g∨j=a.c∨j=a.s∨j=a.p→h.b.get j=h0.b.get j)
   (fg:Fr h vg lg) (fc:Fr h vc lc) (fs:Fr h vs ls) (kc:Kc h vk lk) (hkn:∀ j,fT vk j→j<h.n) (ux:(∀ j,fT vg j→¬fT vc j)∧(∀ j,fT vg j→¬fT vs j)∧(∀ j,fT vc j→¬fT vs j))
   (hb:∀ j,fT vg j∨fT vc j∨fT vs j∨fT vk j→own a V j∨h0.n≤j) :
   St a { V with fg:=vg,fc:=vc,fs:=vs,ax:=vk } (aO h a.m (.cells (cL a { V with fg:=vg,fc:=vc,fs:=vs,ax:=vk } { M with fg:=lg,fc:=lc,fs:=ls,ax:=lk }) 98 true)) { M with fg:=lg,fc:=lc,fs:=ls,ax:=lk } ∧
   Kp (own a V) (own a { V with fg:=vg,fc:=vc,fs:=vs,ax:=vk }) h0 (aO h a.m (.cells (cL a { V with fg:=vg,fc:=vc,fs:=vs,ax:=vk } { M with fg:=lg,fc:=lc,fs:=ls,ax:=lk }) 98 true)):=by
 have hown:∀ j,own a { V with fg:=vg,fc:=vc,fs:=vs,ax:=vk } j→own a V j∨h0.n≤j:=fun j o=>by
   rcases o with e|e|e|e|e|e|e|e|e;· exact .inl (.inl e)
   · exact .inl (.inr (.inl e))
   · exact .inl (.inr (.inr (.inl e)))
   · exact .inl (.inr (.inr (.inr (.inl e))))
   · exact .inl (.inr (.inr (.inr (.inr (.inl e)))))
   · exact hb j (.inl e)
   · exact hb j (.inr (.inl e))
   · exact hb j (.inr (.inr (.inl e)))
   · exact hb j (.inr (.inr (.inr e)))
 have k:Kp (own a V) (own a { V with fg:=vg,fc:=vc,fs:=vs,ax:=vk }) h0 (aO h a.m (.cells (cL a { V with fg:=vg,fc:=vc,fs:=vs,ax:=vk } { M with fg:=lg,fc:=lc,fs:=ls,ax:=lk }) 98 true)) :=
   ⟨hn,fun j hj ho=>(aC fun (e:j=a.m)=>ho (by rw[e];exact fE)).trans (hk j hj ho),fun j hj o=>by rcases hown j o with h|h;exact h;omega⟩
 have cZ:=(hc a.m (.inl rfl)).trans s0.cZ
 have low:∀ j,own a { V with fg:=vg,fc:=vc,fs:=vs,ax:=vk } j→j<h.n:=fun j o=>by
   rcases o with e|e|e|e|e|e|e|e|e;· subst e;exact bX (s0.lt _ fE) hn
   · subst e;exact bX (s0.lt _ qe) hn
   · subst e;exact bX (s0.lt _ uj) hn
   · subst e;exact bX (s0.lt _ um) hn
   · subst e;exact bX (s0.lt _ pO) hn
   · exact fg.1 j e
   · exact fc.1 j e
   · exact fs.1 j e
   · exact hkn j e
 refine⟨?_,k⟩
 exact { lt:=low,cZ:=aF,
         gs:=s0.gs.imp fun _ q=>(aC (gf ((hc _ (.inr (.inl rfl))).trans q) cZ ao)).trans ((hc _ (.inr (.inl rfl))).trans q),
         cl:=s0.cl.imp fun _ q=>(aC (gf ((hc _ (.inr (.inr (.inl rfl)))).trans q) cZ ao)).trans ((hc _ (.inr (.inr (.inl rfl)))).trans q),
         sh:=s0.sh.imp fun _ q=>(aC (gf ((hc _ (.inr (.inr (.inr (.inl rfl))))).trans q) cZ ao)).trans ((hc _ (.inr (.inr (.inr (.inl rfl))))).trans q),
         ps:=s0.ps.imp fun _ q=>(aC (gf ((hc _ (.inr (.inr (.inr (.inr rfl))))).trans q) cZ ao)).trans ((hc _ (.inr (.inr (.inr (.inr rfl))))).trans q),
         fg:=fg.set cZ ao,fc:=fc.set cZ ao,fs:=fs.set cZ ao,ux:=ux,ax:=kc.set cZ ao,
         all:=s0.all.kp k,tm:=s0.tm.kp k,log:=s0.log.kp k,xU:=s0.xU,xR:=fun p a b=>(s0.xR p a b).kp k,Bv:=s0.Bv,Af:=fun p a b=>(s0.Af p a b).kp k,pr:=mu s0.pr k }
theorem uD {α:Type}{f:α→List Value}{sz b k j n:Nat}{l:List α}{r:List Value}{e:TypeId}{t:Bool}(hb:h.b.get b=some (.cells ((l.map f).flatten++r) e t)) (hbn:b<h.n) (hf:∀ x,(f x).length=sz) (hk:k<l.length) (hj:j+n≤sz) :
  av h ⟨b,k*sz+j,none⟩ n=some (((f l[k]).drop j).take n):=by
 refine aq hbn hb ?_ (by simp[hf];omega)
 rw[kX hk,jB,pP,pR hf hk,mE (by rw[pR hf hk];omega),gy,Nat.add_sub_cancel_left,jB,pP,hf,sO ah,eh,List.take_append,kg,hf,sO ah,iH,ei]
theorem SG {α:Type}{f:α→List Value}{sz b k j n:Nat}{l:List α}{r:List Value}{e:TypeId}{t:Bool}{K:Value→ak→Prop}[iJ K] {v:Value}{new:List Value}{y:α}(hb:h.b.get b=some (.cells ((l.map f).flatten++r) e t)) (hf:∀ x,(f x).length=sz) (hk:k<l.length) (hv:v.cells.toList=new) (hl:new.length=n) (ho:fV (f l[k]) j new=some (f y)) (h1:new.all aE=true) (hn:n≠0)
  (q:K undef (aO h b (.cells (((l.set k y).map f).flatten++r) e t))):jQ n (.pointer (some ⟨b,k*sz+j,none⟩)) v h K:=by
 refine aM (cs':=((l.set k y).map f).flatten++r) hb hv hl ?_ h1 hn q
 obtain⟨hle,he⟩:=tv _ _ _ _ ho
 have hne:new≠[]:=by intro e;rw[e]at hl;exact hn hl.symm
 have hle:j+new.length≤(f l[k]).length:=by rcases hle with e|e;exact absurd e hne;exact e
 have e1:f l[k]=(f l[k]).take j++(((f l[k]).drop j).take new.length++(f l[k]).drop (j+new.length)):=by rw[← nB,iE,iE]
 have e2:((l.set k y).map f).flatten=((l.take k).map f).flatten++(f y++((l.drop (k+1)).map f).flatten):=by rw[kX (l:=l.set k y) (k:=k) (by simpa using hk),Ax (aQ k),ze (cK k),cU]
 rw[e2,he,kX hk]
 have e3:(((l.take k).map f).flatten++(f l[k]).take j).length=k*sz+j:=by rw[dA,pR hf hk,fp];omega
 have:=pb new (((l.take k).map f).flatten++(f l[k]).take j) (((f l[k]).drop j).take new.length) ((f l[k]).drop (j+new.length)++(((l.drop (k+1)).map f).flatten++r)) (by simp;omega)
 rw[e3]at this
 rw[show ((l.take k).map f).flatten++(f l[k]++((l.drop (k+1)).map f).flatten)++r=((l.take k).map f).flatten++(f l[k]).take j++(((f l[k]).drop j).take new.length++((f l[k]).drop (j+new.length)++(((l.drop (k+1)).map f).flatten++r))) by
  conv=>lhs;rw[e1]
  simp only[jB]]
 rw[this]
 simp only[jB]
theorem KD.hf:∀ x:KD,x.cells.length=8:=fun _=>rfl
theorem Kc.pos {v:Value}{l:List KD}(k:Kc h v l) (hl:l≠[]):∃ i r t c,v=.slice (some ⟨i,0,none⟩) l.length c∧l.length≤c∧c≠fb∧i<h.n∧h.b.get i=some (.cells ((l.map KD.cells).flatten++r) 135 t):=by obtain⟨x,c,rfl,h1,h2,h3,h4,h5⟩:=k;obtain⟨i,r,t,rfl,hi⟩:=h5 hl;exact⟨i,r,t,c,rfl,h1,h2,h4 _ rfl,hi⟩
theorem Kc.rd {v:Value}{l:List KD}(k:Kc h v l):Om h.n h v l:=by obtain⟨x,c,rfl,h1,h2,h3,h4,h5⟩:=k;refine⟨x,c,rfl,h1,fun i hi=>?_⟩;rw[aI]at hi;obtain⟨b,r,t,rfl,hb⟩:=h5 (by intro e;rw[e]at hi;simp at hi);refine⟨b,0,rfl,h4 _ rfl,?_⟩;rw[cb,dr];exact uD (j:=0) (n:=8) hb (h4 _ rfl) KD.hf hi ao
theorem st_k {K:Value→ak→Prop}[iJ K] (s:St a V h M) {k j n i b c:Nat}{v:Value}{new:List Value}{y:KD}(hk:k<M.ax.length) (hi:i=k*8+j) (hV:V.ax=.slice (some ⟨b,0,none⟩) M.ax.length c) (hv:v.cells.toList=new) (hl:new.length=n) (ho:fV M.ax[k].cells j new=some y.cells) (h1:new.all aE=true) (hn:n≠0)
   (q:∀ h',St a V h' { M with ax:=M.ax.set k y }→Kp (own a V) (own a V) h h'→h'.n=h.n→K undef h'):jQ n (.pointer (some ⟨b,i,none⟩)) v h K:=by
 subst hi
 have hne:M.ax≠[]:=by intro e;rw[e]at hk;simp at hk
 obtain⟨i,r,t,c',e,h3,h4,hin,hb⟩:=s.ax.pos hne
 rw[hV]at e;cases e
 have ob:own a V b:=.inr (.inr (.inr (.inr (.inr (.inr (.inr (.inr ⟨_,_,_,hV,rfl,fun e=>hne (dq.1 e)⟩)))))))
 refine SG (y:=y) hb KD.hf hk hv hl ho h1 hn (q _ ?_ (.set ob) rfl)
 have kp:Kp (own a V) (own a V) h (aO h b (.cells (((M.ax.set k y).map KD.cells).flatten++r) 135 t)):=.set ob
 exact { lt:=s.lt,cZ:=by
           have:=(aC (k:=.cells (((M.ax.set k y).map KD.cells).flatten++r) 135 t) (gf s.cZ hb ao)).trans s.cZ;exact this
         gs:=s.gs.imp fun _ q=>(aC (gf q hb ao)).trans q,cl:=s.cl.imp fun _ q=>(aC (gf q hb ao)).trans q,sh:=s.sh.imp fun _ q=>(aC (gf q hb ao)).trans q,ps:=s.ps.imp fun _ q=>(aC (gf q hb ao)).trans q,
         fg:=s.fg.set hb ao,fc:=s.fc.set hb ao,fs:=s.fs.set hb ao,ux:=s.ux,
         ax:=⟨some ⟨b,0,none⟩,c,by rw[hV];simp,by simpa using h3,h4,(fun e=>by cases e),(fun x e=>by cases e;exact hin),fun _=>⟨b,r,t,rfl,aF⟩⟩,
         all:=s.all.kp kp,tm:=s.tm.kp kp,log:=s.log.kp kp,xU:=s.xU,xR:=fun p a b=>(s.xR p a b).kp kp,Bv:=s.Bv,Af:=fun p a b=>(s.Af p a b).kp kp,pr:=mu s.pr kp }
end
open Go.Ev
open Pl
set_option maxRecDepth 100000
set_option maxHeartbeats 4000000
structure CD where
 kind:Int
 oi:Int
 og:Int
 ri:Int
def CD.cells (x:CD):List Value:=[.int .i64 x.kind,.int .i64 x.oi,.int .u64 x.og,.int .u8 x.ri]
def MD.rO (M:MD) (ab g slot:Int) (c:CD):MD:={ M with cw:=M.cw+1,ax:=M.ax++[⟨((M.cw+1:Nat):Int),ab,g,slot,c.kind,c.oi,c.og,c.ri⟩] }
theorem KD.len (l:List KD):((l.map KD.cells).flatten).length=l.length*8:=by rw[gU (sz:=8) _ (by simp[KD.cells])];simp
theorem pZ {a:Ad}{V:VD}{h:ak}{M:MD}{g sl:Int}{K:Value→ak→Prop}(s:St a V h M) (hl:M.ax.length≤100000) (hK:∀ h',aw h.n h h'→K (iv (ko M.ax g sl)) h'):cy env (.func 53) [mp a,iv g,iv sl] h K :=
 Rh s.mD (s.lt _ fE) s.ax.rd a_ hl hK
theorem yA {a:Ad}{V:VD}{h1 h:ak}{M:MD}{K:Value→ak→Prop}[iJ K] {v:Value}{l:List KD}(s1:St a V h1 M) (x:aw h1.n h1 h) (kc:Kc h v l) (hb:∀ j,fT v j→own a V j∨h1.n≤j) (hl:∀ j,fT v j→j<h.n)
  (q:∀ V' h',St a V' h' { M with ax:=l }→Kp (own a V) (own a V') h1 h'→h'.n=h.n→K undef h'):jQ 1 (pt a.m 23) v h K:=by
 obtain⟨y,c,e,_⟩:=id kc
 obtain⟨s2,k2⟩:=s1.JX (vg:=V.fg) (vc:=V.fc) (vs:=V.fs) (vk:=v) (lg:=M.fg) (lc:=M.fc) (ls:=M.fs) (lk:=l) x.n (fun j hj _=>x.get j hj) (fun j hj=>x.get j (s1.lt j (by rcases hj with e|e|e|e|e<;>simp[own,e]))) (s1.ext x).fg (s1.ext x).fc (s1.ext x).fs kc hl s1.ux (fun j h=>by
  rcases h with h|h|h|h;·exact .inl (by simp[own,h])
  ·exact .inl (by simp[own,h])
  ·exact .inl (by simp[own,h])
  ·exact hb j h)
 exact aM (off:=23) (l:=[v]) ((x.get a.m (s1.lt _ fE)).trans s1.cZ) (by rw[e];rfl) rfl rfl (by rw[e];rfl) ao (q _ _ s2 k2 rfl)
theorem KD.one (l:List KD):((l.map KD.cells).flatten).all aE=true:=by rw[dX];intro x hx;obtain⟨y,hy,hx⟩:=r_.1 hx;obtain⟨z,_,rfl⟩:=bD.1 hy;simp only[KD.cells,cM,lF,or_false]at hx;rcases hx with rfl|rfl|rfl|rfl|rfl|rfl|rfl|rfl<;>rfl
theorem Om.first {B n c:Nat}{a:Option Addr}{h:ak}{l:List KD}(r:Om B h (.slice a n c) l) {m:Nat}(hm:m≤l.length):∀ c',firstCells h 8 m (.slice a m c')=some ((l.take m).map KD.cells).flatten:=by
 intro c';by_cases h0:m=0;·subst h0;cases a<;>rfl
 ·obtain⟨a',c2,e,_,q⟩:=r;cases e;have q':iz B h a 8 ((l.take m).map KD.cells):=fun i hi=>by rw[aI,fp]at hi;obtain⟨b,o,e1,e2,e3⟩:=q i (by rw[aI];omega);refine⟨b,o,e1,e2,?_⟩;rw[e3,dr,dr,List.getElem_take]
  have hlen:((l.take m).map KD.cells).length=m:=by rw[aI,fp];omega
  obtain⟨b,off,rfl,_,e⟩:=iz.cells q' (fun r hr=>by obtain ⟨y,_,rfl⟩:=bD.1 hr;rfl) ao (by intro e;rw[e]at hlen;simp at hlen;omega);simp only[firstCells];rw[hlen]at e;exact e
theorem yT {a:Ad}{V:VD}{h:ak}{M:MD}{ab g sl:Int}{c:CD}{K:Value→ak→Prop}(s:St a V h M) (hl:M.ax.length≤10000) (hc:M.cw<1000000)
  (hK:∀ V' h',St a V' h' (M.rO ab g sl c)→Kp (own a V) (own a V') h h'→K (dE []) h'):cy env (.func 24) [mp a,iv ab,iv g,iv sl,.agg ⟨c.cells⟩] h K:=by
 unfold mp
 simp only[CD.cells]
 refine F24 rfl ?_
 have s0:=s.new (.cells [iv c.kind,iv c.oi,uv c.og,.int .u8 c.ri] 109 true)
 obtain⟨h0,eh0⟩:=gz (ai h (.cells [iv c.kind,iv c.oi,uv c.og,.int .u8 c.ri] 109 true))
 have k0:Kp (own a V) (own a V) h h0:=eh0▸.new
 have d0:av h0 (ad h.n 0) 4=some [iv c.kind,iv c.oi,uv c.og,.int .u8 c.ri]:=eh0▸(aV rfl)
 have n0:=qk eh0
 have no:¬own a V h.n:=fun o=>dy _ (s.lt _ o)
 have wn:IntKind.wrap .i64 ((M.cw:Int)+1)=((M.cw+1:Nat):Int):=bC ah
 have ww:=mW @wn
 refine wk ?_
 rw[eh0];try rw[eh0]at s0
 refine T' s0 fun V1 h1 s1 k1 n1=>?_
 have d1:=fz k1 ah no d0
 obtain⟨x,cc,e,c1,c2,c3,c4,c5⟩:=id s1.ax
 have mD:=s1.mD
 rw[e]at mD
 have el:({ M with cw:=M.cw+1 }:MD).ax=M.ax:=rfl
 rw[el]at c1 c5 mD e
 refine wk ?_
 refine js GA ao c2 c3 c1 ?_
 refine wk ?_
 obtain⟨h2,eh2⟩:=gz (ai h1 (.cells (KD.cells ⟨((M.cw+1:Nat):Int),ab,g,sl,c.kind,c.oi,c.og,c.ri⟩) 135 true))
 have X2:=tW eh2
 have d2:av h2 (ad h1.n 0) 8=some (KD.cells ⟨((M.cw+1:Nat):Int),ab,g,sl,c.kind,c.oi,c.og,c.ri⟩):=eh2▸(aV rfl)
 have n2:=qk eh2
 change iK 135 8 _ _ (ai h1 (.cells (KD.cells ⟨((M.cw+1:Nat):Int),ab,g,sl,c.kind,c.oi,c.og,c.ri⟩) 135 true)) _
 rw[eh2]
 have rd:=(s1.ext X2).ax.rd
 rw[e]at rd
 have hf:=rd.first (aQ M.ax.length) M.ax.length
 rw[iF]at hf
 refine jL (n:=M.ax.length) (m:=1) (cs:=(M.ax.map KD.cells).flatten) (new:=KD.cells ⟨((M.cw+1:Nat):Int),ab,g,sl,c.kind,c.oi,c.og,c.ri⟩) ah (fun e=>by have:=c3 e;omega) hf rfl ao ao (by simpa only[firstCells,fk]using d2) rfl ?_
 have n2':∀ b,(ai h1 b).n=h1.n+1:=fun _=>rfl
 have ww:=ww.a (aN @n2' @n2)
 refine wk ?_
 have hfl:(M.ax.map KD.cells).flatten++KD.cells ⟨((M.cw+1:Nat):Int),ab,g,sl,c.kind,c.oi,c.og,c.ri⟩=((M.ax++([⟨((M.cw+1:Nat):Int),ab,g,sl,c.kind,c.oi,c.og,c.ri⟩]:List KD)).map KD.cells).flatten++[]:=by simp only[fo,dT,List.map_nil,jA,mG,List.flatten_nil,ei]
 rw[hfl]
 refine yA s1 (X2.trans (aw.new _ ah)) (l:=M.ax++[⟨((M.cw+1:Nat):Int),ab,g,sl,c.kind,c.oi,c.og,c.ri⟩]) ⟨some ⟨h2.n,0,none⟩,bh,an,by simp;unfold bh;omega,ao,(fun e=>by cases e),(fun x e=>by cases e;exact cK _),fun _=>⟨h2.n,[],false,rfl,az _ _⟩⟩ (fun j bj=>?_) (fun j bj=>?_) fun V3 h3 s3 k3 n3=>?_
 ·obtain⟨x,e,rfl,_⟩:=aU.1 bj;cases e;exact .inr (by show h1.n≤h1.n+1;omega)
 ·obtain⟨x,e,rfl,_⟩:=aU.1 bj;cases e;show h1.n+1<h2.n+1;omega
 ·refine wk ?_;exact hK V3 h3 s3 (k0.trans (k1.trans k3))
theorem o_ {a:Ad}{V:VD}{h:ak}{M:MD}{g sl:Int}{K:Value→ak→Prop}(s:St a V h M) (hl:M.ax.length≤10000) (hs:M.cfg.bP≤1000)
  (hK:∀ (e:Int) h',aw h.n h h'→K (iv e) h'):cy env (.func 126) [mp a,iv g,uv sl] h K:=by
 unfold mp at *
 refine F126 rfl ?_
 have w6:IntKind.wrap .u64 (M.cfg.bP:Int)=(M.cfg.bP:Int):=wrap_u64 ah ah
 by_cases h1:(M.cfg.bP:Int)≤sl
 ·have ww:=mW @w6;refine wk ?_;exact hK _ h (aw.refl _ _)
 ·have ww:=mW @w6;refine wk ?_;refine pZ s ah fun h1 x1=>?_;by_cases h2:ko M.ax g (IntKind.wrap .i64 sl)≥0;·refine wk ?_;exact hK _ _ x1
  ·refine wk ?_;exact hK _ _ x1
theorem u9 {a:Ad}{V:VD}{h:ak}{M:MD}{K:Value→ak→Prop}(s:St a V h M) (hl:M.ax.length≤10000)
  (hK:∀ b,K (.bool b) h):cy env (.func 127) [mp a] h K:=by
 unfold mp at *
 refine F127 rfl ?_
 have mD:=s.mD
 obtain⟨x,cc,e,_⟩:=id s.ax
 rw[e]at mD
 refine Ep ?_ ?_
 all_goals exact hK _
theorem mg {a:Ad}{V:VD}{h:ak}{M:MD}(s:St a V h M) {k:Nat}(hk:k<M.ax.length):∃ i c,V.ax=.slice (some ⟨i,0,none⟩) M.ax.length c∧i<h.n∧own a V i∧cellAt h (ad a.m 23)=some (.slice (some ⟨i,0,none⟩) M.ax.length c)∧av h (ad i (k*8)) 8=some M.ax[k].cells∧∀ j n,j+n≤8→av h (ad i (k*8+j)) n=some ((M.ax[k].cells.drop j).take n):=by
 have hne:M.ax≠[]:=by intro e;rw[e]at hk;simp at hk
 obtain⟨i,r,t,c,e,h1,h2,hi,hb⟩:=s.ax.pos hne;refine⟨i,c,e,hi,.inr (.inr (.inr (.inr (.inr (.inr (.inr (.inr ⟨_,_,_,e,rfl,fun e=>hne (dq.1 e)⟩))))))),by rw[← e];exact s.mD,uD (j:=0) (n:=8) hb hi KD.hf hk ao,fun j n hjn=>uD hb hi KD.hf hk hjn⟩
theorem Ac {a:Ad}{V:VD}{h:ak}{M:MD}{fr:Nat}{g to kind:Int}{r:RR}{K:Value→ak→Prop}(s:St a V h M) (hf:fr<M.ax.length) (hl:M.ax.length≤10000) (hc:M.cw<1000000)
  (hK:∀ (sl ri:Int) V' h',St a V' h' (M.rO M.ax[fr].id g sl ⟨kind,r.i,r.g,ri⟩)→Kp (own a V) (own a V') h h'→K (iv 0) h'):cy env (.func 129) [mp a,iv fr,iv g,uv to,iv kind,.agg ⟨r.cells⟩] h K:=by
 obtain⟨ri,rg⟩:=r
 have s0:=s.new (.cells [iv ri,uv rg] 38 true)
 obtain⟨h0,eh0⟩:=gz (ai h (.cells [iv ri,uv rg] 38 true))
 have k0:Kp (own a V) (own a V) h h0:=eh0▸.new
 have d0:av h0 (ad h.n 0) 2=some [iv ri,uv rg]:=eh0▸(aV rfl)
 have n0:=qk eh0
 obtain⟨i,c,eV,hi,oi,mD,cA,cN⟩:=mg s0 hf
 unfold mp at *
 refine F129 rfl ?_
 simp only[RR.cells,KD.cells]at cA ⊢
 have ww:=mW (aN @mD @cA)
 refine wk ?_
 rw[eh0];try rw[eh0]at s0;try rw[eh0]at mD;try rw[eh0]at cA;try rw[eh0]at hi
 rw[← n0]
 have s1:=s0.new (.cells M.ax[fr].cells 135 true)
 have k1:Kp (own a V) (own a V) h0 (ai h0 (.cells M.ax[fr].cells 135 true)):=.new
 have d1:av (ai h0 (.cells M.ax[fr].cells 135 true)) ⟨h.n,0,none⟩ 2=some [iv ri,uv rg]:=aG (aw.new (B:=h0.n) _ a_) ah d0
 simp only[KD.cells]at s1 k1 d1
 refine wk ?_
 refine yT (c:=⟨kind,ri,rg,M.ax[fr].ri⟩) s1 hl hc fun V2 h2 s2 k2=>?_
 refine wk ?_
 exact hK _ _ V2 h2 s2 (k0.trans (k1.trans k2))
theorem fu {E:Env}{t:TypeId}{c:Bool}{k:IntKind}{x y:Int}{K:Value→Prop}:cH E .andNot t c (.int k x) (.int k y) K=K (.int k (k.wrap (BitVec.ofInt k.bits x &&& ~~~BitVec.ofInt k.bits y).toNat)):=by simp[cH,eS]
theorem uR {a:Ad}{V:VD}{h:ak}{M:MD}{fr:Nat}{g to ri:Int}{K:Value→ak→Prop}(s:St a V h M) (hf:fr<M.ax.length) (hl:M.ax.length≤10000) (hc:M.cw<1000000) (hs:M.cfg.bP≤1000)
   (hK1:∀ (e:Int) h',aw h.n h h'→K (iv e) h')
   (hK:∀ (sl:Int) V' h',St a V' h' (M.rO M.ax[fr].id g sl ⟨M.ax[fr].kind,M.ax[fr].oi,M.ax[fr].og,ri⟩)→Kp (own a V) (own a V') h h'→K (iv 0) h'):cy env (.func 131) [mp a,iv fr,iv g,uv to,.int .u8 ri] h K:=by
 obtain⟨i,c,eV,hi,oi,mD,cA,cN⟩:=mg s hf
 unfold mp at *
 refine F131 rfl ?_
 simp only[KD.cells]at cA
 have ww:=mW (aN @mD @cA)
 refine wk ?_
 have X1:aw h.n h (ai h (.cells M.ax[fr].cells 135 true)):=br
 have g1:(ai h (.cells M.ax[fr].cells 135 true)).b.get h.n=some (.cells M.ax[fr].cells 135 true):=az _ _
 have n1:(ai h (.cells M.ax[fr].cells 135 true)).n=h.n+1:=rfl
 simp only[KD.cells]at X1 g1 n1
 generalize ai h (.cells [iv M.ax[fr].id,iv M.ax[fr].ab,iv M.ax[fr].g,iv M.ax[fr].slot,iv M.ax[fr].kind,iv M.ax[fr].oi,uv M.ax[fr].og,.int .u8 M.ax[fr].ri] 135 true)=h1 at X1 g1 n1 ⊢
 refine o_ (s.ext X1) hl hs fun e h2 x2=>?_
 have X2:=X1.trans (x2.mono X1.n)
 have g2:=x2.cY g1
 have n2:=x2.n
 by_cases he:e=0
 · subst he;refine wk ?_;by_cases hr:IntKind.u8.wrap ((BitVec.ofInt IntKind.u8.bits ri &&& ~~~BitVec.ofInt IntKind.u8.bits M.ax[fr].ri).toNat:Nat)=0
   · have ww:=ww.a @fu;refine wk ?_;refine u9 (s.ext X2) hl fun b=>?_;cases b with
     | true =>refine wk ?_;exact hK1 _ _ X2
     | false =>refine wk ?_;refine aM (off:=7) (cs':=[iv M.ax[fr].id,iv M.ax[fr].ab,iv M.ax[fr].g,iv M.ax[fr].slot,iv M.ax[fr].kind,iv M.ax[fr].oi,uv M.ax[fr].og,.int .u8 ri]) g2 rfl rfl rfl rfl ao ?_;obtain⟨h3,eh3⟩:=gz (aO h2 h.n (.cells [iv M.ax[fr].id,iv M.ax[fr].ab,iv M.ax[fr].g,iv M.ax[fr].slot,iv M.ax[fr].kind,iv M.ax[fr].oi,uv M.ax[fr].og,.int .u8 ri] 135 true));have X3:aw h.n h h3:=eh3▸(X2.trans (aw.set _ a_));have g3:=rS eh3;have n3:=sW eh3;rw[eh3];have c4:av h3 (ad h.n 4) 4=some [iv M.ax[fr].kind,iv M.ax[fr].oi,uv M.ax[fr].og,.int .u8 ri]:=aq ah g3 rfl rfl;refine wk ?_;refine yT (c:=⟨M.ax[fr].kind,M.ax[fr].oi,M.ax[fr].og,ri⟩) (s.ext X3) hl hc fun V4 h4 s4 k4=>?_;refine wk ?_;exact hK _ V4 h4 s4 ((Kp.ext X3).trans k4)
   · have ww:=ww.a @fu;refine wk ?_;exact hK1 _ _ X2
 · refine wk ?_;exact hK1 _ _ X2
def BB (x y:KD):KD:=if y.ab=x.id then { y with ab:=x.ab } else y
def uq (l:List KD) (i:Nat) (x:KD):List KD:=(l.take i++l.drop (i+1)).map (BB x)
def pU {α:Type}(f:α→α) (k:Nat) (l:List α):List α:=(l.take k).map f++l.drop k
theorem wb {α:Type}{f:α→α}{k:Nat}{l:List α}:(pU f k l).length=l.length:=by simp[pU];omega
theorem FO {α:Type}{f:α→α}{k:Nat}{l:List α}(hk:k<l.length) (h:k<(pU f k l).length):(pU f k l)[k]=l[k]:=by simp only[pU];rw[sH (by simp;omega)];simp[jv (jG hk)]
theorem Cn {α:Type}{f:α→α}{k:Nat}{l:List α}(hk:k<l.length):(pU f k l).set k (f l[k])=pU f (k+1) l:=by
 simp only[pU];rw[List.set_append_right _ _ (by simp;omega),kx hk,fo];have e:k-(List.map f (List.take k l)).length=0:=by simp[jv (jG hk)]
 rw[e,kJ hk,Bf];simp
theorem Mb {α:Type}{f:α→α}{k:Nat}{l:List α}(hk:k<l.length) (e:f l[k]=l[k]):pU f k l=pU f (k+1) l:=by
 rw[← Cn hk,e];have h:k<(pU f k l).length:=by rw[wb];exact hk
 have:=FO (f:=f) hk h;rw[← this,List.set_getElem_self]
theorem BE {a:Ad}{V:VD}{h:ak}{M:MD}{x:KD}{j4:Nat}{fr:Go.Ev.Fr}{K:Value→ak→Prop}(s:St a V h M) (hl:M.ax.length≤10000) (l4:j4<h.n) (o4:¬own a V j4) (g4:av h (ad j4 0) 8=some x.cells)
  (f0:fr.get 0=some (pt a.m 0)) (f4:fr.get 4=some (pt j4 0))
  (hK:∀ h',St a V h' { M with ax:=M.ax.map (BB x) }→Kp (own a V) (own a V) h h'→K (dE []) h'):C2.wp env 60 none fr h (cW env [] K):=by
 obtain⟨y,c,eV,c1,c2,c3,c4,c5⟩:=id s.ax
 have mD:=s.mD
 rw[eV]at mD
 have ww:=mW BF
 refine wk ?_
 refine aP (fun m fr' h''=>∃ k:Nat,k≤M.ax.length∧m=M.ax.length-k∧fr'.get 36=some (iv k)∧St a V h'' { M with ax:=pU (BB x) k M.ax }∧Kp (own a V) (own a V) h h'') M.ax.length ?_ ah ?_
 ·exact⟨0,ah,ah,aA,by simpa[pU]using s,Kp.refl _ _⟩
 rintro m fr2 h2 ⟨k,hk,rfl,f36,s2,k2⟩ hag
 have g0:fr2.get 0=some (pt a.m 0):=(hag 0 rfl).trans (by simp[T.aj,f0])
 have g4':fr2.get 4=some (pt j4 0):=(hag 4 rfl).trans (by simp[T.aj,f4])
 have n2:=k2.n
 by_cases aT:k<M.ax.length
 ·have hk2:k<({ M with ax:=pU (BB x) k M.ax }:MD).ax.length:=by show k<(pU (BB x) k M.ax).length;rw[wb];exact aT
  obtain⟨b,c',eV',hb,ob,k23',cA,cN⟩:=mg s2 hk2;have hget:({ M with ax:=pU (BB x) k M.ax }:MD).ax[k]=M.ax[k]:=FO aT hk2;have x1:=dk (fz k2 l4 o4 g4) (j:=0) (v:=iv x.id) rfl;have x2:=dk (fz k2 l4 o4 g4) (j:=1) (v:=iv x.ab) rfl;have y1:cellAt h2 (ad b (k*8+1))=some (iv M.ax[k].ab):=by have:=dk cA (j:=1) (v:=iv M.ax[k].ab) (by rw[hget];rfl);exact this
  simp only[cj,cb]at x1 x2;have wn:=rU k;by_cases he:M.ax[k].ab=x.id;·have ww:=ww.a (aN (aN @k23' @wb) @y1);refine wk ?_;refine st_k (y:=BB x M.ax[k]) s2 hk2 (j:=1) rfl eV' rfl rfl (by rw[hget,BB,if_pos he];rfl) rfl ao fun h3 s3 k3 n3=>?_;have ww:=ww.a @wn;refine wk ?_;refine⟨M.ax.length-(k+1),ah,k+1,ah,rfl,aA,?_,k2.trans k3⟩;have e3:(pU (BB x) k M.ax).set k (BB x M.ax[k])=pU (BB x) (k+1) M.ax:=Cn aT;have s3':St a V h3 { M with ax:=(pU (BB x) k M.ax).set k (BB x M.ax[k]) }:=s3;rw[e3]at s3';exact s3'
  ·have ww:=ww.a (aN (aN @k23' @wb) (aN @y1 @wn));refine wk ?_;refine⟨M.ax.length-(k+1),ah,k+1,ah,rfl,aA,?_,k2⟩;rw[← Mb aT (by simp[BB,he])];exact s2
 ·obtain rfl:k=M.ax.length:=ah;refine wk ?_;refine hK h2 ?_ k2;simpa[pU]using s2
theorem FX {a:Ad}{V:VD}{h:ak}{M:MD}{i:Nat}{K:Value→ak→Prop}(s:St a V h M) (hi:i<M.ax.length) (hl:M.ax.length≤10000)
  (hK:∀ V' h',St a V' h' { M with ax:=uq M.ax i M.ax[i] }→Kp (own a V) (own a V') h h'→K (dE []) h'):cy env (.func 132) [mp a,iv i] h K:=by
 obtain⟨b,c,eV,hb,ob,mD,cA,cN⟩:=mg s hi
 unfold mp at *
 refine F132 rfl ?_
 simp only[KD.cells]at cA
 have ww:=mW (aN (aN BF @mD) @cA)
 refine wk ?_
 have X1:aw h.n h (ai h (.cells M.ax[i].cells 135 true)):=br
 have g1:(ai h (.cells M.ax[i].cells 135 true)).b.get h.n=some (.cells M.ax[i].cells 135 true):=az _ _
 have n1:(ai h (.cells M.ax[i].cells 135 true)).n=h.n+1:=rfl
 have s1:=s.new (.cells M.ax[i].cells 135 true)
 have k23':=s1.mD
 rw[eV]at k23'
 simp only[KD.cells]at X1 g1 n1 s1 k23'
 generalize ai h (.cells [iv M.ax[i].id,iv M.ax[i].ab,iv M.ax[i].g,iv M.ax[i].slot,iv M.ax[i].kind,iv M.ax[i].oi,uv M.ax[i].og,.int .u8 M.ax[i].ri] 135 true)=h1 at X1 g1 n1 s1 k23' ⊢
 have wi:=rU i
 have hne:M.ax≠[]:=by intro e;rw[e]at hi;simp at hi
 obtain⟨b',r,t,c',e',hc1,hc2,hbn,hblk⟩:=s1.ax.pos hne
 rw[eV]at e'
 cases e'
 have rd:=s1.ax.rd
 rw[eV]at rd
 obtain⟨_,_,e2,_,q2⟩:=id rd
 cases e2
 have no:¬own a V h.n:=fun o=>dy _ (s.lt _ o)
 have ww:=mW @wi
 refine wk ?_
 refine jV GA ao hc2 (jG hi) hc1 ?_
 refine wk ?_
 refine kV GA ao hc2 ah hc1 fun a2 c2 ha2 hc2' _=>?_
 refine wk ?_
 by_cases hm:M.ax.length-(i+1)=0
 ·rw[hm];refine⟨⟨ah,.inl a_⟩,fun _=>?_,fun h=>absurd rfl h⟩;refine wk ?_;have hl1:M.ax.take i++M.ax.drop (i+1)=M.ax.take i:=by rw[mE ah,ei]
  have htl:(M.ax.take i).length=i:=by rw[fp];omega
  have hsplit:(M.ax.map KD.cells).flatten++r=((M.ax.take i).map KD.cells).flatten++(((M.ax.drop i).map KD.cells).flatten++r):=by rw[← jB,← jA,← fo,iE]
  refine yA (l:=M.ax.take i) s1 (aw.refl _ _) ⟨some ⟨b,0,none⟩,i,by rw[htl],ah,by unfold fb;omega,(fun e=>by cases e),(fun x e=>by cases e;exact hbn),fun _=>⟨b,_,t,rfl,by rw[← hsplit];exact hblk⟩⟩ (fun j bj=>?_) (fun j bj=>?_) fun V2 h2 s2 k2 n2=>?_;·obtain⟨x,e,rfl,_⟩:=aU.1 bj;cases e;exact .inl ob
  ·obtain⟨x,e,rfl,_⟩:=aU.1 bj;cases e;exact hbn
  ·refine wk ?_;refine BE (x:=M.ax[i]) (j4:=h.n) s2 (by show (M.ax.take i).length≤10000;omega) ah (k2.no ah no) (fz k2 ah no (aq ah g1 rfl rfl)) (by simp[T.aj,bY]) aA fun h3 s3 k3=>?_;refine hK V2 h3 ?_ ((Kp.ext X1).trans (k2.trans k3));simpa only[uq,hl1]using s3
 ·obtain rfl:=ha2 ah;have hfd:firstCells h1 8 (M.ax.length-(i+1)) (.slice (some ⟨b,0+(i+1)*8,none⟩) (M.ax.length-(i+1)) c2)=some ((M.ax.drop (i+1)).map KD.cells).flatten:=by
   have hsplit:(M.ax.map KD.cells).flatten++r=((M.ax.take (i+1)).map KD.cells).flatten++(((M.ax.drop (i+1)).map KD.cells).flatten++r):=by rw[← jB,← jA,← fo,iE]
   have hle:((M.ax.take (i+1)).map KD.cells).flatten.length=(i+1)*8:=by rw[KD.len,fp];omega
   have hle2:((M.ax.drop (i+1)).map KD.cells).flatten.length=(M.ax.length-(i+1))*8:=by rw[KD.len,kg]
   simp only[firstCells];refine aq hbn hblk ?_ hle2;rw[hsplit,cb,← hle,List.drop_left,← hle2,List.take_left]
  have hft:=rd.first (jG hi) i
  refine jL (n:=i) (m:=M.ax.length-(i+1)) (cs:=((M.ax.take i).map KD.cells).flatten) (new:=((M.ax.drop (i+1)).map KD.cells).flatten) ah (fun e=>by cases e) hft rfl hm ao hfd (KD.one _) ?_;rw[← jA,← fo];have X2:aw h1.n h1 (ai h1 (.cells ((M.ax.take i++M.ax.drop (i+1)).map KD.cells).flatten 135 false)):=br;have hlen:(M.ax.take i++M.ax.drop (i+1)).length=i+(M.ax.length-(i+1)):=by simp;omega
  refine wk ?_;refine yA (l:=M.ax.take i++M.ax.drop (i+1)) s1 X2 ⟨some ⟨h1.n,0,none⟩,bh,by rw[hlen],by rw[hlen];unfold bh;omega,ao,(fun e=>by cases e),(fun x e=>by cases e;exact cK _),fun _=>⟨h1.n,[],false,rfl,by rw[ei];exact az _ _⟩⟩ (fun j bj=>?_) (fun j bj=>?_) fun V2 h2 s2 k2 n2=>?_;·obtain⟨x,e,rfl,_⟩:=aU.1 bj;cases e;exact .inr a_
  ·obtain⟨x,e,rfl,_⟩:=aU.1 bj;cases e;exact cK _
  ·have n2':=k2.n;refine wk ?_;refine BE (x:=M.ax[i]) (j4:=h.n) s2 (by show (M.ax.take i++M.ax.drop (i+1)).length≤10000;omega) ah (k2.no ah no) (fz k2 ah no (aq ah g1 rfl rfl)) (by simp[T.aj,bY]) aA fun h3 s3 k3=>?_;exact hK V2 h3 s3 ((Kp.ext X1).trans (k2.trans k3))
structure ud (l:List KD) (cw:Nat):Prop where
 pos:∀ x∈l,∃ n:Nat,x.id=(n:Int)∧0<n∧n≤cw
 uniq:(l.map KD.id).Nodup
 up:∀ x∈l,x.ab=0∨((∃ n:Nat,x.ab=(n:Int))∧x.ab<x.id∧∃ y∈l,y.id=x.ab)
inductive Ly (l:List KD) (id:Int):KD→Prop
 | hit {x:KD}(h:x.ab≠0) (e:x.ab=id):Ly l id x
 | up {x y:KD}(h:x.ab≠0) (hy:y∈l) (e:y.id=x.ab) (u:Ly l id y):Ly l id x
theorem J3 {l:List KD}(h:(l.map KD.id).Nodup) {x y:KD}(hx:x∈l) (hy:y∈l) (e:x.id=y.id):x=y:=by
 induction l with
 | nil=>cases hx
 | cons z l ih =>
   rw[dT,List.nodup_cons]at h
   obtain⟨h1,h2⟩:=h
   rcases cM.1 hx with ex|hx'
   · rcases cM.1 hy with ey|hy';· rw[ex,ey]
     · exact absurd (bD.2 ⟨y,hy',by rw[← e,ex]⟩) h1
   · rcases cM.1 hy with ey|hy';· exact absurd (bD.2 ⟨x,hx',by rw[e,ey]⟩) h1
     · exact ih h2 hx' hy'
def Nu (n:Int) (x:KD):Bool:=decide (x.id=n)
theorem I0 {x:KD}{b1:Nat}{n:Int}{h:ak}{K:Value→ak→Prop}(l1:b1<h.n) (c1:cellAt h (ad b1 1)=some (iv n))
  (hK:∀ h',aw h.n h h'→K (.bool (Nu n x)) h'):cy env (.func 158) [.agg ⟨x.cells⟩,pt b1 0] h K:=by
 refine F158 rfl ?_
 have X:aw h.n h (ai h (.cells x.cells 135 true)):=br
 have d1:=aD X l1 c1
 simp only[KD.cells]at X d1 ⊢
 unfold Nu at hK
 by_cases e1:x.id=n
 ·rw[decide_eq_true e1]at hK;refine wk ?_;all_goals first|exact hK _ X|omega
 ·rw[decide_eq_false e1]at hK;refine wk ?_;all_goals first|exact hK _ X|omega
theorem H7 {B:Nat}{v:Value}{l:List KD}{b1:Nat}{n:Int}{h:ak}{K:Value→ak→Prop}(r:Om B h v l) (hB:B≤h.n) (hl:l.length≤100000) (l1:b1<h.n) (c1:cellAt h (ad b1 1)=some (iv n))
  (hm:∃ y∈l,y.id=n) (hK:∀ (k:Nat) (hk:k<l.length) h',aw h.n h h'→l[k].id=n→K (iv k) h') :
  cy env (.func 99) [v,.func (.func 158) #[] #[pt b1 0]] h K:=by
 obtain⟨pa,pc,rfl,_⟩:=id r
 refine F99 rfl ?_
 refine wk ?_
 refine aP (fun m fr' h''=>∃ k:Nat,k≤l.length∧m=l.length-k∧aw h.n h h''∧fr'.get 8=some (iv k)∧(∀ j (hj:j<l.length),j<k→l[j].id≠n)) l.length ?_ ah ?_
 ·exact⟨0,ah,ah,aw.refl _ _,aA,fun j _ hj=>ah⟩
 rintro m fr4 h2 ⟨k,hk,rfl,X,f8,hp⟩ hag
 have n2:=X.n
 by_cases aT:k<l.length
 ·obtain⟨i,o,rfl,hi,hc⟩:=(r.ext (X.mono hB)).at_ aT;have ww:=mW @hc;refine wk ?_;refine I0 (n:=n) ah (aD X l1 c1) fun h3 X3=>?_;have XX:=X.trans (X3.mono n2);unfold Nu;by_cases hl:l[k].id=n;·rw[decide_eq_true hl];refine wk ?_;exact hK k aT _ XX hl
  ·rw[decide_eq_false hl];refine wk ?_;exact⟨l.length-(k+1),ah,k+1,ah,rfl,XX,by simp[T.aj,bC (show k≤4611686018427387904 by omega)],fun j hj hjk=>by
    by_cases e:j=k;·subst e;exact hl
    ·exact hp j hj ah⟩
 ·obtain⟨y,hy,e⟩:=hm;obtain⟨j,hj,rfl⟩:=eU hy;exact absurd e (hp j hj ah)
theorem MF {a:Ad}{V:VD}{h:ak}{M:MD}{x:KD}{id:Int}{K:Value→ak→Prop}(s:St a V h M) (c:ud M.ax M.cw) (hl:M.ax.length≤10000) (hx:x∈M.ax) (hcm:M.cw<100000)
   (hK:∀ b h',aw h.n h h'→(b=true↔Ly M.ax id x)→K (.bool b) h'):cy env (.func 150) [mp a,.agg ⟨x.cells⟩,iv id] h K:=by
 unfold mp at *
 refine F150 rfl ?_
 have X1:aw h.n h (ai h (.cells x.cells 135 true)):=br
 have g1:(ai h (.cells x.cells 135 true)).b.get h.n=some (.cells x.cells 135 true):=az _ _
 have n1:(ai h (.cells x.cells 135 true)).n=h.n+1:=rfl
 refine wk ?_
 generalize ai h (.cells x.cells 135 true)=h1 at X1 g1 n1 ⊢
 obtain⟨nx,hxn,hx0,hxc⟩:=c.pos x hx
 refine aP (fun m fr' h''=>∃ y:KD,y∈M.ax∧m=y.id.toNat∧h''.b.get h.n=some (.cells y.cells 135 true)∧aw h.n h h''∧h.n<h''.n∧(Ly M.ax id x↔Ly M.ax id y)) nx ?_ ah ?_
 · exact⟨x,hx,ah,g1,X1,ah,Iff.rfl⟩
 rintro m fr2 h2 ⟨y,hy,rfl,g2,X2,n2,hu⟩ hag
 have q0:fr2.get 0=some (pt a.m 0):=(hag 0 rfl).trans aA
 have q2:fr2.get 2=some (iv id):=(hag 2 rfl).trans aA
 have q4:fr2.get 4=some (pt h.n 0):=(hag 4 rfl).trans aA
 have s2:=s.ext X2
 have c1:=ay (off:=1) n2 g2 rfl
 rcases c.up y hy with h0|⟨⟨ny,hny⟩,aT,z,hz,hzid⟩
 · rw[h0]at c1;refine wk ?_;refine hK _ _ X2 ⟨(fun e=>by cases e),fun u=>?_⟩;rcases hu.1 u with ⟨hh,_⟩|⟨hh,_,_,_⟩<;>exact absurd h0 hh
 · have hy0:y.ab≠0:=by obtain⟨nz,e,h,_⟩:=c.pos z hz;omega
   by_cases he:y.ab=id;· rw[he]at c1;have hid0:id≠0:=he▸hy0;refine wk ?_;exact hK _ _ X2 ⟨fun _=>hu.2 (.hit hy0 he),fun _=>rfl⟩
   · have hkc:=s2.ax;obtain⟨yy,cc,eV,_⟩:=hkc;have mD:=s2.mD;have rd:=s2.ax.rd;rw[eV]at mD rd;refine wk ?_;refine H7 rd a_ ah n2 c1 ⟨z,hz,hzid⟩ fun k hk h3 x3 hkid=>?_;have n3:=x3.n;obtain⟨i,o,rfl,hi,hc⟩:=(rd.ext x3).at_ hk;have g3:=(x3.get h.n n2).trans g2;have k23':=(s2.ext x3).mD;rw[eV]at k23';have ww:=mW @hc;refine wk ?_;refine aM (off:=0) (cs':=M.ax[k].cells) g3 rfl rfl rfl rfl ao ?_;obtain⟨h4,eh4⟩:=gz (aO h3 h.n (.cells M.ax[k].cells 135 true));have g4:=rS eh4;have X4:aw h.n h h4:=eh4▸((X2.jI x3).trans (aw.set _ a_));have n4:=sW eh4;rw[eh4];refine wk ?_;have hkm:M.ax[k]∈M.ax:=bG hk;have hzk:M.ax[k]=z:=J3 c.uniq hkm hz (by rw[hkid,hzid]);obtain⟨nk,hnk,_,_⟩:=c.pos _ hkm;obtain⟨nyi,hnyi,_,_⟩:=c.pos _ hy;refine⟨M.ax[k].id.toNat,by rw[hkid];omega,M.ax[k],hkm,rfl,g4,X4,ah,hu.trans ⟨fun u=>?_,fun u=>.up hy0 hkm hkid u⟩⟩;cases u with
     | hit _ e=>exact absurd e he
     | @up _ w _ hw ew u =>have:w=M.ax[k]:=J3 c.uniq hw hkm (by rw[ew,hkid]);rw[← this];exact u
theorem Ph {B n:Nat}{h:ak}{e:TypeId}{v:Value}{cs:List Value}(o:bT B h e v n cs) {j:Nat}(bj:fT v j):B≤j:=by
 cases o with
 | nil=>obtain⟨x,e,_⟩:=aU.1 bj;cases e
 | emp j hj=>obtain⟨x,e,_,h⟩:=aU.1 bj;exact absurd rfl h
 | row j n cs h1 h2' h3=>obtain⟨x,e,rfl,_⟩:=aU.1 bj;cases e;exact h1
theorem HP {a:Ad}{V:VD}{h:ak}{M:MD}{i:Nat}{K:Value→ak→Prop}(s:St a V h M) (c:ud M.ax M.cw) (hi:i<M.ax.length) (hl:M.ax.length≤10000) (hcm:M.cw<100000)
   (hK:∀ (n:Int) (l:List KD) V' h',l.Sublist M.ax→(∀ x∈l,¬Ly M.ax M.ax[i].id x)→(∀ x∈M.ax,¬Ly M.ax M.ax[i].id x→x∈l)→St a V' h' { M with ax:=l }→Kp (own a V) (own a V') h h'→K (iv n) h'):cy env (.func 133) [mp a,iv i] h K:=by
 obtain⟨b,cc,eV,hb,ob,mD,cA,cN⟩:=mg s hi
 have c0:=dk cA (j:=0) (v:=iv M.ax[i].id) rfl
 simp only[cj]at c0
 unfold mp at *
 refine F133 rfl ?_
 have rd:=s.ax.rd
 rw[eV]at rd
 have ww:=mW @mD
 refine wk ?_
 refine aP (fun m fr' h''=>∃ (k:Nat) (L:List KD) (lv:Value),k≤M.ax.length∧m=M.ax.length-k∧fr'.get 23=some (iv k)∧fr'.get 6=some lv∧bT h.n h'' 135 lv L.length (L.map KD.cells).flatten∧L.length≤k∧L.Sublist (M.ax.take k)∧(∀ x∈L,¬Ly M.ax M.ax[i].id x)∧(∀ x∈M.ax.take k,¬Ly M.ax M.ax[i].id x→x∈L)∧aw h.n h h'') M.ax.length ?_ ah ?_
 · exact⟨0,[],nS,ah,ah,aA,aA,bT.nil,an,an,an,an,aw.refl _ _⟩
 rintro m fr2 h2 ⟨k,L,lv,hk,rfl,f23,f6,o2,hLk,hLs,hL1,hL2,X2⟩ hag
 have g0:fr2.get 0=some (pt a.m 0):=(hag 0 rfl).trans (by simp[T.aj,bY])
 have n2:=X2.n
 by_cases aT:k<M.ax.length
 · have wn:=rU k;obtain⟨i',o,e',hi',hc⟩:=(rd.ext X2).at_ aT;cases e';have hts:M.ax.take (k+1)=M.ax.take k++[M.ax[k]]:=kx aT;simp only[cb]at hc;have X3:aw h2.n h2 (ai h2 (.cells M.ax[k].cells 135 true)):=br;have d3:av (ai h2 (.cells M.ax[k].cells 135 true)) ⟨h2.n,0,none⟩ 8=some M.ax[k].cells:=aV rfl;have n3:(ai h2 (.cells M.ax[k].cells 135 true)).n=h2.n+1:=rfl;have ww:=ww.a @hc;refine wk ?_;generalize ai h2 (.cells M.ax[k].cells 135 true)=h3 at X3 d3 n3 ⊢;have X23:=X2.jI X3;refine MF (s.ext X23) c hl (bG aT) hcm fun b h4 x4 hb4=>?_;have n4:=x4.n;have d4:=aG x4 ah d3;cases b with
   | true =>
     have hu:=hb4.1 rfl;have ww:=ww.a @wn;refine wk ?_;refine⟨M.ax.length-(k+1),ah,k+1,L,lv,ah,rfl,aA,by simp[T.aj,f6],o2.ext ((X3.jI x4)) a_,ah,?_,hL1,fun x hx hn=>?_,X23.jI x4⟩;· rw[hts];exact hLs.trans (List.sublist_append_left _ _)
     · rw[hts]at hx;rcases dV.1 hx with hx|hx;· exact hL2 x hx hn
       · rw[jC]at hx;rw[hx]at hn;exact absurd hu hn
   | false =>
     have hu:¬Ly M.ax M.ax[i].id M.ax[k]:=fun u=>by have:=hb4.2 u;cases this
     refine wk ?_;refine yv (new:=M.ax[k].cells) (o2.ext ((X3.jI x4)) a_) ah (KD.len L) ah rfl rfl ao rfl fun v5 h5 o5 x5=>?_;have n5:=x5.n;have ww:=ww.a @wn;refine wk ?_;refine⟨M.ax.length-(k+1),ah,k+1,L++[M.ax[k]],v5,ah,rfl,aA,aA,?_,by simp;omega,?_,fun x hx=>?_,fun x hx hn=>?_,(X23.jI x4).trans x5⟩;· rw[fo,jA,dA];simpa using o5
     · rw[hts];exact hLs.append (List.Sublist.refl _)
     · rcases dV.1 hx with hx|hx;· exact hL1 x hx
       · rw[jC]at hx;rw[hx];exact hu
     · rw[hts]at hx;rcases dV.1 hx with hx|hx;· exact jw _ (hL2 x hx hn)
       · exact qg _ hx
 · obtain rfl:k=M.ax.length:=ah;rw[iF]at hLs hL2;have s2:=s.ext X2;have k23':=s2.mD;rw[eV]at k23';have kc:Kc h2 lv L:=by
     generalize hcs:(L.map KD.cells).flatten=cs at o2;generalize hnn:L.length=nn at o2;cases o2 with
     | nil=>exact⟨none,0,by rw[hnn],ah,ao,fun _=>rfl,(fun x e=>by cases e),fun e=>absurd (dq.1 hnn) e⟩
     | emp j hj=>exact⟨some ⟨j,0,none⟩,0,by rw[hnn],ah,ao,fun _=>rfl,(fun x e=>by cases e;exact hj),fun e=>absurd (dq.1 hnn) e⟩
     | row j n cs h1 h2' h3=>exact⟨some ⟨j,0,none⟩,bh,by rw[hnn],by unfold bh;omega,ao,(fun e=>by cases e),(fun x e=>by cases e;exact h2'),fun _=>⟨j,[],false,rfl,by rw[hcs,ei];exact h3⟩⟩
   have hbas:=tJ o2 s.lt;have hfr:∀ j,fT lv j→h.n≤j:=fun j bj=>Ph o2 bj;obtain⟨ly,lcc,rfl,_⟩:=id kc;refine wk ?_;refine yA (l:=L) s X2 kc (fun j bj=>.inr (hfr j bj)) (fun j bj=>(hbas.2 j bj).1) fun V3 h3 s3 k3 n3=>?_;refine wk ?_;exact hK _ L V3 h3 hLs hL1 hL2 s3 k3
def alive (M:MD) (x:KD):Prop:=if x.kind=1 then ∃ k,aB M.gs ⟨x.oi,x.og⟩=some k else if x.kind=2 then ∃ k,aB M.cl ⟨x.oi,x.og⟩=some k else ∃ k,aB M.sh ⟨x.oi,x.og⟩=some k
theorem AV {a:Ad}{V:VD}{h:ak}{M:MD}{x:KD}{K:Value→ak→Prop}(s:St a V h M) (hg:M.gs.length≤1000) (hc:M.cl.length≤1000) (hs:M.sh.length≤1000)
   (hK:∀ b h',aw h.n h h'→(b=true→alive M x)→K (.bool b) h'):cy env (.func 123) [mp a,.agg ⟨[iv x.kind,iv x.oi,uv x.og,.int .u8 x.ri]⟩] h K:=by
 unfold mp
 refine F123 rfl ?_
 have s1:=s.new (.cells [iv x.kind,iv x.oi,uv x.og,.int .u8 x.ri] 109 true)
 have X1:aw h.n h (ai h (.cells [iv x.kind,iv x.oi,uv x.og,.int .u8 x.ri] 109 true)):=br
 have g1:(ai h (.cells [iv x.kind,iv x.oi,uv x.og,.int .u8 x.ri] 109 true)).b.get h.n=some (.cells [iv x.kind,iv x.oi,uv x.og,.int .u8 x.ri] 109 true):=az _ _
 have n1:(ai h (.cells [iv x.kind,iv x.oi,uv x.og,.int .u8 x.ri] 109 true)).n=h.n+1:=rfl
 have c1:av (ai h (.cells [iv x.kind,iv x.oi,uv x.og,.int .u8 x.ri] 109 true)) ⟨h.n,1,none⟩ 2=some (RR.cells ⟨x.oi,x.og⟩):=aq ah g1 rfl rfl
 unfold alive at hK
 by_cases h1:x.kind=1
 · rw[if_pos h1]at hK;refine wk ?_;refine tQ s1 hg fun h2 x2=>?_;have n2:=x2.n;have X2:=X1.jI x2;cases hl:aB M.gs ⟨x.oi,x.og⟩ with
   | none =>unfold fC;have ww:=mW (aN @yI @yP);refine wk ?_;exact hK _ _ X2 fun e=>by cases e
   | some k =>unfold fC;have ww:=mW (aN @yI @yP);refine wk ?_;exact hK _ _ X2 fun _=>⟨k,hl⟩
 · rw[if_neg h1]at hK;by_cases h2:x.kind=2
   · rw[if_pos h2]at hK;refine wk ?_;refine j_ s1 hc fun h2 x2=>?_;have n2:=x2.n;have X2:=X1.jI x2;cases hl:aB M.cl ⟨x.oi,x.og⟩ with
     | none =>unfold fC;have ww:=mW (aN @JS @Kg);refine wk ?_;exact hK _ _ X2 fun e=>by cases e
     | some k =>unfold fC;have ww:=mW (aN @JS @Kg);refine wk ?_;exact hK _ _ X2 fun _=>⟨k,hl⟩
   · rw[if_neg h2]at hK;refine wk ?_;refine oA s1 hs fun h2 x2=>?_;have n2:=x2.n;have X2:=X1.jI x2;cases hl:aB M.sh ⟨x.oi,x.og⟩ with
     | none =>unfold fC;have ww:=mW (aN @yF @yC);refine wk ?_;exact hK _ _ X2 fun e=>by cases e
     | some k =>unfold fC;have ww:=mW (aN @yF @yC);refine wk ?_;exact hK _ _ X2 fun _=>⟨k,hl⟩
structure ND where
 arg:Nat
 kind:Int
 ri:Int
 loose:Bool
def ND.cells (x:ND):List Value:=[.int .i64 (x.arg:Int),.int .i64 x.kind,.int .u8 x.ri,.bool x.loose]
def cI (k:Int):List ND:=if k=5 then [⟨0,3,1,false⟩,⟨1,2,32,false⟩] else if k=6 then [⟨0,1,2,false⟩] else if k=7 then [⟨0,1,4,false⟩] else if k=8 then [⟨0,1,8,false⟩] else if k=9 then [⟨0,1,8,false⟩] else if k=10 then [⟨0,1,16,false⟩] else if k=11 then [⟨0,1,32,false⟩,⟨1,2,32,false⟩] else if k=12 then [⟨0,0,64,false⟩] else if k=13 then [⟨0,0,64,false⟩] else if k=14 then [⟨0,0,0,true⟩] else if k=15 then [⟨0,0,0,true⟩] else if k=16 then [⟨0,0,128,false⟩] else if k=17 then [⟨0,1,32,false⟩,⟨1,0,64,false⟩] else if k=18 then [⟨0,2,32,false⟩] else if k=19 then [⟨0,2,32,false⟩,⟨1,2,32,false⟩] else if k=20 then [⟨0,3,1,false⟩] else if k=21 then [⟨0,3,128,false⟩] else if k=22 then [⟨0,2,128,false⟩] else []
theorem Ks (k:Int):(cI k).length≤2∧∀ j (h:j<(cI k).length),(cI k)[j].arg=j:=by
 have key:∀ l:List ND,cI k=l→(decide (l.length≤2)&&decide (∀ j,j<3→(l[j]?).all (fun x=>decide (x.arg=j))=true))=true→(cI k).length≤2∧∀ j (h:j<(cI k).length),(cI k)[j].arg=j:=fun l e h=>by subst e;simp only[aZ,decide_eq_true_eq]at h;refine⟨h.1,fun j hj=>?_⟩;have:=h.2 j ah;rw[bw hj]at this;simpa using this
 by_cases h5:k=5;·exact key [⟨0,3,1,false⟩,⟨1,2,32,false⟩] (by subst h5;rfl) ao
 by_cases h6:k=6;·exact key [⟨0,1,2,false⟩] (by subst h6;rfl) ao
 by_cases h7:k=7;·exact key [⟨0,1,4,false⟩] (by subst h7;rfl) ao
 by_cases h8:k=8;·exact key [⟨0,1,8,false⟩] (by subst h8;rfl) ao
 by_cases h9:k=9;·exact key [⟨0,1,8,false⟩] (by subst h9;rfl) ao
 by_cases h10:k=10;·exact key [⟨0,1,16,false⟩] (by subst h10;rfl) ao
 by_cases h11:k=11;·exact key [⟨0,1,32,false⟩,⟨1,2,32,false⟩] (by subst h11;rfl) ao
 by_cases h12:k=12;·exact key [⟨0,0,64,false⟩] (by subst h12;rfl) ao
 by_cases h13:k=13;·exact key [⟨0,0,64,false⟩] (by subst h13;rfl) ao
 by_cases h14:k=14;·exact key [⟨0,0,0,true⟩] (by subst h14;rfl) ao
 by_cases h15:k=15;·exact key [⟨0,0,0,true⟩] (by subst h15;rfl) ao
 by_cases h16:k=16;·exact key [⟨0,0,128,false⟩] (by subst h16;rfl) ao
 by_cases h17:k=17;·exact key [⟨0,1,32,false⟩,⟨1,0,64,false⟩] (by subst h17;rfl) ao
 by_cases h18:k=18;·exact key [⟨0,2,32,false⟩] (by subst h18;rfl) ao
 by_cases h19:k=19;·exact key [⟨0,2,32,false⟩,⟨1,2,32,false⟩] (by subst h19;rfl) ao
 by_cases h20:k=20;·exact key [⟨0,3,1,false⟩] (by subst h20;rfl) ao
 by_cases h21:k=21;·exact key [⟨0,3,128,false⟩] (by subst h21;rfl) ao
 by_cases h22:k=22;·exact key [⟨0,2,128,false⟩] (by subst h22;rfl) ao
 exact key [] (by unfold cI;simp only[h5,h6,h7,h8,h9,h10,h11,h12,h13,h14,h15,h16,h17,h18,h19,h20,h21,h22,if_false]) ao
theorem MA {k:Int}{O:Nat→Prop}{h:ak}{K:Value→ak→Prop}(hO:∀ j,O j→j<h.n) (hK:∀ v h',aw h.n h h'→RS O 4 h' v ((cI k).map ND.cells)→K v h'):cy env (.func 122) [iv k] h K:=by
 have lit:∀ (l:List ND),l≠[]→l.length≤2→RS O 4 (ai h (.cells (l.map ND.cells).flatten 252 true)) (.slice (some ⟨h.n,0,none⟩) l.length l.length) (l.map ND.cells):=fun l hl hl2 =>
   ⟨⟨_,_,by rw[aI],by rw[aI];exact aQ _,fun i hi=>⟨h.n,0,rfl,cK _,by
     rw[aI]at hi;rw[cb,dr];exact dC (j:=0) (n:=4) (sz:=4) (f:=ND.cells) (az _ _) (cK _) (fun _=>rfl) hi ao⟩⟩,
    .fresh (N:=h.n) (by unfold bh;omega) (fun e=>by cases e) hO (fun x e=>by cases e;exact⟨aQ _,rfl⟩),fun j bj=>by obtain ⟨x,e,rfl,_⟩:=aU.1 bj;cases e;exact⟨cK _,_,_,_,az _ _,ao⟩⟩
 refine F122 rfl ?_;by_cases h5:k=5;· subst h5;refine wk ?_;refine lN (l:=[iv 0,iv 3,.int .u8 1,.bool false,iv 1,iv 2,.int .u8 32,.bool false]) rfl ?_;refine wk ?_;exact hK _ _ br (lit [⟨0,3,1,false⟩,⟨1,2,32,false⟩] an an)
 by_cases h6:k=6;· subst h6;refine wk ?_;exact hK _ _ br (lit [⟨0,1,2,false⟩] an an)
 by_cases h7:k=7;· subst h7;refine wk ?_;exact hK _ _ br (lit [⟨0,1,4,false⟩] an an)
 by_cases h8:k=8;· subst h8;refine wk ?_;exact hK _ _ br (lit [⟨0,1,8,false⟩] an an)
 by_cases h9:k=9;· subst h9;refine wk ?_;exact hK _ _ br (lit [⟨0,1,8,false⟩] an an)
 by_cases h10:k=10;· subst h10;refine wk ?_;exact hK _ _ br (lit [⟨0,1,16,false⟩] an an)
 by_cases h11:k=11;· subst h11;refine wk ?_;refine lN (l:=[iv 0,iv 1,.int .u8 32,.bool false,iv 1,iv 2,.int .u8 32,.bool false]) rfl ?_;refine wk ?_;exact hK _ _ br (lit [⟨0,1,32,false⟩,⟨1,2,32,false⟩] an an)
 by_cases h12:k=12;· subst h12;refine wk ?_;exact hK _ _ br (lit [⟨0,0,64,false⟩] an an)
 by_cases h13:k=13;· subst h13;refine wk ?_;exact hK _ _ br (lit [⟨0,0,64,false⟩] an an)
 by_cases h14:k=14;· subst h14;refine wk ?_;exact hK _ _ br (lit [⟨0,0,0,true⟩] an an)
 by_cases h15:k=15;· subst h15;refine wk ?_;exact hK _ _ br (lit [⟨0,0,0,true⟩] an an)
 by_cases h16:k=16;· subst h16;refine wk ?_;exact hK _ _ br (lit [⟨0,0,128,false⟩] an an)
 by_cases h17:k=17;· subst h17;refine wk ?_;refine lN (l:=[iv 0,iv 1,.int .u8 32,.bool false,iv 1,iv 0,.int .u8 64,.bool false]) rfl ?_;refine wk ?_;exact hK _ _ br (lit [⟨0,1,32,false⟩,⟨1,0,64,false⟩] an an)
 by_cases h18:k=18;· subst h18;refine wk ?_;exact hK _ _ br (lit [⟨0,2,32,false⟩] an an)
 by_cases h19:k=19;· subst h19;refine wk ?_;refine lN (l:=[iv 0,iv 2,.int .u8 32,.bool false,iv 1,iv 2,.int .u8 32,.bool false]) rfl ?_;refine wk ?_;exact hK _ _ br (lit [⟨0,2,32,false⟩,⟨1,2,32,false⟩] an an)
 by_cases h20:k=20;· subst h20;refine wk ?_;exact hK _ _ br (lit [⟨0,3,1,false⟩] an an)
 by_cases h21:k=21;· subst h21;refine wk ?_;exact hK _ _ br (lit [⟨0,3,128,false⟩] an an)
 by_cases h22:k=22;· subst h22;refine wk ?_;exact hK _ _ br (lit [⟨0,2,128,false⟩] an an)
 have e:cI k=[]:=by unfold cI;simp only[h5,h6,h7,h8,h9,h10,h11,h12,h13,h14,h15,h16,h17,h18,h19,h20,h21,h22,if_false]
 rw[e]at hK;refine wk ?_;exact hK _ h (aw.refl _ _) ⟨⟨none,0,rfl,aQ _,fun i hi=>by simp at hi⟩,⟨_,_,_,rfl,ao,fun _=>rfl,(fun j bj=>by obtain ⟨x,e,_⟩:=aU.1 bj;cases e),(fun x e=>by cases e)⟩,fun j bj=>by obtain ⟨x,e,_⟩:=aU.1 bj;cases e⟩
end Go.Proofs.YthjlppdnlahhoaaGreat
