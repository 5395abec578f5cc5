/- THE PLAIN MACHINE's FUNCTIONS, walked (13). Conditions: none beyond each theorem's own. -/
import Derived.Test.YthjlppdnlahhoaaGreatP12
import Derived.Test.YthjlppdnlahhoaaGreatP6
import Derived.Test.YthjlppdnlahhoaaGreatP10
set_option linter.unusedSimpArgs false
set_option linter.unusedVariables false
namespace Go.Proofs.YthjlppdnlahhoaaGreat
open Go.Ev
open Pl
set_option maxRecDepth 100000
theorem tP.bM {sh sh':List (Ob SD)}(P:RR→Prop) (hn:∀ r,P r→aB sh r=none→aB sh' r=none) (hs:∀ r k (hk:k<sh.length),P r→aB sh r=some k→aB sh' r=some k∧(∃ hk':k<sh'.length,sh'[k].x.par=sh[k].x.par)∧P sh[k].x.par)
   {r:RR}{l:List RR}(c:tP sh r l):P r→tP sh' r l:=by
 induction c with
 | nil h=>exact fun p=>.nil (hn _ p h)
 | @cons r k l h hk _ ih =>
   intro p
   obtain⟨h1,⟨hk',h2⟩,h3⟩:=hs r k hk p h
   exact .cons h1 hk' (by rw[h2];exact ih h3)
theorem xd {sh:List (Ob SD)}{n:Nat}(hg:nT n sh) {r:RR}(h:r.g=0):aB sh r=none:=by
 cases q:aB sh r with
 | none=>rfl
 | some k =>
   obtain⟨h1,_,_,h4⟩:=aH.1 q
   have:=(hg k h1).1
   omega
theorem Inv.carve {n:Nat}{M:MD}{i d:Nat}{fl:List Nat}{x:SD}(I:Inv n M) (hf:M.fs=fl++[i]) (hi:i<M.sh.length) (hp:aB M.sh x.par=some d) (hx:x.own=0) (hper:x.ee≠0):Inv (n+1) { M with fs:=fl,sh:=M.sh.set i ⟨M.sh[i].gen,true,x⟩ }:=by
 have frk:=I.S.fr;rw[hf]at frk;obtain⟨_,h0⟩:=frk.off i an;have lv:=Fj (y:=⟨M.sh[i].gen,true,x⟩) hi h0;have lv':∀ r k,aB M.sh r=some k→∃ k',aB (M.sh.set i ⟨M.sh[i].gen,true,x⟩) r=some k':=fun r k h=>⟨k,lv r k h⟩;have gen:nT n (M.sh.set i ⟨M.sh[i].gen,true,x⟩):=I.S.gen.set (I.S.gen i hi).1 (I.S.gen i hi).2;have bM:∀ {r:RR}{l:List RR},tP M.sh r l→(r.g=0∨∃ d,aB M.sh r=some d)→tP (M.sh.set i ⟨M.sh[i].gen,true,x⟩) r l:=fun c=>c.bM (fun r=>r.g=0∨∃ d,aB M.sh r=some d) (fun r p h=>by
     rcases p with p|⟨d,p⟩;· exact xd gen p
     · rw[h]at p;cases p) fun r k hk p h=>by
     obtain⟨_,hki,_⟩:=cE h;have hne:i≠k:=fun e=>by subst e;rw[h0]at hki;cases hki
     exact⟨lv r k h,⟨by simpa using hk,by rw[cV hne]⟩,I.S.par k hk hki⟩
 exact { I.mono (aL n) with
   q:=I.q.of rfl rfl rfl rfl
   sl:=by show (M.sh.set i _).length≤1000;rw[cS];exact I.sl
   S := {
     gen:=gen.mono (aL n)
     fr:=frk.pop
     ee:=fun k h hk=>by
       rw[cJ]at hk ⊢;split;· exact hper
       · rename_i e;rw[if_neg e]at hk;exact I.S.ee k (by simpa using h) hk
     ch:=fun k h hk=>by
       by_cases e:i=k;· subst e;obtain⟨hd,hdi,hde⟩:=cE hp;obtain⟨l,c,hl⟩:=I.chn hp;refine⟨⟨(i:Int),((M.sh.set i ⟨M.sh[i].gen,true,x⟩)[i].gen:Int)⟩::l,.cons (k:=i) (fh h hk) h ?_,by simp only[dn];omega⟩;simp only[cU];exact bM c (.inr ⟨d,hp⟩)
       · have hk2:k<M.sh.length:=by simpa using h
         have g:(M.sh.set i ⟨M.sh[i].gen,true,x⟩)[k]=M.sh[k]:=cV e _;rw[g]at hk ⊢;obtain⟨l,c,hl⟩:=I.S.ch k hk2 hk;exact⟨l,bM c (.inr ⟨k,fh hk2 hk⟩),ah⟩
     par:=fun k h hk=>by
       by_cases e:i=k;· subst e;simp only[cU];exact .inr (lv' _ _ hp)
       · have hk2:k<M.sh.length:=by simpa using h
         have g:(M.sh.set i ⟨M.sh[i].gen,true,x⟩)[k]=M.sh[k]:=cV e _;rw[g]at hk ⊢;rcases I.S.par k hk2 hk with q|⟨d,q⟩;· exact .inl q
         · exact .inr (lv' _ _ q) }
   G:=(I.G.of (.refl _) lv' fun r k h=>⟨k,h⟩).mono (aL n)
   T := {
     own:=fun j hj hji=>by
       have hj2:j<M.sh.length:=by have hj:j<(M.sh.set i ⟨M.sh[i].gen,true,x⟩).length:=hj;simpa using hj
       have hji:(M.sh.set i ⟨M.sh[i].gen,true,x⟩)[j].is=true:=hji;show (M.sh.set i ⟨M.sh[i].gen,true,x⟩)[j].x.own=((M.gs.countP (oP ⟨(j:Int),((M.sh.set i ⟨M.sh[i].gen,true,x⟩)[j].gen:Int)⟩):Nat):Int);by_cases e:i=j
       · subst e;simp only[cU,hx];have:M.gs.countP (oP ⟨(i:Int),(M.sh[i].gen:Int)⟩)=0:=tq.2 fun o ho hon=>by obtain⟨g,hg,rfl⟩:=eU ho;simp only[oP,aZ,decide_eq_true_eq]at hon;obtain⟨j,hj⟩:=(I.G.live g hg hon.1).gG;rw[hon.2]at hj;obtain⟨q1,q2,q3,_⟩:=aH.1 hj;simp only at q2;have:i=j:=ah;subst this;rw[h0]at q3;cases q3
         rw[this];rfl
       · rw[cV e]at hji ⊢;exact I.T.own j hj2 hji
     dH:=I.T.dH } }
theorem B9 {α:Type}{l:List (Ob α)}{k:Nat}{y:Ob α}(hy:y.is=false):∀ r d,d≠k→aB l r=some d→aB (l.set k y) r=some d:=fun r d hd h=>by
 obtain⟨h1,h2,h3,h4⟩:=aH.1 h;refine aH.2 ⟨by simpa using h1,h2,?_,?_⟩;·rw[cV (bV hd)];exact h3
 ·rw[cV (bV hd)];exact h4
theorem Inv.merge {n:Nat}{M:MD}{q:Nat}(I:Inv n M) (hq:q<M.sh.length) (hqi:M.sh[q].is=true) (h0:M.sh[q].x.own=0) (hc:∀ k (h:k<M.sh.length),M.sh[k].is=true→M.sh[k].x.par≠⟨(q:Int),(M.sh[q].gen:Int)⟩):Inv (n+1) { M with sh:=M.sh.set q ⟨M.sh[q].gen+1,false,SD.zero⟩,fs:=M.fs++[q] }:=by
 have gen:nT (n+1) (M.sh.set q ⟨M.sh[q].gen+1,false,SD.zero⟩):=(I.S.gen.mono (aL n)).set (Nat.le_add_left _ _) (by have:=(I.S.gen q hq).2;show M.sh[q].gen+1≤n+1+1;omega);have lv:=B9 (l:=M.sh) (k:=q) (y:=⟨M.sh[q].gen+1,false,SD.zero⟩) rfl;have nq:∀ k (h:k<M.sh.length),M.sh[k].is=true→M.sh[k].x.par.g=0∨∃ d,d≠q∧aB M.sh M.sh[k].x.par=some d:=fun k h hi=>by
   rcases I.S.par k h hi with e|⟨d,hd⟩;· exact .inl e
   · refine .inr ⟨d,fun e=>?_,hd⟩;obtain⟨_,_,he⟩:=cE hd;subst e;exact hc k h hi he
 have bM:∀ {r:RR}{l:List RR},tP M.sh r l→(r.g=0∨∃ d,d≠q∧aB M.sh r=some d)→tP (M.sh.set q ⟨M.sh[q].gen+1,false,SD.zero⟩) r l:=fun c=>c.bM (fun r=>r.g=0∨∃ d,d≠q∧aB M.sh r=some d) (fun r p h=>by
     rcases p with p|⟨d,_,p⟩;· exact xd gen p
     · rw[h]at p;cases p) fun r k hk p h=>by
     obtain⟨_,hki,_⟩:=cE h;have hne:k≠q:=by
       rcases p with p|⟨d,hd,p⟩;· rw[xd I.S.gen p]at h;cases h
       · rw[h]at p;cases p;exact hd
     exact⟨lv r k hne h,⟨by simpa using hk,by rw[cV (bV hne)]⟩,nq k hk hki⟩
 have other:∀ k (h:k<(M.sh.set q ⟨M.sh[q].gen+1,false,SD.zero⟩).length),(M.sh.set q ⟨M.sh[q].gen+1,false,SD.zero⟩)[k].is=true→k≠q∧∃ h':k<M.sh.length,(M.sh.set q ⟨M.sh[q].gen+1,false,SD.zero⟩)[k]=M.sh[k]∧M.sh[k].is=true:=fun k h hi=>by
   have hne:k≠q:=fun e=>by subst e;simp at hi
   have h':k<M.sh.length:=by simpa using h
   have g:(M.sh.set q ⟨M.sh[q].gen+1,false,SD.zero⟩)[k]=M.sh[k]:=cV (bV hne) _;exact⟨hne,by simpa using h,g,g▸hi⟩
 have hz:M.gs.countP (oP ⟨(q:Int),(M.sh[q].gen:Int)⟩)=0:=by have:=I.T.own q hq hqi;omega
 exact { I.mono (aL n) with
   q:=I.q.of rfl rfl rfl rfl
   sl:=by show (M.sh.set q _).length≤1000;rw[cS];exact I.sl
   S := {
     gen:=gen
     fr:=I.S.fr.add hq hqi rfl
     ee:=fun k h hk=>by obtain⟨_,h',g,hi⟩:=other k h hk;rw[g];exact I.S.ee k h' hi
     ch:=fun k h hk=>by obtain⟨hne,h',g,hi⟩:=other k h hk;rw[g];obtain⟨l,c,hl⟩:=I.S.ch k h' hi;exact⟨l,bM c (.inr ⟨k,hne,fh h' hi⟩),ah⟩
     par:=fun k h hk=>by
       obtain⟨_,h',g,hi⟩:=other k h hk;rw[g];rcases nq k h' hi with e|⟨d,hd,e⟩;· exact .inl e
       · exact .inr ⟨d,lv _ _ hd e⟩ }
   G := {
     gen:=I.G.gen.mono (aL n)
     fr:=I.G.fr
     jF:=I.G.jF
     live:=fun g hg hgi=>by have o:=I.G.live g hg hgi;obtain⟨d,hd⟩:=o.gG;refine⟨⟨d,lv _ _ (fun e=>?_) hd⟩,o.ctx,o.prog,o.yn⟩;subst e;obtain⟨_,_,he⟩:=cE hd;exact absurd (by simp[oP,he,hgi]) (tq.1 hz _ (bG hg)) }
   T := {
     own:=fun j hj hji=>by obtain⟨_,h',g,hi⟩:=other j hj hji;have hj:j<(M.sh.set q ⟨M.sh[q].gen+1,false,SD.zero⟩).length:=hj;show (M.sh.set q ⟨M.sh[q].gen+1,false,SD.zero⟩)[j].x.own=((M.gs.countP (oP ⟨(j:Int),((M.sh.set q ⟨M.sh[q].gen+1,false,SD.zero⟩)[j].gen:Int)⟩):Nat):Int);rw[g];exact I.T.own j h' hi
     dH:=I.T.dH } }
theorem Inv.dropC {n:Nat}{M:MD}{q:Nat}{y:XD}(I:Inv n M) (hq:q<M.cl.length) (hqi:M.cl[q].is=true) (h0:M.cl[q].x.dH=0) (hy:y.ref.length≤16):Inv (n+1) { M with cl:=M.cl.set q ⟨M.cl[q].gen+1,false,y⟩,fc:=M.fc++[q] }:=by
 have gen:nT (n+1) (M.cl.set q ⟨M.cl[q].gen+1,false,y⟩):=(I.C.gen.mono (aL n)).set (Nat.le_add_left _ _) (by have:=(I.C.gen q hq).2;show M.cl[q].gen+1≤n+1+1;omega);have lv:=B9 (l:=M.cl) (k:=q) (y:=⟨M.cl[q].gen+1,false,y⟩) rfl;have other:∀ k (h:k<(M.cl.set q ⟨M.cl[q].gen+1,false,y⟩).length),(M.cl.set q ⟨M.cl[q].gen+1,false,y⟩)[k].is=true→k≠q∧∃ h':k<M.cl.length,(M.cl.set q ⟨M.cl[q].gen+1,false,y⟩)[k]=M.cl[k]∧M.cl[k].is=true:=fun k h hi=>by
   have hne:k≠q:=fun e=>by subst e;simp at hi
   have h':k<M.cl.length:=by simpa using h
   have g:(M.cl.set q ⟨M.cl[q].gen+1,false,y⟩)[k]=M.cl[k]:=cV (bV hne) _;exact⟨hne,by simpa using h,g,g▸hi⟩
 have hz:M.gs.countP (nZ ⟨(q:Int),(M.cl[q].gen:Int)⟩)=0:=by have:=I.T.dH q hq hqi;omega
 exact { I.mono (aL n) with
   q:=I.q.of rfl rfl rfl rfl
   cl:=by show (M.cl.set q _).length≤1000;rw[cS];exact I.cl
   C := {
     gen:=gen
     fr:=I.C.fr.add hq hqi rfl
     ref:=fun k h=>by
       rw[cJ];split;· exact hy
       · exact I.C.ref k (by simpa using h) }
   G := {
     gen:=I.G.gen.mono (aL n)
     fr:=I.G.fr
     jF:=I.G.jF
     live:=fun g hg hgi=>by have o:=I.G.live g hg hgi;obtain⟨d,hd⟩:=o.ctx;refine⟨o.gG,⟨d,lv _ _ (fun e=>?_) hd⟩,o.prog,o.yn⟩;subst e;obtain⟨_,_,he⟩:=cE hd;exact absurd (by simp[nZ,he,hgi]) (tq.1 hz _ (bG hg)) }
   T := {
     own:=I.T.own
     dH:=fun j hj hji=>by obtain⟨_,h',g,hi⟩:=other j hj hji;have hj:j<(M.cl.set q ⟨M.cl[q].gen+1,false,y⟩).length:=hj;show (M.cl.set q ⟨M.cl[q].gen+1,false,y⟩)[j].x.dH=((M.gs.countP (nZ ⟨(j:Int),((M.cl.set q ⟨M.cl[q].gen+1,false,y⟩)[j].gen:Int)⟩):Nat):Int);rw[g];exact I.T.dH j h' hi } }
theorem J9 {sh:List (Ob SD)}{r:RR}{x:SD}(hx:0≤x.own) (ho:∀ k (h:k<sh.length),sh[k].is=true→0≤sh[k].x.own∧sh[k].x.own≤16) (hl:sh.length≤1000):∀ k,k≤sh.length →
   0≤(iu sh r x k).below∧(iu sh r x k).below≤16*k∧0≤(iu sh r x k).kids∧(iu sh r x k).kids≤k∧(∀ j (h:j<sh.length),j<k→sh[j].is=true→Fl sh ⟨(j:Int),(sh[j].gen:Int)⟩ r=true→sh[j].x.own≤(iu sh r x k).below)∧(∀ j (h:j<sh.length),j<k→sh[j].is=true→sh[j].x.par=r→0<(iu sh r x k).kids)
 | 0,_=>⟨by simp[iu],by simp[iu],by simp[iu],by simp[iu],fun j _ h=>ah,fun j _ h=>ah⟩
 | k+1,hk=>by
   obtain⟨h1,h2,h3,h4,h5,h6⟩:=J9 (r:=r) hx ho hl k ah;have hk':k<sh.length:=ah;simp only[iu,bw hk'];generalize iu sh r x k=D at h1 h2 h3 h4 h5 h6;by_cases hi:sh[k].is=true
   · obtain⟨o1,o2⟩:=ho k hk' hi;have w1:IntKind.wrap .i64 (D.below+sh[k].x.own)=D.below+sh[k].x.own:=wrap_i64 ah ah;have w2:IntKind.wrap .i64 (D.kids+1)=D.kids+1:=wrap_i64 ah ah;have e1:(t_ sh r k sh[k] D).below=if Fl sh ⟨(k:Int),(sh[k].gen:Int)⟩ r=true then D.below+sh[k].x.own else D.below:=by simp only[t_,hi,if_true,HM,Ir];split<;>split<;>simp_all
     have e2:(t_ sh r k sh[k] D).kids=if sh[k].x.par=r then D.kids+1 else D.kids:=by simp only[t_,hi,if_true,HM,Ir];split<;>split<;>simp_all
     rw[e1,e2];refine⟨by split<;>omega,by split<;>omega,by split<;>omega,by split<;>omega,fun j h hj hji hin=>?_,fun j h hj hji hp=>?_⟩
     · by_cases e:j=k;· subst e;rw[if_pos hin];omega
       · have:=h5 j h ah hji hin;split<;>omega
     · by_cases e:j=k;· subst e;rw[if_pos hp];omega
       · have:=h6 j h ah hji hp;split<;>omega
   · have e0:t_ sh r k sh[k] D=D:=by simp[t_,hi]
     rw[e0];refine⟨h1,ah,h3,ah,fun j h hj hji hin=>?_,fun j h hj hji hp=>?_⟩
     · by_cases e:j=k;· subst e;exact absurd hji hi
       · exact h5 j h ah hji hin
     · by_cases e:j=k;· subst e;exact absurd hji hi
       · exact h6 j h ah hji hp
theorem Inv.lone {n:Nat}{M:MD}{q:Nat}(I:Inv n M) (hq:q<M.sh.length) (hqi:M.sh[q].is=true) (hb:¬0<(iu M.sh ⟨(q:Int),(M.sh[q].gen:Int)⟩ M.sh[q].x M.sh.length).below) (hk:¬0<(iu M.sh ⟨(q:Int),(M.sh[q].gen:Int)⟩ M.sh[q].x M.sh.length).kids) :
  M.sh[q].x.own=0∧∀ k (h:k<M.sh.length),M.sh[k].is=true→M.sh[k].x.par≠⟨(q:Int),(M.sh[q].gen:Int)⟩:=by
 have ho:∀ k (h:k<M.sh.length),M.sh[k].is=true→0≤M.sh[k].x.own∧M.sh[k].x.own≤16:=fun k h hi=>by have:=I.T.own k h hi;have:=lX (p:=oP ⟨(k:Int),(M.sh[k].gen:Int)⟩) I.gl;omega
 obtain⟨h1,_,h3,_,h5,h6⟩:=J9 (r:=⟨(q:Int),(M.sh[q].gen:Int)⟩) (x:=M.sh[q].x) (ho q hq hqi).1 ho I.sl _ a_
 have hin:Fl M.sh ⟨(q:Int),(M.sh[q].gen:Int)⟩ ⟨(q:Int),(M.sh[q].gen:Int)⟩=true:=by
  obtain⟨l,c,_⟩:=I.S.ch q hq hqi;simp only[Fl,decide_eq_true_eq];refine⟨l,c,?_⟩;cases c with
  | nil h=>rw[fh hq hqi]at h;cases h
  | cons _ _ _=>simp
 have:=h5 q hq hq hqi hin
 have:=(ho q hq hqi).1
 exact⟨ah,fun k h hi e=>hk (h6 k h h hi e)⟩
set_option maxHeartbeats 4000000
structure Nx (n:Nat) (M M':MD):Prop where
 inv:Inv (n+1) M'
 cfg:M'.cfg=M.cfg
 now:M'.now=M.now
 aX:M'.aX=M.aX
 log:M'.log=M.log
 calls:M'.calls=M.calls
theorem Inv.gen {n:Nat}{M:MD}(I:Inv n M) (hn:n≤300) {k:Nat}(hk:k<M.gs.length):M.gs[k].gen<1000000:=by have:=(I.G.gen k hk).2;omega
theorem Inv.fgl {n:Nat}{M:MD}(I:Inv n M):M.fg.length≤1000:=by have:=I.G.fr.len;have:=I.gl;omega
theorem Inv.Iz {n:Nat}{M:MD}(I:Inv n M) (hn:n≤300):M.ax.length≤10000∧M.cw<100000:=by have:=I.kl;have:=I.cw;omega
theorem Ou {a:Ad}{V:VD}{h:ak}{M:MD}{n g:Nat}{c:Cj}{K:Value→ak→Prop}(s:St a V h M) (I:Inv n M) (hn:n≤300) (hg:g<M.gs.length) (hi:M.gs[g].is=true)
  (hK:∀ (e:Int) M' V' h',Nx n M M'→St a V' h' M'→Kp (own a V) (own a V') h h'→K (iv e) h'):cy env (.func 88) [mp a,iv g,.agg ⟨c.cells⟩] h K:=by
 obtain⟨kd,a0,a1,a2,a3,a4⟩:=c
 simp only[Cj.cells]
 have X1:aw h.n h (ai h (.cells [iv kd,uv a0,uv a1,uv a2,uv a3,uv a4] 43 true)):=br
 have g1:(ai h (.cells [iv kd,uv a0,uv a1,uv a2,uv a3,uv a4] 43 true)).b.get h.n=some (.cells [iv kd,uv a0,uv a1,uv a2,uv a3,uv a4] 43 true):=az _ _
 have n1:(ai h (.cells [iv kd,uv a0,uv a1,uv a2,uv a3,uv a4] 43 true)).n=h.n+1:=rfl
 have no:¬own a V h.n:=fun o=>dy _ (s.lt _ o)
 have s1:=s.ext X1
 unfold mp at *
 refine F88 rfl ?_
 have ck:=ay (off:=0) ah g1 rfl
 have c0:=ay (off:=1) ah g1 rfl
 have Sy:=s1.Sy
 have tl:=I.Wb
 have hgl:=I.gl
 have K1:Kp (own a V) (own a V) h (ai h (.cells [iv kd,uv a0,uv a1,uv a2,uv a3,uv a4] 43 true)):=Kp.ext X1
 have nx0:Nx n M M:=⟨I.mono (aL n),rfl,rfl,rfl,rfl,rfl⟩
 by_cases e1:kd=1
 ·subst e1;refine wk ?_;refine wE s1 I.q.sm ah hg ah fun gs all V2 h2 E ha s2 k2=>?_;refine wk ?_;exact hK _ _ V2 _ ⟨(I.off hn ⟨hg,hi⟩ E ha).mono (aL n),rfl,rfl,rfl,rfl,rfl⟩ s2 (K1.trans k2)
 by_cases e3:kd=3
 ·subst e3;refine wk ?_;refine qM s1 I.q.sm ah fun V2 h2 s2 k2=>?_;have M6:cellAt h2 (ad a.m 17)=some (.slice (some ⟨a.g,0,none⟩) M.gs.length M.gs.length):=s2.M6;refine wk ?_;refine lY s2 (k:=g) hg (j:=2) (y:={ M.gs[g]with x:={ M.gs[g].x with st:=3 } }) ah rfl rfl rfl rfl ao fun h3 s3 k3 n3=>?_;refine wk ?_;exact hK _ _ V2 _ ⟨((I.R_ hn ⟨hg,hi⟩).gs (gs:=M.gs.set g { M.gs[g]with x:={ M.gs[g].x with st:=3 } }) (oZ.set hg rfl rfl rfl rfl rfl (fun h=>h))).mono (aL n),rfl,rfl,rfl,rfl,rfl⟩ s3 (K1.trans (k2.trans k3))
 by_cases e4:kd=4
 ·subst e4;(repeat' (first|(with_reducible show gV _ (rg _ _) _ _ _;first|with_reducible refine Ef ?_)|(with_reducible show lW _ _ _;first|with_reducible refine CJ ?_|with_reducible refine CS ?_|with_reducible refine wN (fun _=>?_) (fun _=>?_))|(with_reducible show _∧_;first|with_reducible refine CU ?_|with_reducible refine CN ?_|with_reducible refine Ea ?_)|(with_reducible show jQ _ _ _ _ _;first|with_reducible refine C1 ?_)|(with_reducible show vX _ _ _ _ _ _ _;first|with_reducible refine C9 ?_)|(with_reducible show yb _ _ _ _;first|with_reducible refine Du ?_)|(with_reducible show lU _ _ _ _;first|with_reducible refine C0 ?_)|(with_reducible show eR _ _ _;first|with_reducible refine Dd ?_|with_reducible refine Ei ?_)|(with_reducible show de (cellAt _ _) _;first|with_reducible refine Cz ?_|with_reducible refine C_ ?_|with_reducible refine DZ ?_)|(with_reducible show de (av _ _ _) _;first|with_reducible refine BZ ?_|with_reducible refine D1 ?_)|simp -dsimp only[↓ww.o,↓WB,WP,WS,bE,Nat.reduceEqDiff,Nat.reduceAdd]|simp -dsimp only[↓WB,WP,WS,bE,Nat.reduceEqDiff,Nat.reduceAdd,ck,c0,MY,Sy]|(with_reducible show dJ _ _ _ _ _;refine DU ?_)|simp -dsimp (disch:=(first|with_reducible assumption|(with_reducible refine hag _ ?_;rfl)|(with_reducible show _<_;omega))) only [CP,DX,CI,D7]|simp -dsimp (disch:=(first|with_reducible assumption|(with_reducible refine hag _ ?_;rfl)|(with_reducible show _<_;omega))) only [Dz,cL,p_,List.getElem?_cons_zero,List.getElem?_cons_succ]|simp -dsimp (disch:=(first|with_reducible assumption|(with_reducible show _<_;omega)|(with_reducible show GetElem?.getElem? _ _=_;with_unfolding_all rfl)|(with_reducible show List.length _=_;with_unfolding_all rfl))) only [DM,qp]|simp -dsimp (disch:=(conv=>lhs;cbv)) only [Dl]));all_goals (first|exact hK _ M V _ nx0 s1 K1|skip)
  refine qM s1 I.q.sm ah fun V2 h2 s2 k2=>?_;have n2:=k2.n;have M6:cellAt h2 (ad a.m 17)=some (.slice (some ⟨a.g,0,none⟩) M.gs.length M.gs.length):=s2.M6;have k15a:cellAt h2 (ad a.m 15)=some (uv M.now):=s2.Sy;refine wk ?_;refine lY s2 (k:=g) hg (j:=2) (y:={ M.gs[g]with x:={ M.gs[g].x with st:=4 } }) ah rfl rfl rfl rfl ao fun h3 s3 k3 n3=>?_;have hg3:g<(M.gs.set g { M.gs[g]with x:={ M.gs[g].x with st:=4 } }).length:=by simpa using hg
  have k17a:cellAt h3 (ad a.m 17)=some (.slice (some ⟨a.g,0,none⟩) M.gs.length M.gs.length):=by have:=s3.M6;simp only[cS]at this;exact this
  have k15b:cellAt h3 (ad a.m 15)=some (uv M.now):=s3.Sy;refine wk ?_;refine lY s3 (k:=g) hg3 (j:=20) (y:={ M.gs[g]with x:={ M.gs[g].x with st:=4,til:=IntKind.wrap .u64 ((M.now:Int)+a0) } }) ah rfl rfl (by show fV (Ob.cells GD.cells ((M.gs.set g { M.gs[g]with x:={ M.gs[g].x with st:=4 } })[g]'hg3)) 20 _=_;rw[cU];rfl) rfl ao fun h4 s4 k4 n4=>?_;have k15c:cellAt h4 (ad a.m 15)=some (uv M.now):=s4.Sy;simp only[iD]at s4;refine wk ?_;refine Me s4 (by show (M.off g).tm.length<19;have:=(wy M.tm g).length_le;show (oX M.tm g).length<19;omega) fun tm V5 h5 p s5 k5=>?_;have n5:=k5.n;refine wk ?_;refine hK _ _ V5 _ ⟨Inv.mono (Inv.wake ((I.R_ hn ⟨hg,hi⟩).gs (gs:=M.gs.set g { M.gs[g]with x:={ M.gs[g].x with st:=4,til:=IntKind.wrap .u64 ((M.now:Int)+a0) } }) (oZ.set hg rfl rfl rfl rfl rfl (fun h=>h))) (g:=g) ⟨by simpa using hg,by simpa using hi⟩ (fun t ht=>Jp t ht) p) (aL n),rfl,rfl,rfl,rfl,rfl⟩ s5 (K1.trans (k2.trans (k3.trans (k4.trans k5))))
 ·refine wk ?_;refine pS s1 hg fun h2 x2=>?_;have n2:=x2.n;have s2:=s1.ext x2;obtain⟨d,hd⟩:=(I.G.live g hg hi).gG;obtain⟨j,hj⟩:=(I.G.live g hg hi).ctx;obtain⟨hdl,_⟩:=aH.1 hd;obtain⟨hjl,_⟩:=aH.1 hj;have cl:=I.Iz hn;refine wk ?_;refine Ge (r:=⟨(g:Int),(M.gs[g].gen:Int)⟩) s2 I.q.sm ah (fh hg hi) hg hd hdl hj hjl cl.1 I.K I.bP ah I.sl I.cl (I.gen hn hg) I.fgl fun ax V3 h3 c3 cl3 s3 k3=>?_;refine wk ?_;exact hK _ _ V3 _ ⟨I.kill hn hg hi hd hdl hj hjl c3 cl3,rfl,rfl,rfl,rfl,rfl⟩ s3 (K1.trans ((Kp.ext x2).trans k3))
structure ER where
 kind:Int
 p:Int
 iw:Int
 pick:Int
def ER.cells (x:ER):List Value:=[.int .i64 x.kind,.int .i64 x.p,.int .i64 x.iw,.int .i64 x.pick]
theorem uV (g x:Nat):∀ ps:List PD,dF (ps.map (dR g)) x=dF ps x
 | []=>rfl
 | p::ps=>by simp only[dT,dF,uV g x ps];rfl
theorem Inv.leave {n:Nat}{M:MD}{g:Nat}(I:Inv n M) (hr:dF M.ps g=none):Inv n (M.q (cO M.all M.ps g))∧dS (cO M.all M.ps g).1 (cO M.all M.ps g).2 g=0:=by
 obtain⟨q,ho⟩:=Gg I.q g;have e:my M.all M.ps g=cO M.all M.ps g:=by
  simp only[my];have:dF (cO M.all M.ps g).2 g=none:=by show dF (M.ps.map (dR g)) g=none;rw[uV];exact hr
  rw[this]
 have ho':∀ z,dS (cO M.all M.ps g).1 (cO M.all M.ps g).2 z=if z=g then 0 else dS M.all M.ps z:=fun z=>by rw[← e];exact ho z
 have q':nD (M.q (cO M.all M.ps g)):=nD.of (M:=M.off g) q rfl (by show (cO M.all M.ps g).1=(my M.all M.ps g).1;rw[e]) (by show (cO M.all M.ps g).2=(my M.all M.ps g).2;rw[e]) rfl;refine⟨I.of ⟨rfl,rfl,rfl,rfl,rfl,rfl,rfl,rfl,rfl,rfl,.refl _,.refl _,.refl _,by show (M.ps.map (dR g)).length=M.ps.length;simp,.refl _⟩ q' (fun z hz=>?_) I.C.ref,by rw[ho'];simp⟩;have hz:0<dS (cO M.all M.ps g).1 (cO M.all M.ps g).2 z:=hz;rw[ho']at hz;by_cases q:z=g;·rw[if_pos q]at hz;omega
 ·rw[if_neg q]at hz;exact I.lv z hz
theorem Ch {a:Ad}{V:VD}{h:ak}{M:MD}{n k b6 pp:Nat}{kd iw pk:Int}{fr:Go.Ev.Fr}{Q:Ex→Go.Ev.Fr→ak→Prop}(s:St a V h M) (I:Inv n M) (hn:n≤300) (hk:k<M.gs.length) (hi:M.gs[k].is=true) (hp:pp<M.ps.length)
   (g0:fr.get 0=some (mp a)) (g9:fr.get 9=some (iv k)) (g6:fr.get 6=some (pt b6 0)) (x6:h.b.get b6=some (.cells [iv kd,iv pp,iv iw,iv pk] 29 true)) (l6:b6<h.n) (no:¬own a V b6)
   (hQ:∀ fr' M' V' h',Nx n M M'→St a V' h' M'→Kp (own a V) (own a V') h h'→Q .normal fr' h'):Hk.wp env 153 none fr h Q:=by
 unfold mp at *
 have tl:=I.Wb
 have hgl:=I.gl
 have ww:=mW W90
 refine wk ?_
 refine Cf s I.q.sm ah hk ah fun b gs V1 h1 E s1 k1=>?_
 have n1:=k1.n
 have I1:Inv n { M.off k with gs:=gs }:=I.off hn ⟨hk,hi⟩ (all:=(M.off k).all) E (.inl rfl)
 cases b with
 | false =>
   refine wk ?_
   exact hQ _ _ V1 h1 ⟨I1.mono (aL n),rfl,rfl,rfl,rfl,rfl⟩ s1 k1
 | true =>
   have y6:=(k1.get b6 l6 no).trans x6
   refine wk ?_
   have hk1:k<gs.length:=by rw[E.len];exact hk
   refine yE s1 I1.q.sm hk1 (I1.G.jF k hk1) (by show pp<(M.off k).ps.length;exact(tK (all:=M.all) (ps:=M.ps) (g:=k)).1▸hp) fun x V2 h2 R s2 k2=>?_
   refine wk ?_
   exact hQ _ _ V2 h2 ⟨(I1.put hk1 ((E.is k hk1 hk).trans hi) (by have:=(Gg I.q k).2 k;simpa using this) R).mono (aL n),rfl,rfl,rfl,rfl,rfl⟩ s2 (k1.trans k2)
end Go.Proofs.YthjlppdnlahhoaaGreat
