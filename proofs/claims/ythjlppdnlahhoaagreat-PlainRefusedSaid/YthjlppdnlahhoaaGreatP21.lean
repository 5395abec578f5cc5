/- THE PLAIN MACHINE's FUNCTIONS, walked (21). Conditions: none beyond each theorem's own. -/
import Derived.Test.YthjlppdnlahhoaaGreatP20
set_option linter.unusedSimpArgs false
set_option linter.unusedVariables false
namespace Go.Proofs.YthjlppdnlahhoaaGreat
open Go.Ev
open Pl
set_option maxRecDepth 100000
set_option linter.defProp false
def Qx:=(aN (aN @tL @tG) (aN @pQ @pM))
def Qu:=(aN (aN @tL @tG) (aN @pQ @pJ))
def Qe:=(aN (aN @tL @tG) (aN @pM @pJ))
def WN:=(aN (aN @tL @pQ) (aN @pM @pJ))
def Ti:=(aN (aN @tG @pQ) (aN @pM @pJ))
def V51_5:=(aN (aN (aN @tL @tG) @pQ) (aN @pM @pJ))
set_option maxHeartbeats 4000000
def ba {α:Type}(f:α→List Value) (k:Nat) (l:List α):List (List Value):=(l.take k).map f
theorem tR {α:Type}{f:α→List Value}{k:Nat}{l:List α}(hk:k<l.length):ba f k l++[f l[k]]=ba f (k+1) l:=by simp only[ba];rw[kx hk,fo];rfl
theorem mS {α:Type}{f:α→List Value}{k:Nat}{l:List α}(hk:k≤l.length):(ba f k l).length=k:=by simp[ba];omega
theorem nQ {α:Type}{f:α→List Value}{k sz:Nat}{l:List α}(hf:∀ x,(f x).length=sz):∀ r∈ba f k l,r.length=sz:=fun r hr=>by obtain⟨x,_,rfl⟩:=bD.1 hr;exact hf x
def dh (p:PD):List Value:=[.int .i64 (Qy p.runs)]
def dK (p:PD):List Value:=[.int .i64 (Qy p.next)]
def hG (p:PD):List Value:=[.int .i64 p.left]
def gJ (p:PD):List Value:=[.int .u64 p.turns]
def da (v:Value):List Value:=[v]
structure LJ (M:MD) (h0 h:ak) (b:Nat) (k:Nat) (v1 v2 v3 v4 v5:Value) (k1 k2 k3 k4 k5:Nat) (rvs:List Value):Prop where
 L:LI h0.n h b 57 [] [v1,v2,v3,v4,v5] [nS] [3,3,53,3,22] [ba dh k1 M.ps,ba dK k2 M.ps,rvs.map da,ba hG k4 M.ps,ba gJ k5 M.ps]
 X:aw h0.n h0 h
 rl:rvs.length=k3
 ri:∀ i (h1:i<rvs.length) (h2:i<M.ps.length),RI (Et b h0.n [v1,v2,v3,v4,v5]) h rvs[i] M.ps[i].ring
theorem pf {B:Nat}{h:ak}{e:TypeId}{v:Value}{rows:List (List Value)}(g:GR B h e v rows):(bt 50 v v=true)=True:=by
 rcases g with ⟨rfl,_⟩|⟨i,rfl,_⟩;·exact At
 ·exact Eb
theorem Ht {a:Ad}{V:VD}{h:ak}{M:MD}{K:Value→ak→Prop}(s:St a V h M) (q8:M.ps.length≤8) (hq:Sm M)
   (hK:∀ (v1 v2 v3 v4 v5 v6:Value) (rvs:List Value) (O:Nat→Prop) h',(∀ j,j<h.n→O j)→aw h.n h h'→GR h.n h' 3 v1 (ba dh M.ps.length M.ps)→GR h.n h' 3 v2 (ba dK M.ps.length M.ps)→GR h.n h' 53 v3 (rvs.map da)→GR h.n h' 3 v4 (ba hG M.ps.length M.ps)→GR h.n h' 22 v5 (ba gJ M.ps.length M.ps)→rvs.length=M.ps.length→(∀ i (h1:i<rvs.length) (h2:i<M.ps.length),RI O h' rvs[i] M.ps[i].ring)→RI O h' v6 M.all→K (.agg ⟨[v1,v2,v3,v4,v5,v6]⟩) h'):cy env (.func 51) [mp a] h K:=by
 unfold mp at *
 refine F51 rfl ?_
 have X1:aw h.n h (ai h (.cells [nS,nS,nS,nS,nS,nS] 57 true)):=br
 have g2:(ai h (.cells [nS,nS,nS,nS,nS,nS] 57 true)).b.get h.n=some (.cells [nS,nS,nS,nS,nS,nS] 57 true):=az _ _
 have n1:(ai h (.cells [nS,nS,nS,nS,nS,nS] 57 true)).n=h.n+1:=rfl
 have k25':=(s.ext X1).LV
 have ww:=mW W51
 refine wk ?_
 generalize ai h (.cells [nS,nS,nS,nS,nS,nS] 57 true)=h1 at X1 g2 n1 k25' ⊢
 have J1:LJ M h h1 h.n 0 (nS) (nS) (nS) (nS) (nS) 0 0 0 0 0 [] :=
   ⟨⟨g2,ah,aQ _,rfl,rfl,fun i h1 h2 h3=>by
     have:i=0∨i=1∨i=2∨i=3∨i=4:=by simp at h1;omega
     rcases this with rfl|rfl|rfl|rfl|rfl<;>exact .inl ⟨rfl,rfl⟩,fun i k h1 h2 _ j r=>by
     have:i=0∨i=1∨i=2∨i=3∨i=4:=by simp at h1;omega
     obtain⟨_,r⟩:=r;rcases this with rfl|rfl|rfl|rfl|rfl<;>cases r⟩,X1,rfl,fun i h1=>absurd h1 (by simp)⟩
 clear X1 g2
 refine aP (fun m fr' h''=>∃ (q:Nat) (v1 v2 v3 v4 v5:Value) (rvs:List Value),q≤M.ps.length∧m=M.ps.length-q∧fr'.get 10=some (iv q)∧LJ M h h'' h.n q v1 v2 v3 v4 v5 q q q q q rvs) M.ps.length ?_ ah ?_
 · exact⟨0,_,_,_,_,_,[],ah,ah,aA,J1⟩
 clear J1
 rintro m fr5 h5 ⟨q,v1,v2,v3,v4,v5,rvs,hq',rfl,f10,J⟩ hag
 have s5:=s.ext J.X
 have n5:=J.X.n
 by_cases aT:q<M.ps.length
 · obtain⟨w',hv,ew,pr,_,_,_,_,_,crow⟩:=s.Gt aT;obtain⟨la1,lc1,le1,_⟩:=pr.ring.cut;obtain⟨la2,lc2,le2,_⟩:=pr.next.cut
   obtain⟨la3,lc3,le3,_⟩:=pr.runs.cut;have prg:=pr.ring;have pnx:=pr.next
   have prn:=pr.runs;rw[le1]at prg;rw[le2]at pnx;rw[le3]at prn;rw[le1,le2,le3]at crow;replace crow:=aG J.X (s.lt _ pO) crow;obtain⟨hr1,hr2,hr3⟩:=hq.row q aT;have lq0:(q:Int)<(M.ps.length:Int):=ah;have wq:=rU q;have ww:=mW (aN (aN Qx @crow) @lq0);refine wk ?_;obtain⟨h6,eh6⟩:=gz (ai h5 (.cells [.slice la1 M.ps[q].ring.length lc1,.slice la2 M.ps[q].next.length lc2,.slice la3 M.ps[q].runs.length lc3,iv M.ps[q].left,uv M.ps[q].turns] 113 true));have X6:=tW eh6;have g6:=Dj eh6;have n6:=qk eh6;rw[eh6];have L6:=J.L.ext X6;have R6:∀ i (h1:i<rvs.length) (h2:i<M.ps.length),RI (Et h.n h.n [v1,v2,v3,v4,v5]) h6 rvs[i] M.ps[i].ring:=fun i a c=>(J.ri i a c).kp (Kp.ext X6);have lb:=J.L.lt;have rl:=J.rl;have Y6:aw h.n h5 h6:=X6.mono n5;have o4:¬LO h.n [v1,v2,v3,v4,v5] h5.n:=fun o=>dy _ (J.L.lo o).2;have s6:=s5.ext X6;have rx0:=prn.r.ext (J.X.trans Y6);have lt0:h5.n<h6.n:=ah;have cv0:cellAt h6 (ad h.n 0)=some v1:=ay L6.lt L6.get rfl;have ww:=mW Qu;refine wk ?_;refine J6 rx0 ah ?_;have same_v0:(bt 50 v1 v1=true)=True:=pf (L6.gr 0 an an an);have ww:=ww.a @same_v0;refine wk ?_;have gi0:GR h.n h6 3 v1 (ba dh q M.ps):=(L6).gr 0 an an an;refine oO (sz:=1) gi0 (by have:=(Y6).n;omega) rfl (nQ fun _=>rfl) rfl rfl (by rw[mS ah];omega) ao fun ha0 ga0 hna0 hka0=>?_;have gb0:=(L6).Dh (i:=0) an (aw.refl _ _) hka0;have nv0:(ai h6 (.cells [iv (Qy M.ps[q].runs)] 3 true)).n=h6.n+1:=rfl;have gr0:=(hka0 h5.n (by have:=(Y6).n;omega) (fun r=>o4 (.inr ⟨0,an,r⟩))).trans g6;refine wk ?_;refine aM (off:=0) (cs':=[(.slice (some ⟨h6.n+1,0,none⟩) ((ba dh q M.ps).length+1) bh),v2,v3,v4,v5,nS]) gb0 rfl rfl rfl rfl ao ?_;obtain⟨La0,ka0,xa0⟩:=(L6).step (i:=0) an an an (aw.refl _ _) hna0 ga0 hka0 (w:=[(.slice (some ⟨h6.n+1,0,none⟩) ((ba dh q M.ps).length+1) bh),v2,v3,v4,v5,nS]) rfl;obtain⟨hb0,ehb0⟩:=gz (aO ha0 h.n (.cells [(.slice (some ⟨h6.n+1,0,none⟩) ((ba dh q M.ps).length+1) bh),v2,v3,v4,v5,nS] 57 true));have gt0:hb0.b.get h5.n=some (.cells [.slice la1 M.ps[q].ring.length lc1,.slice la2 M.ps[q].next.length lc2,.slice la3 M.ps[q].runs.length lc3,iv M.ps[q].left,uv M.ps[q].turns] 113 true):=ehb0▸((aC ah).trans gr0);have nn0:hb0.n=h6.n+2:=ehb0▸hna0;rw[ehb0];try rw[ehb0]at La0;try rw[ehb0]at ka0;try rw[ehb0]at xa0
   have Lb0:LI h.n hb0 h.n 57 [] [(.slice (some ⟨h6.n+1,0,none⟩) ((ba dh q M.ps).length+1) bh),v2,v3,v4,v5] [nS] [3,3,53,3,22] [ba dh (q+1) M.ps,ba dK q M.ps,rvs.map da,ba hG q M.ps,ba gJ q M.ps]:=by rw[← tR (f:=dh) aT];exact La0
   have Yb0:aw h.n h5 hb0:=(Y6).trans xa0;have Rb0:∀ i (h1:i<rvs.length) (h2:i<M.ps.length),RI (Et h.n h.n [(.slice (some ⟨h6.n+1,0,none⟩) ((ba dh q M.ps).length+1) bh),v2,v3,v4,v5]) hb0 rvs[i] M.ps[i].ring:=fun i a c=>(R6 i a c).kp ka0.KE;have oz0:¬LO h.n [(.slice (some ⟨h6.n+1,0,none⟩) ((ba dh q M.ps).length+1) bh),v2,v3,v4,v5] h5.n:=fun o=>o4 (ka0.own _ (by have:=(Y6).n;omega) o);have rx1:=pnx.r.ext (J.X.trans Yb0);have lt1:h5.n<hb0.n:=ah;have cv1:cellAt hb0 (ad h.n 1)=some v2:=ay Lb0.lt Lb0.get rfl;have ww:=mW Qe;refine wk ?_;refine J6 rx1 ah ?_;have same_v1:(bt 50 v2 v2=true)=True:=pf (Lb0.gr 1 an an an);have ww:=ww.a @same_v1;refine wk ?_;have gi1:GR h.n hb0 3 v2 (ba dK q M.ps):=(Lb0).gr 1 an an an;refine oO (sz:=1) gi1 (by have:=(Yb0).n;omega) rfl (nQ fun _=>rfl) rfl rfl (by rw[mS ah];omega) ao fun ha1 ga1 hna1 hka1=>?_;have gb1:=(Lb0).Dh (i:=1) an (aw.refl _ _) hka1;have nv1:(ai hb0 (.cells [iv (Qy M.ps[q].next)] 3 true)).n=hb0.n+1:=rfl;have gr1:=(hka1 h5.n (by have:=(Yb0).n;omega) (fun r=>oz0 (.inr ⟨1,an,r⟩))).trans gt0;refine wk ?_;refine aM (off:=1) (cs':=[(.slice (some ⟨h6.n+1,0,none⟩) ((ba dh q M.ps).length+1) bh),(.slice (some ⟨hb0.n+1,0,none⟩) ((ba dK q M.ps).length+1) bh),v3,v4,v5,nS]) gb1 rfl rfl rfl rfl ao ?_;obtain⟨La1,ka1,xa1⟩:=(Lb0).step (i:=1) an an an (aw.refl _ _) hna1 ga1 hka1 (w:=[(.slice (some ⟨h6.n+1,0,none⟩) ((ba dh q M.ps).length+1) bh),(.slice (some ⟨hb0.n+1,0,none⟩) ((ba dK q M.ps).length+1) bh),v3,v4,v5,nS]) rfl;obtain⟨hb1,ehb1⟩:=gz (aO ha1 h.n (.cells [(.slice (some ⟨h6.n+1,0,none⟩) ((ba dh q M.ps).length+1) bh),(.slice (some ⟨hb0.n+1,0,none⟩) ((ba dK q M.ps).length+1) bh),v3,v4,v5,nS] 57 true));have gt1:hb1.b.get h5.n=some (.cells [.slice la1 M.ps[q].ring.length lc1,.slice la2 M.ps[q].next.length lc2,.slice la3 M.ps[q].runs.length lc3,iv M.ps[q].left,uv M.ps[q].turns] 113 true):=ehb1▸((aC ah).trans gr1);have nn1:hb1.n=hb0.n+2:=ehb1▸hna1;rw[ehb1];try rw[ehb1]at La1;try rw[ehb1]at ka1;try rw[ehb1]at xa1
   have Lb1:LI h.n hb1 h.n 57 [] [(.slice (some ⟨h6.n+1,0,none⟩) ((ba dh q M.ps).length+1) bh),(.slice (some ⟨hb0.n+1,0,none⟩) ((ba dK q M.ps).length+1) bh),v3,v4,v5] [nS] [3,3,53,3,22] [ba dh (q+1) M.ps,ba dK (q+1) M.ps,rvs.map da,ba hG q M.ps,ba gJ q M.ps]:=by rw[← tR (f:=dK) aT];exact La1
   have Yb1:aw h.n h5 hb1:=(Yb0).trans xa1;have Rb1:∀ i (h1:i<rvs.length) (h2:i<M.ps.length),RI (Et h.n h.n [(.slice (some ⟨h6.n+1,0,none⟩) ((ba dh q M.ps).length+1) bh),(.slice (some ⟨hb0.n+1,0,none⟩) ((ba dK q M.ps).length+1) bh),v3,v4,v5]) hb1 rvs[i] M.ps[i].ring:=fun i a c=>(Rb0 i a c).kp ka1.KE;have oz1:¬LO h.n [(.slice (some ⟨h6.n+1,0,none⟩) ((ba dh q M.ps).length+1) bh),(.slice (some ⟨hb0.n+1,0,none⟩) ((ba dK q M.ps).length+1) bh),v3,v4,v5] h5.n:=fun o=>oz0 (ka1.own _ (by have:=(Yb0).n;omega) o);have lt2:h5.n<hb1.n:=ah;have cv2:cellAt hb1 (ad h.n 2)=some v3:=ay Lb1.lt Lb1.get rfl;have rx2:=prg.r.ext (J.X.trans Yb1);have ww:=mW WN;refine wk ?_;refine qR (O:=Et h.n h.n [(.slice (some ⟨h6.n+1,0,none⟩) ((ba dh q M.ps).length+1) bh),(.slice (some ⟨hb0.n+1,0,none⟩) ((ba dK q M.ps).length+1) bh),v3,v4,v5]) rx2 (by have:=J.X.n;have:=(Yb1).n;omega) ah (fun j o=>o.elim (fun o=>(Lb1.lo o).2) fun o=>by have:=J.X.n;have:=(Yb1).n;omega) fun cv hc rc xc=>?_;have nc:=xc.n;have Lq:=Lb1.ext xc;have Rq:∀ i (h1:i<rvs.length) (h2:i<M.ps.length),RI (Et h.n h.n [(.slice (some ⟨h6.n+1,0,none⟩) ((ba dh q M.ps).length+1) bh),(.slice (some ⟨hb0.n+1,0,none⟩) ((ba dK q M.ps).length+1) bh),v3,v4,v5]) hc rvs[i] M.ps[i].ring:=fun i a c=>(Rb1 i a c).kp (Kp.ext xc);have gq:=xc.cY gt1;have Yq:=(Yb1).trans (xc.mono (by have:=(Yb1).n;omega));have same_v2:(bt 50 v3 v3=true)=True:=pf (Lq.gr 2 an an an);have cvq:cellAt hc (ad h.n 2)=some v3:=ay Lq.lt Lq.get rfl;obtain⟨ca,cn,cc,rfl,_⟩:=id rc.c;have ww:=ww.a @same_v2;refine wk ?_;have gi2:GR h.n hc 53 v3 (rvs.map da):=(Lq).gr 2 an an an;refine oO (sz:=1) gi2 (by have:=(Yq).n;omega) rfl (fun r hr=>by obtain ⟨x,_,rfl⟩:=bD.1 hr;rfl) rfl rfl (by rw[aI];omega) ao fun ha2 ga2 hna2 hka2=>?_;have gb2:=(Lq).Dh (i:=2) an (aw.refl _ _) hka2;have nv2:(ai hc (.cells [.slice ca cn cc] 53 true)).n=hc.n+1:=rfl;have gr2:=(hka2 h5.n (by have:=(Yq).n;omega) (fun r=>oz1 (.inr ⟨2,an,r⟩))).trans gq;refine wk ?_;refine aM (off:=2) (cs':=[(.slice (some ⟨h6.n+1,0,none⟩) ((ba dh q M.ps).length+1) bh),(.slice (some ⟨hb0.n+1,0,none⟩) ((ba dK q M.ps).length+1) bh),(.slice (some ⟨hc.n+1,0,none⟩) ((rvs.map da).length+1) bh),v4,v5,nS]) gb2 rfl rfl rfl rfl ao ?_;obtain⟨La2,ka2,xa2⟩:=(Lq).step (i:=2) an an an (aw.refl _ _) hna2 ga2 hka2 (w:=[(.slice (some ⟨h6.n+1,0,none⟩) ((ba dh q M.ps).length+1) bh),(.slice (some ⟨hb0.n+1,0,none⟩) ((ba dK q M.ps).length+1) bh),(.slice (some ⟨hc.n+1,0,none⟩) ((rvs.map da).length+1) bh),v4,v5,nS]) rfl;obtain⟨hb2,ehb2⟩:=gz (aO ha2 h.n (.cells [(.slice (some ⟨h6.n+1,0,none⟩) ((ba dh q M.ps).length+1) bh),(.slice (some ⟨hb0.n+1,0,none⟩) ((ba dK q M.ps).length+1) bh),(.slice (some ⟨hc.n+1,0,none⟩) ((rvs.map da).length+1) bh),v4,v5,nS] 57 true));have gt2:hb2.b.get h5.n=some (.cells [.slice la1 M.ps[q].ring.length lc1,.slice la2 M.ps[q].next.length lc2,.slice la3 M.ps[q].runs.length lc3,iv M.ps[q].left,uv M.ps[q].turns] 113 true):=ehb2▸((aC ah).trans gr2);have nn2:hb2.n=hc.n+2:=ehb2▸hna2;rw[ehb2];try rw[ehb2]at La2;try rw[ehb2]at ka2;try rw[ehb2]at xa2
   have Lb2:LI h.n hb2 h.n 57 [] [(.slice (some ⟨h6.n+1,0,none⟩) ((ba dh q M.ps).length+1) bh),(.slice (some ⟨hb0.n+1,0,none⟩) ((ba dK q M.ps).length+1) bh),(.slice (some ⟨hc.n+1,0,none⟩) ((rvs.map da).length+1) bh),v4,v5] [nS] [3,3,53,3,22] [ba dh (q+1) M.ps,ba dK (q+1) M.ps,(rvs++[Value.slice ca cn cc]).map da,ba hG q M.ps,ba gJ q M.ps]:=by rw[fo];exact La2
   have Yb2:aw h.n h5 hb2:=(Yq).trans xa2;have Rb2:∀ i (h1:i<(rvs++[Value.slice ca cn cc]).length) (h2:i<M.ps.length),RI (Et h.n h.n [(.slice (some ⟨h6.n+1,0,none⟩) ((ba dh q M.ps).length+1) bh),(.slice (some ⟨hb0.n+1,0,none⟩) ((ba dK q M.ps).length+1) bh),(.slice (some ⟨hc.n+1,0,none⟩) ((rvs.map da).length+1) bh),v4,v5]) hb2 (rvs++[Value.slice ca cn cc])[i] M.ps[i].ring:=fun i a c=>by
     by_cases hi:i<rvs.length;· rw[Ae hi];exact(Rq i hi c).kp ka2.KE
     · have ha:i<rvs.length+1:=by simpa using a
       obtain rfl:i=q:=ah;have:(rvs++[Value.slice ca cn cc])[i]=Value.slice ca cn cc:=by rw[sH ah];simp
       rw[this];exact rc.kp ka2.KE
   have oz2:¬LO h.n [(.slice (some ⟨h6.n+1,0,none⟩) ((ba dh q M.ps).length+1) bh),(.slice (some ⟨hb0.n+1,0,none⟩) ((ba dK q M.ps).length+1) bh),(.slice (some ⟨hc.n+1,0,none⟩) ((rvs.map da).length+1) bh),v4,v5] h5.n:=fun o=>oz1 (ka2.own _ (by have:=(Yq).n;omega) o);have lt3:h5.n<hb2.n:=ah;have cv3:cellAt hb2 (ad h.n 3)=some v4:=ay Lb2.lt Lb2.get rfl;have ww:=mW Ti;refine wk ?_;have gi3:GR h.n hb2 3 v4 (ba hG q M.ps):=(Lb2).gr 3 an an an;refine oO (sz:=1) gi3 (by have:=(Yb2).n;omega) rfl (nQ fun _=>rfl) rfl rfl (by rw[mS ah];omega) ao fun ha3 ga3 hna3 hka3=>?_;have gb3:=(Lb2).Dh (i:=3) an (aw.refl _ _) hka3;have nv3:(ai hb2 (.cells [iv M.ps[q].left] 3 true)).n=hb2.n+1:=rfl;have gr3:=(hka3 h5.n (by have:=(Yb2).n;omega) (fun r=>oz2 (.inr ⟨3,an,r⟩))).trans gt2;refine wk ?_;refine aM (off:=3) (cs':=[(.slice (some ⟨h6.n+1,0,none⟩) ((ba dh q M.ps).length+1) bh),(.slice (some ⟨hb0.n+1,0,none⟩) ((ba dK q M.ps).length+1) bh),(.slice (some ⟨hc.n+1,0,none⟩) ((rvs.map da).length+1) bh),(.slice (some ⟨hb2.n+1,0,none⟩) ((ba hG q M.ps).length+1) bh),v5,nS]) gb3 rfl rfl rfl rfl ao ?_;obtain⟨La3,ka3,xa3⟩:=(Lb2).step (i:=3) an an an (aw.refl _ _) hna3 ga3 hka3 (w:=[(.slice (some ⟨h6.n+1,0,none⟩) ((ba dh q M.ps).length+1) bh),(.slice (some ⟨hb0.n+1,0,none⟩) ((ba dK q M.ps).length+1) bh),(.slice (some ⟨hc.n+1,0,none⟩) ((rvs.map da).length+1) bh),(.slice (some ⟨hb2.n+1,0,none⟩) ((ba hG q M.ps).length+1) bh),v5,nS]) rfl;obtain⟨hb3,ehb3⟩:=gz (aO ha3 h.n (.cells [(.slice (some ⟨h6.n+1,0,none⟩) ((ba dh q M.ps).length+1) bh),(.slice (some ⟨hb0.n+1,0,none⟩) ((ba dK q M.ps).length+1) bh),(.slice (some ⟨hc.n+1,0,none⟩) ((rvs.map da).length+1) bh),(.slice (some ⟨hb2.n+1,0,none⟩) ((ba hG q M.ps).length+1) bh),v5,nS] 57 true));have gt3:hb3.b.get h5.n=some (.cells [.slice la1 M.ps[q].ring.length lc1,.slice la2 M.ps[q].next.length lc2,.slice la3 M.ps[q].runs.length lc3,iv M.ps[q].left,uv M.ps[q].turns] 113 true):=ehb3▸((aC ah).trans gr3);have nn3:hb3.n=hb2.n+2:=ehb3▸hna3;rw[ehb3];try rw[ehb3]at La3;try rw[ehb3]at ka3;try rw[ehb3]at xa3
   have Lb3:LI h.n hb3 h.n 57 [] [(.slice (some ⟨h6.n+1,0,none⟩) ((ba dh q M.ps).length+1) bh),(.slice (some ⟨hb0.n+1,0,none⟩) ((ba dK q M.ps).length+1) bh),(.slice (some ⟨hc.n+1,0,none⟩) ((rvs.map da).length+1) bh),(.slice (some ⟨hb2.n+1,0,none⟩) ((ba hG q M.ps).length+1) bh),v5] [nS] [3,3,53,3,22] [ba dh (q+1) M.ps,ba dK (q+1) M.ps,(rvs++[Value.slice ca cn cc]).map da,ba hG (q+1) M.ps,ba gJ q M.ps]:=by rw[← tR (f:=hG) aT];exact La3
   have Yb3:aw h.n h5 hb3:=(Yb2).trans xa3;have Rb3:∀ i (h1:i<(rvs++[Value.slice ca cn cc]).length) (h2:i<M.ps.length),RI (Et h.n h.n [(.slice (some ⟨h6.n+1,0,none⟩) ((ba dh q M.ps).length+1) bh),(.slice (some ⟨hb0.n+1,0,none⟩) ((ba dK q M.ps).length+1) bh),(.slice (some ⟨hc.n+1,0,none⟩) ((rvs.map da).length+1) bh),(.slice (some ⟨hb2.n+1,0,none⟩) ((ba hG q M.ps).length+1) bh),v5]) hb3 (rvs++[Value.slice ca cn cc])[i] M.ps[i].ring:=fun i a c=>(Rb2 i a c).kp ka3.KE;have oz3:¬LO h.n [(.slice (some ⟨h6.n+1,0,none⟩) ((ba dh q M.ps).length+1) bh),(.slice (some ⟨hb0.n+1,0,none⟩) ((ba dK q M.ps).length+1) bh),(.slice (some ⟨hc.n+1,0,none⟩) ((rvs.map da).length+1) bh),(.slice (some ⟨hb2.n+1,0,none⟩) ((ba hG q M.ps).length+1) bh),v5] h5.n:=fun o=>oz2 (ka3.own _ (by have:=(Yb2).n;omega) o);have lt4:h5.n<hb3.n:=ah;have cv4:cellAt hb3 (ad h.n 4)=some v5:=ay Lb3.lt Lb3.get rfl;have ww:=mW V51_5;refine wk ?_;have gi4:GR h.n hb3 22 v5 (ba gJ q M.ps):=(Lb3).gr 4 an an an;refine oO (sz:=1) gi4 (by have:=(Yb3).n;omega) rfl (nQ fun _=>rfl) rfl rfl (by rw[mS ah];omega) ao fun ha4 ga4 hna4 hka4=>?_;have gb4:=(Lb3).Dh (i:=4) an (aw.refl _ _) hka4;have nv4:(ai hb3 (.cells [uv M.ps[q].turns] 22 true)).n=hb3.n+1:=rfl;have gr4:=(hka4 h5.n (by have:=(Yb3).n;omega) (fun r=>oz3 (.inr ⟨4,an,r⟩))).trans gt3;refine wk ?_;refine aM (off:=4) (cs':=[(.slice (some ⟨h6.n+1,0,none⟩) ((ba dh q M.ps).length+1) bh),(.slice (some ⟨hb0.n+1,0,none⟩) ((ba dK q M.ps).length+1) bh),(.slice (some ⟨hc.n+1,0,none⟩) ((rvs.map da).length+1) bh),(.slice (some ⟨hb2.n+1,0,none⟩) ((ba hG q M.ps).length+1) bh),(.slice (some ⟨hb3.n+1,0,none⟩) ((ba gJ q M.ps).length+1) bh),nS]) gb4 rfl rfl rfl rfl ao ?_;obtain⟨La4,ka4,xa4⟩:=(Lb3).step (i:=4) an an an (aw.refl _ _) hna4 ga4 hka4 (w:=[(.slice (some ⟨h6.n+1,0,none⟩) ((ba dh q M.ps).length+1) bh),(.slice (some ⟨hb0.n+1,0,none⟩) ((ba dK q M.ps).length+1) bh),(.slice (some ⟨hc.n+1,0,none⟩) ((rvs.map da).length+1) bh),(.slice (some ⟨hb2.n+1,0,none⟩) ((ba hG q M.ps).length+1) bh),(.slice (some ⟨hb3.n+1,0,none⟩) ((ba gJ q M.ps).length+1) bh),nS]) rfl;obtain⟨hb4,ehb4⟩:=gz (aO ha4 h.n (.cells [(.slice (some ⟨h6.n+1,0,none⟩) ((ba dh q M.ps).length+1) bh),(.slice (some ⟨hb0.n+1,0,none⟩) ((ba dK q M.ps).length+1) bh),(.slice (some ⟨hc.n+1,0,none⟩) ((rvs.map da).length+1) bh),(.slice (some ⟨hb2.n+1,0,none⟩) ((ba hG q M.ps).length+1) bh),(.slice (some ⟨hb3.n+1,0,none⟩) ((ba gJ q M.ps).length+1) bh),nS] 57 true));have gt4:hb4.b.get h5.n=some (.cells [.slice la1 M.ps[q].ring.length lc1,.slice la2 M.ps[q].next.length lc2,.slice la3 M.ps[q].runs.length lc3,iv M.ps[q].left,uv M.ps[q].turns] 113 true):=ehb4▸((aC ah).trans gr4);have nn4:hb4.n=hb3.n+2:=ehb4▸hna4;rw[ehb4];try rw[ehb4]at La4;try rw[ehb4]at ka4;try rw[ehb4]at xa4
   have Lb4:LI h.n hb4 h.n 57 [] [(.slice (some ⟨h6.n+1,0,none⟩) ((ba dh q M.ps).length+1) bh),(.slice (some ⟨hb0.n+1,0,none⟩) ((ba dK q M.ps).length+1) bh),(.slice (some ⟨hc.n+1,0,none⟩) ((rvs.map da).length+1) bh),(.slice (some ⟨hb2.n+1,0,none⟩) ((ba hG q M.ps).length+1) bh),(.slice (some ⟨hb3.n+1,0,none⟩) ((ba gJ q M.ps).length+1) bh)] [nS] [3,3,53,3,22] [ba dh (q+1) M.ps,ba dK (q+1) M.ps,(rvs++[Value.slice ca cn cc]).map da,ba hG (q+1) M.ps,ba gJ (q+1) M.ps]:=by rw[← tR (f:=gJ) aT];exact La4
   have Yb4:aw h.n h5 hb4:=(Yb3).trans xa4;have Rb4:∀ i (h1:i<(rvs++[Value.slice ca cn cc]).length) (h2:i<M.ps.length),RI (Et h.n h.n [(.slice (some ⟨h6.n+1,0,none⟩) ((ba dh q M.ps).length+1) bh),(.slice (some ⟨hb0.n+1,0,none⟩) ((ba dK q M.ps).length+1) bh),(.slice (some ⟨hc.n+1,0,none⟩) ((rvs.map da).length+1) bh),(.slice (some ⟨hb2.n+1,0,none⟩) ((ba hG q M.ps).length+1) bh),(.slice (some ⟨hb3.n+1,0,none⟩) ((ba gJ q M.ps).length+1) bh)]) hb4 (rvs++[Value.slice ca cn cc])[i] M.ps[i].ring:=fun i a c=>(Rb3 i a c).kp ka4.KE;have oz4:¬LO h.n [(.slice (some ⟨h6.n+1,0,none⟩) ((ba dh q M.ps).length+1) bh),(.slice (some ⟨hb0.n+1,0,none⟩) ((ba dK q M.ps).length+1) bh),(.slice (some ⟨hc.n+1,0,none⟩) ((rvs.map da).length+1) bh),(.slice (some ⟨hb2.n+1,0,none⟩) ((ba hG q M.ps).length+1) bh),(.slice (some ⟨hb3.n+1,0,none⟩) ((ba gJ q M.ps).length+1) bh)] h5.n:=fun o=>oz3 (ka4.own _ (by have:=(Yb3).n;omega) o);have ww:=mW (aN W51 @wq);refine wk ?_;exact⟨M.ps.length-(q+1),ah,q+1,_,_,_,_,_,rvs++[.slice ca cn cc],ah,rfl,aA,⟨Lb4,J.X.trans Yb4,by simp[rl],Rb4⟩⟩
 · obtain rfl:q=M.ps.length:=ah;have L:=J.L;have Dn:=s5.Dn;have call:=s.all.cut;obtain⟨aa,ac,ae,_⟩:=call;have ra:=s.all.r;rw[ae]at ra Dn;have hal:=hq.all;refine wk ?_;refine qR (O:=Et h.n h.n [v1,v2,v3,v4,v5]) (ra.ext J.X) ah ah (fun j o=>o.elim (fun o=>(L.lo o).2) fun o=>ah) fun v6 h6 r6 x6=>?_;have n6:=x6.n;have L6:=L.ext x6;have R6:∀ i (h1:i<rvs.length) (h2:i<M.ps.length),RI (Et h.n h.n [v1,v2,v3,v4,v5]) h6 rvs[i] M.ps[i].ring:=fun i a c=>(J.ri i a c).kp (Kp.ext x6);obtain⟨w1,w2,w3,rfl,_⟩:=id r6.c;have lb:=L6.lt;refine wk ?_;refine aM (off:=5) (cs':=[v1,v2,v3,v4,v5,.slice w1 w2 w3]) L6.get rfl rfl rfl rfl ao ?_;obtain⟨h7,eh7⟩:=gz (aO h6 h.n (.cells [v1,v2,v3,v4,v5,.slice w1 w2 w3] 57 true));have g7:=rS eh7;have X7:aw h.n h h7:=eh7▸((J.X.trans (x6.mono n5)).trans (aw.set _ a_));have k7:Kp (Et h.n h.n [v1,v2,v3,v4,v5]) (Et h.n h.n [v1,v2,v3,v4,v5]) h6 h7:=eh7▸(Kp.set (.inl (.inl rfl)));have G7:∀ i (h1:i<[v1,v2,v3,v4,v5].length) (h2:i<[3,3,53,3,22].length) (h3:i<[ba dh M.ps.length M.ps,ba dK M.ps.length M.ps,rvs.map da,ba hG M.ps.length M.ps,ba gJ M.ps.length M.ps].length),GR h.n h7 [3,3,53,3,22][i] [v1,v2,v3,v4,v5][i] [ba dh M.ps.length M.ps,ba dK M.ps.length M.ps,rvs.map da,ba hG M.ps.length M.ps,ba gJ M.ps.length M.ps][i]:=eh7▸(fun i a b c=>(L6.gr i a b c).bM a_ fun j _ r=>aC (L6.ne a r));have n7:=sW eh7;rw[eh7];have c7:av h7 (ad h.n 0) 6=some [v1,v2,v3,v4,v5,.slice w1 w2 w3]:=aq ah g7 rfl rfl;have oo:∀ i (hi:i<[v1,v2,v3,v4,v5].length),aE [v1,v2,v3,v4,v5][i]=true∧([v1,v2,v3,v4,v5][i]).cells.toList=[[v1,v2,v3,v4,v5][i]]:=fun i hi=>(L.gr i hi hi hi).one;refine wk ?_;have o1:=(oo 0 an).1;have o2:=(oo 1 an).1;have o3:=(oo 2 an).1;have o4:=(oo 3 an).1;have o5:=(oo 4 an).1;simp only[hJ,sT]at o1 o2 o3 o4 o5;refine aM (off:=0) (l:=[v1,v2,v3,v4,v5,.slice w1 w2 w3]) (cs':=[v1,v2,v3,v4,v5,.slice w1 w2 w3]) g7 rfl rfl rfl (by simp only[hY,kE,o1,o2,o3,o4,o5,jb,kI];rfl) ao ?_;have c8:av (aO h7 h.n (.cells [v1,v2,v3,v4,v5,.slice w1 w2 w3] 57 true)) ⟨h.n,0,none⟩ 6=some [v1,v2,v3,v4,v5,.slice w1 w2 w3]:=aq (by show h.n<h7.n;omega) aF rfl rfl;have k8:Kp (Et h.n h.n [v1,v2,v3,v4,v5]) (Et h.n h.n [v1,v2,v3,v4,v5]) h7 (aO h7 h.n (.cells [v1,v2,v3,v4,v5,.slice w1 w2 w3] 57 true)):=Kp.set (.inl (.inl rfl));have G8:∀ i (h1:i<[v1,v2,v3,v4,v5].length) (h2:i<[3,3,53,3,22].length) (h3:i<[ba dh M.ps.length M.ps,ba dK M.ps.length M.ps,rvs.map da,ba hG M.ps.length M.ps,ba gJ M.ps.length M.ps].length),GR h.n (aO h7 h.n (.cells [v1,v2,v3,v4,v5,.slice w1 w2 w3] 57 true)) [3,3,53,3,22][i] [v1,v2,v3,v4,v5][i] [ba dh M.ps.length M.ps,ba dK M.ps.length M.ps,rvs.map da,ba hG M.ps.length M.ps,ba gJ M.ps.length M.ps][i]:=fun i a b c=>(G7 i a b c).bM a_ fun j _ r=>aC (L6.ne a r);refine wk ?_;exact hK v1 v2 v3 v4 v5 (.slice w1 w2 w3) rvs (Et h.n h.n [v1,v2,v3,v4,v5]) _ (fun j hj=>.inr hj) (X7.trans (aw.set _ a_)) (G8 0 an an an) (G8 1 an an an) (G8 2 an an an) (G8 3 an an an) (G8 4 an an an) J.rl (fun i a c=>((R6 i a c).kp k7).kp k8) ((r6.kp k7).kp k8)
set_option maxHeartbeats 400000
def RW (P:Nat→Prop) (h:ak) (v:Value) (sz:Nat) (rows:List (List Value)):Prop :=
 ∃ a c,v=.slice a rows.length c∧(∀ x,a=some x→x.spot=none)∧∀ i (hi:i<rows.length),∃ b off,a=some ⟨b,off,none⟩∧P b∧b<h.n∧av h ⟨b,off+i*sz,none⟩ sz=some rows[i]
section
variable {P P' O:Nat→Prop}{h h':ak}{v:Value}{sz B:Nat}{e:TypeId}{rows:List (List Value)}
theorem RW.bM (r:RW P h v sz rows) (hn:h.n≤h'.n) (hk:∀ j,P j→j<h.n→h'.b.get j=h.b.get j∧P' j):RW P' h' v sz rows:=by obtain⟨a,c,e,sp,q⟩:=r;refine⟨a,c,e,sp,fun i hi=>?_⟩;obtain⟨b,off,e1,p,l,g⟩:=q i hi;exact⟨b,off,e1,(hk b p l).2,bX l hn,lL hn (hk b p l).1 g⟩
theorem RW.ext (r:RW P h v sz rows) (x:aw h.n h h'):RW P h' v sz rows:=r.bM x.n fun j p l=>⟨x.get j l,p⟩
theorem RW.mono (r:RW P h v sz rows) (hp:∀ j,P j→P' j):RW P' h v sz rows:=r.bM a_ fun j p _=>⟨rfl,hp j p⟩
theorem GR.rw (g:GR B h e v rows) (hr:∀ r∈rows,r.length=sz) (hp:∀ j,B≤j→j<h.n→y_ v j→P j):RW P h v sz rows:=by
 rcases g with ⟨rfl,rfl⟩|⟨i,rfl,h1,h2,h3⟩;·exact⟨none,0,rfl,fun x e=>(by cases e),fun i hi=>absurd hi an⟩
 ·refine⟨_,_,rfl,fun x e=>(by cases e;rfl),fun k hk=>⟨i,0,rfl,hp i h1 h2 ⟨_,rfl⟩,h2,?_⟩⟩;have q:=dC (α:=List Value) (f:=fun r=>r) (l:=rows.map fun r=>r++List.replicate (sz-r.length) undef) (sz:=sz) (j:=0) (n:=sz) (k:=k) (h:=h) (b:=i) (e:=e) (t:=false);have hid:(rows.map fun r=>r++List.replicate (sz-r.length) undef)=rows:=by
   have:∀ r∈rows,(fun r=>r++List.replicate (sz-r.length) undef) r=r:=fun r hr'=>by simp[hr r hr']
   rw[List.map_congr_left this,List.map_id']
  refine aq h2 h3 ?_ (hr _ (bG hk));rw[cb];have e1:rows=rows.take k++(rows[k]::rows.drop (k+1)):=by rw[← kJ hk,iE]
  have e2:(rows.take k).flatten.length=k*sz:=by rw[gU (sz:=sz) _ fun r hr'=>hr r (List.mem_of_mem_take hr'),fp,jv (jG hk)]
  have hl:rows[k].length=sz:=hr _ (bG hk);conv=>lhs;rw[e1]
  rw[jA,mG,pP,e2,mE ah,gy,nH,eh,List.take_append,hl,nH,iH,ei,wz ah]
theorem RI.rw {l:List Nat}(r:RI O h v l) (hp:∀ j,j<h.n→¬O j→P j):RW P h v 1 (l.map fun n=>[bZ n]):=by
 obtain⟨a,c,rfl,hc,q⟩:=r.r;refine⟨a,c,by rw[aI],(by obtain ⟨_,_,_,e',_,_,_,h4⟩:=r.c;cases e';exact h4),fun i hi=>?_⟩;rw[aI]at hi;obtain⟨b,o,e,hb,g⟩:=rG.at_ (a:=a) (n:=l.length) (c:=c) r.r hi;obtain⟨_,_,_,e',_,_,h3,_⟩:=r.c;cases e';refine⟨b,o,e,hp b hb (h3 b ⟨_,_,_,by rw[e],rfl,ah⟩),hb,?_⟩;rw[bQ,dr];unfold cellAt at g;split at g;·rename_i x hx;cases g;exact hx
 ·cases g
theorem RS.rw (r:RS O sz h v rows) (hp:∀ j,j<h.n→¬O j→P j):RW P h v sz rows:=by obtain⟨⟨a,c,rfl,hc,q⟩,⟨_,_,_,e',_,_,h3,h4⟩,_⟩:=r;cases e';refine⟨a,c,rfl,h4,fun i hi=>?_⟩;obtain⟨b,off,e,hb,g⟩:=q i hi;exact⟨b,off,e,hp b hb (h3 b ⟨_,_,_,by rw[e],rfl,ah⟩),hb,g⟩
end
def U7 (c:KD):List Value:=[.int .i64 c.kind,.int .i64 c.oi,.int .u64 c.og,.int .u8 c.ri]
def vN (l:List KD) (g:Int) (s:Nat):List (List Value):=if 0≤ko l g (s:Int) then (match l[(ko l g (s:Int)).toNat]? with|some c=>[.int .i64 (s:Int)::U7 c]|none=>[]) else []
def iM (l:List KD) (g:Int):Nat→List (List Value)
 | 0=>[]
 | s+1=>iM l g s++vN l g s
def vE (gs:List (Ob GD)) (k:Nat):List (List Value):=match gs[k]? with|some o=>if o.is=true then [.int .i64 (k:Int)::.int .u64 (o.gen:Int)::o.x.cells] else []|none=>[]
def jE (gs:List (Ob GD)):Nat→List (List Value)
 | 0=>[]
 | k+1=>jE gs k++vE gs k
noncomputable def D2 (sh:List (Ob SD)) (k:Nat):List (List Value):=match sh[k]? with|some o=>if o.is=true then [.int .i64 (k:Int)::.int .u64 (o.gen:Int)::(iu sh ⟨(k:Int),(o.gen:Int)⟩ o.x sh.length).cells] else []|none=>[]
noncomputable def qA (sh:List (Ob SD)):Nat→List (List Value)
 | 0=>[]
 | k+1=>qA sh k++D2 sh k
def hH (cl:List (Ob XD)):Nat→List Nat
 | 0=>[]
 | k+1=>hH cl k++(match cl[k]? with|some o=>if o.is=true then [k] else []|none=>[])
def gM (cl:List (Ob XD)) (k:Nat) (rv:Value):List Value:=match cl[k]? with|some o=>[.int .i64 (k:Int),.int .u64 (o.gen:Int),.int .u64 o.x.iP,.int .u64 o.x.ee,rv,.int .i64 o.x.dH]|none=>[.int .i64 0,.int .u64 0,.int .u64 0,.int .u64 0,rv,.int .i64 0]
def kW (cl:List (Ob XD)) (k:Nat):List (List Value):=match cl[k]? with|some o=>o.x.ref.map RF.cells|none=>[]
theorem vr (l:List KD) (g:Int):∀ s,(iM l g s).length≤s∧∀ r∈iM l g s,r.length=5
 | 0=>⟨aQ _,fun r h=>absurd h (by simp[iM])⟩
 | s+1=>by
   obtain⟨h1,h2⟩:=vr l g s;have h3:(vN l g s).length≤1∧∀ r∈vN l g s,r.length=5:=by
     unfold vN;split
     · split;· exact⟨aQ _,fun r hr=>by simp at hr;subst hr;rfl⟩
       · exact⟨eX _,fun r hr=>absurd hr an⟩
     · exact⟨eX _,fun r hr=>absurd hr an⟩
   refine⟨by simp only[iM,dA];omega,fun r hr=>?_⟩;rcases dV.1 hr with hr|hr;· exact h2 r hr
   · exact h3.2 r hr
theorem wH (gs:List (Ob GD)):∀ k,(jE gs k).length≤k∧∀ r∈jE gs k,r.length=21
 | 0=>⟨aQ _,fun r h=>absurd h (by simp[jE])⟩
 | k+1=>by
   obtain⟨h1,h2⟩:=wH gs k;have h3:(vE gs k).length≤1∧∀ r∈vE gs k,r.length=21:=by
     unfold vE;split
     · split;· exact⟨aQ _,fun r hr=>by simp at hr;subst hr;rfl⟩
       · exact⟨eX _,fun r hr=>absurd hr an⟩
     · exact⟨eX _,fun r hr=>absurd hr an⟩
   refine⟨by simp only[jE,dA];omega,fun r hr=>?_⟩;rcases dV.1 hr with hr|hr;· exact h2 r hr
   · exact h3.2 r hr
theorem yx (sh:List (Ob SD)):∀ k,(qA sh k).length≤k∧∀ r∈qA sh k,r.length=13
 | 0=>⟨aQ _,fun r h=>absurd h (by simp[qA])⟩
 | k+1=>by
   obtain⟨h1,h2⟩:=yx sh k;have h3:(D2 sh k).length≤1∧∀ r∈D2 sh k,r.length=13:=by
     unfold D2;split
     · split;· exact⟨aQ _,fun r hr=>by simp at hr;subst hr;rfl⟩
       · exact⟨eX _,fun r hr=>absurd hr an⟩
     · exact⟨eX _,fun r hr=>absurd hr an⟩
   refine⟨by simp only[qA,dA];omega,fun r hr=>?_⟩;rcases dV.1 hr with hr|hr;· exact h2 r hr
   · exact h3.2 r hr
theorem AU (cl:List (Ob XD)):∀ k,(hH cl k).length≤k
 | 0=>aQ _
 | k+1=>by
   have h1:=AU cl k;simp only[hH,dA];split;· split<;>simp<;>omega
   · simp;omega
theorem zi {cl:List (Ob XD)}{k:Nat}{rv:Value}:(gM cl k rv).length=6:=by unfold gM;split<;>rfl
structure rH (B:Nat) (h:ak) (v:Value) (M:MD):Prop where
 ex:∃ vT vC vD vK v1 v2 v3 v4 v5 v6 vM:Value,∃ rvs kvs cvs:List Value,
  v=.agg ⟨[.int .u64 (M.now:Int),vT,vC,vD,vK,v1,v2,v3,v4,v5,v6,vM]⟩ ∧
  RW (fun j=>B≤j) h vT 21 (jE M.gs M.gs.length) ∧
  RW (fun j=>B≤j) h vC 6 (List.zipWith (gM M.cl) (hH M.cl M.cl.length) cvs)∧cvs.length=(hH M.cl M.cl.length).length∧(∀ i (h1:i<cvs.length) (h2:i<(hH M.cl M.cl.length).length),RW (fun j=>B≤j) h cvs[i] 2 (kW M.cl (hH M.cl M.cl.length)[i])) ∧
  RW (fun j=>B≤j) h vD 13 (qA M.sh M.sh.length) ∧
  RW (fun j=>B≤j) h vK 1 (kvs.map da)∧kvs.length=M.gs.length∧(∀ i (h1:i<kvs.length),RW (fun j=>B≤j) h kvs[i] 5 (iM M.ax (i:Int) M.cfg.bP)) ∧
  RW (fun j=>B≤j) h v1 1 (ba dh M.ps.length M.ps)∧RW (fun j=>B≤j) h v2 1 (ba dK M.ps.length M.ps) ∧
  RW (fun j=>B≤j) h v3 1 (rvs.map da)∧rvs.length=M.ps.length∧(∀ i (h1:i<rvs.length) (h2:i<M.ps.length),RW (fun j=>B≤j) h rvs[i] 1 (M.ps[i].ring.map fun n=>[bZ n])) ∧
  RW (fun j=>B≤j) h v4 1 (ba hG M.ps.length M.ps)∧RW (fun j=>B≤j) h v5 1 (ba gJ M.ps.length M.ps) ∧
  RW (fun j=>B≤j) h v6 1 (M.all.map fun n=>[bZ n])∧RW (fun j=>B≤j) h vM 2 (M.tm.map TD.cells)
open Go.Ev
open Pl
set_option maxRecDepth 100000
set_option maxHeartbeats 4000000
theorem Hp {a:Ad}{V:VD}{h:ak}{M:MD}{g:Nat}{fr:Go.Ev.Fr}{Q:Ex→Go.Ev.Fr→ak→Prop}(st:St a V h M) (hcl:M.ax.length≤10000) (hsl:M.cfg.bP≤1000) (f0:fr.get 0=some (mp a)) (f3:fr.get 3=some (iv g)) (f5:fr.get 5=some (nS))
  (hQ:∀ fr' h' v,fr'.get 0=fr.get 0→fr'.get 2=fr.get 2→fr'.get 32=fr.get 32→fr'.get 33=fr.get 33→fr'.get 34=fr.get 34→fr'.get 5=some v→GR h.n h' 163 v (iM M.ax (g:Int) M.cfg.bP)→aw h.n h h'→Q .normal fr' h'):IL.wp env 154 none fr h Q:=by
 unfold mp at *
 have ww:=mW M7
 refine wk ?_
 refine aP (fun m fr' h''=>∃ (s:Nat) (v:Value),s≤M.cfg.bP∧m=M.cfg.bP-s∧fr'.get 59=some (iv s)∧fr'.get 5=some v∧GR h.n h'' 163 v (iM M.ax (g:Int) s)∧aw h.n h h'') M.cfg.bP ?_ ah ?_
 ·exact⟨0,_,ah,ah,aA,by simp[T.aj,f5],GR.nil,aw.refl _ _⟩
 rintro m fr5 h5 ⟨s,v,hs,rfl,f59,g5,G,X⟩ hag
 have q0:fr5.get 0=some (pt a.m 0):=(hag 0 rfl).trans (by simp[T.aj,f0])
 have q3:fr5.get 3=some (iv g):=(hag 3 rfl).trans (by simp[T.aj,f3])
 have q2:fr5.get 2=fr.get 2:=(hag 2 rfl).trans aA
 have q32:fr5.get 32=fr.get 32:=(hag 32 rfl).trans aA
 have q33:fr5.get 33=fr.get 33:=(hag 33 rfl).trans aA
 have q34:fr5.get 34=fr.get 34:=(hag 34 rfl).trans aA
 have n5:=X.n
 by_cases aT:s<M.cfg.bP
 ·have ws:=rU s;have ls:(s:Int)<(M.cfg.bP:Int):=ah;have ww:=ww.a @ls;refine wk ?_;refine pZ (st.ext X) ah fun h6 x6=>?_;have n6:=x6.n;have X6:aw h.n h h6:=X.trans (x6.mono n5);have G6:=G.ext x6;have s6:=st.ext X6;by_cases hf:0≤ko M.ax (g:Int) (s:Int)
  ·obtain⟨k,hk,hkl⟩:=vm hf;obtain⟨i0,c0,eV,hi0,oi,mD,cA,cN⟩:=mg s6 hkl;have c4:=cN 4 4 ao;simp only[KD.cells,mB,eh,iX,iH]at c4;have lk:(k:Int)<(M.ax.length:Int):=ah;have hx:vN M.ax (g:Int) s=[(iv s::U7 M.ax[k])]:=by unfold vN;rw[if_pos hf,hk,vq,bw hkl]
   rw[hk]at hf ⊢;obtain⟨hz1,hz2⟩:=vr M.ax (g:Int) s;have ww:=ww.a (aN (aN @mD @c4) (aN @lk @hf));refine wk ?_;refine oO (sz:=5) (new:=(iv s::U7 M.ax[k])) G6 ah rfl hz2 rfl rfl ah ao fun h7 g7 hn7 hk7=>?_;have X7:aw h.n h h7:=⟨ah,fun j hj=>(hk7 j ah fun r=>by have:=(G6.lt r).1;omega).trans (X6.get j hj)⟩;have ww:=ww.a @ws;refine wk ?_;exact⟨M.cfg.bP-(s+1),ah,s+1,_,ah,rfl,aA,by simp[T.aj];rfl,by simp only[iM];rw[hx];exact g7,X7⟩
  ·have hx:vN M.ax (g:Int) s=[]:=by unfold vN;rw[if_neg hf]
   have ww:=ww.a (aN @hf @ws);refine wk ?_;exact⟨M.cfg.bP-(s+1),ah,s+1,v,ah,rfl,aA,by simp[T.aj,g5],by simp only[iM];rw[hx,ei];exact G6,X6⟩
 ·obtain rfl:s=M.cfg.bP:=ah;refine wk ?_;exact hQ _ h5 v (by simp[T.aj];rw[q0,f0]) (by simp[T.aj];exact q2) (by simp[T.aj];exact q32) (by simp[T.aj];exact q33) (by simp[T.aj];exact q34) (by simp[T.aj];exact g5) G X
set_option linter.defProp false
def Z1:=(aN (aN (aN (aN (aN @gE @gZ) @gu) (aN (aN @eQ @eO) @eG)) (aN (aN (aN @f_ @eK) @eF) (aN @eC @ek))) (aN (aN (aN (aN @er @eM) @ff) (aN (aN @eA @eL) @eP)) (aN (aN (aN @eD @eH) @eI) (aN @eB @eE))))
def Mq:=(aN (aN (aN (aN (aN @gE @gZ) @gu) (aN (aN @eQ @eO) @eG)) (aN (aN (aN @f_ @eK) @eF) (aN @eC @ek))) (aN (aN (aN (aN @er @eM) @eA) (aN @eL @eP)) (aN (aN (aN @eJ @eH) @eI) (aN @eB @eE))))
def Le:=(aN (aN (aN (aN (aN @gE @gZ) @gu) (aN (aN @eQ @eO) @eG)) (aN (aN (aN @f_ @eK) @eF) (aN @eC @ek))) (aN (aN (aN (aN @er @eM) @ff) (aN @eP @eD)) (aN (aN (aN @eJ @eH) @eI) (aN @eB @eE))))
def BJ:=(aN (aN (aN (aN (aN @gE @gZ) @gu) (aN (aN @eQ @eO) @eG)) (aN (aN (aN @f_ @eK) @eF) (aN @eC @ek))) (aN (aN (aN (aN @er @eM) @eA) (aN @eL @eD)) (aN (aN (aN @eJ @eH) @eI) (aN @eB @eE))))
theorem H9 {a:Ad}{V:VD}{h0 h:ak}{M:MD}{b:Nat}{v1 v2 v3 v4 v5 v6 vM:Value}{fr:Go.Ev.Fr}{Q:Ex→Go.Ev.Fr→ak→Prop}(s0:St a V h0 M) (X0:aw h0.n h0 h) (hcl:M.ax.length≤10000) (hsl:M.cfg.bP≤1000) (hgl:M.gs.length≤1000)
  (ho:∀ v∈([v1,v2,v3,v4,v5,v6,vM]:List Value),aE v=true) (L0:LI h0.n h b 60 [uv M.now] [nS,nS,nS,nS] [v1,v2,v3,v4,v5,v6,vM] [159,166,171,160] [[],[],[],[]]) (f0:fr.get 0=some (mp a)) (f2:fr.get 2=some (pt b 0))
  (hQ:∀ fr' h' vT vK (kvs:List Value),fr'.get 0=some (mp a)→fr'.get 2=some (pt b 0)→LI h0.n h' b 60 [uv M.now] [vT,nS,nS,vK] [v1,v2,v3,v4,v5,v6,vM] [159,166,171,160] [jE M.gs M.gs.length,[],[],kvs.map da]→Kp (LO b [nS,nS,nS,nS]) (LO b [vT,nS,nS,vK]) h h'→aw h0.n h0 h'→kvs.length=M.gs.length→(∀ i (h1:i<kvs.length),RW (fun j=>h0.n≤j∧¬LO b [vT,nS,nS,vK] j) h' kvs[i] 5 (iM M.ax (i:Int) M.cfg.bP))→Q .normal fr' h'):Hj.wp env 154 none fr h Q:=by
 unfold mp at *
 have s:=s0.ext X0
 have ww:=mW Z1
 refine wk ?_
 refine aP (fun m fr' h''=>∃ (q:Nat) (vT vK:Value) (kvs:List Value),q≤M.gs.length∧m=M.gs.length-q∧fr'.get 34=some (iv q)∧LI h0.n h'' b 60 [uv M.now] [vT,nS,nS,vK] [v1,v2,v3,v4,v5,v6,vM] [159,166,171,160] [jE M.gs q,[],[],kvs.map da]∧Kp (LO b [nS,nS,nS,nS]) (LO b [vT,nS,nS,vK]) h h''∧aw h0.n h0 h''∧kvs.length=q∧∀ i (h1:i<kvs.length),RW (fun j=>h0.n≤j∧¬LO b [vT,nS,nS,vK] j) h'' kvs[i] 5 (iM M.ax (i:Int) M.cfg.bP)) M.gs.length ?_ ah ?_
 ·exact⟨0,nS,nS,[],ah,ah,aA,L0,Kp.refl _ _,X0,rfl,fun i h1=>absurd h1 an⟩
 rintro m fr5 h5 ⟨q,vT,vK,kvs,hq,rfl,f34,L,kp,X,hkl,hkv⟩ hag
 have q0:fr5.get 0=some (pt a.m 0):=(hag 0 rfl).trans (by simp[T.aj,f0])
 have q2:fr5.get 2=some (pt b 0):=(hag 2 rfl).trans (by simp[T.aj,f2])
 have q32:fr5.get 32=some (.slice (some ⟨a.g,0,none⟩) M.gs.length M.gs.length):=(hag 32 rfl).trans aA
 have q33:fr5.get 33=some (iv M.gs.length):=(hag 33 rfl).trans aA
 have s5:=s0.ext X
 have n5:=X.n
 by_cases aT:q<M.gs.length
 ·have wq:=rU q;have lq0:(q:Int)<(M.gs.length:Int):=ah;have gA:=s5.gA aT;have ww:=mW (aN (aN Mq @gA) @lq0);refine wk ?_;obtain⟨h6,eh6⟩:=gz (ai h5 (.cells (Ob.cells GD.cells M.gs[q]) 125 true));have X6:=tW eh6;have g6:=Dj eh6;have n6:=qk eh6;rw[eh6];have L6:=L.ext X6;have kp6:=kp.trans (Kp.ext (O:=LO b [vT,nS,nS,vK]) X6);have Y6:aw h0.n h0 h6:=X.trans (X6.mono n5);have hkv6:∀ i (h1:i<kvs.length),RW (fun j=>h0.n≤j∧¬LO b [vT,nS,nS,vK] j) h6 kvs[i] 5 (iM M.ax (i:Int) M.cfg.bP):=fun i a=>(hkv i a).ext X6;have s6:=s0.ext Y6;have cont:∀ (fr:Go.Ev.Fr) (hh:ak) (wT:Value),LI h0.n hh b 60 [uv M.now] [wT,nS,nS,vK] [v1,v2,v3,v4,v5,v6,vM] [159,166,171,160] [jE M.gs (q+1),[],[],kvs.map da]→Kp (LO b [nS,nS,nS,nS]) (LO b [wT,nS,nS,vK]) h hh→aw h0.n h0 hh→(∀ i (h1:i<kvs.length),RW (fun j=>h0.n≤j∧¬LO b [wT,nS,nS,vK] j) hh kvs[i] 5 (iM M.ax (i:Int) M.cfg.bP)) →
    fr.get 0=some (pt a.m 0)→fr.get 2=some (pt b 0)→fr.get 3=some (iv q)→fr.get 32=fr5.get 32→fr.get 33=fr5.get 33→fr.get 34=some (iv q) →
    ∀ Q:Ex→Go.Ev.Fr→ak→Prop,(∀ fr' h' wK (kvs':List Value),fr'.get 0=some (pt a.m 0)→fr'.get 2=some (pt b 0)→fr'.get 32=fr5.get 32→fr'.get 33=fr5.get 33→fr'.get 34=some (iv q)→LI h0.n h' b 60 [uv M.now] [wT,nS,nS,wK] [v1,v2,v3,v4,v5,v6,vM] [159,166,171,160] [jE M.gs (q+1),[],[],kvs'.map da]→Kp (LO b [nS,nS,nS,nS]) (LO b [wT,nS,nS,wK]) h h'→aw h0.n h0 h'→kvs'.length=q+1→(∀ i (h1:i<kvs'.length),RW (fun j=>h0.n≤j∧¬LO b [wT,nS,nS,wK] j) h' kvs'[i] 5 (iM M.ax (i:Int) M.cfg.bP))→Q .normal fr' h')→Hg.wp env 154 none fr hh Q:=by
   intro fr hh wT L kp X hkv p0 p2 p3 p32 p33 p34 Q hQ
   have n6:=X.n
   have ww:=mW Le
   refine wk ?_
   refine Hp (g:=q) (s0.ext X) hcl hsl (by simp[T.aj,p0,mp]) (by simp[T.aj,p3]) aA fun fr' h7 v i0 i2 i32 i33 i34 i5 G x7=>?_
   have n7:=x7.n
   have z0:fr'.get 0=some (pt a.m 0):=i0.trans (by simp[T.aj,p0])
   have z2:fr'.get 2=some (pt b 0):=i2.trans (by simp[T.aj,p2])
   have L7:=L.ext x7
   have c4:cellAt h7 (ad b 4)=some vK:=ay L7.lt L7.get rfl
   have lb:=L7.lt
   obtain⟨ov1,ov2⟩:=G.one
   obtain⟨va,vc,rfl⟩:=G.sl
   have ww:=mW M7
   refine wk ?_
   have gi:GR h0.n h7 160 vK (kvs.map da):=L7.gr 3 an an an
   refine oO (sz:=1) gi ah rfl (fun r hr=>by obtain ⟨x,_,rfl⟩:=bD.1 hr;rfl) rfl rfl (by rw[aI];omega) ao fun h8 g8 hn8 hk8=>?_
   have gb:=L7.Dh (i:=3) an (aw.refl _ _) hk8
   have nv:(ai h7 (.cells [.slice va (iM M.ax (q:Int) M.cfg.bP).length vc] 160 true)).n=h7.n+1:=rfl
   refine wk ?_
   refine aM (off:=4) (cs':=[uv M.now,wT,nS,nS,(.slice (some ⟨h7.n+1,0,none⟩) ((kvs.map da).length+1) bh),v1,v2,v3,v4,v5,v6,vM]) gb rfl rfl rfl rfl ao ?_
   obtain⟨L8,k8,x8⟩:=L7.step (i:=3) an an an (aw.refl _ _) hn8 g8 hk8 (w:=[uv M.now,wT,nS,nS,(.slice (some ⟨h7.n+1,0,none⟩) ((kvs.map da).length+1) bh),v1,v2,v3,v4,v5,v6,vM]) rfl
   have o7:∀ j,hh.n≤j→j<h7.n→¬LO b [wT,nS,nS,vK] j:=fun j hj _ o=>absurd (L.lo o).2 ah
   obtain⟨h9,eh9⟩:=gz (aO h8 b (.cells [uv M.now,wT,nS,nS,(.slice (some ⟨h7.n+1,0,none⟩) ((kvs.map da).length+1) bh),v1,v2,v3,v4,v5,v6,vM] 60 true))
   have gk:GR hh.n h9 163 (.slice va (iM M.ax (q:Int) M.cfg.bP).length vc) (iM M.ax (q:Int) M.cfg.bP):=eh9▸(G.bM (by have:=k8.n;exact this) fun j hj r=>k8.get j hj (o7 j (G.lt r).1 hj))
   rw[eh9];try rw[eh9]at L8;try rw[eh9]at k8;try rw[eh9]at x8
   have L9:LI h0.n h9 b 60 [uv M.now] [wT,nS,nS,(.slice (some ⟨h7.n+1,0,none⟩) ((kvs.map da).length+1) bh)] [v1,v2,v3,v4,v5,v6,vM] [159,166,171,160] [jE M.gs (q+1),[],[],(kvs++[Value.slice va (iM M.ax (q:Int) M.cfg.bP).length vc]).map da]:=by rw[fo];exact L8
   refine wk ?_
   refine hQ _ h9 _ (kvs++[Value.slice va (iM M.ax (q:Int) M.cfg.bP).length vc]) (by simp[T.aj];exact z0) (by simp[T.aj];exact z2) (by simp[T.aj];rw[i32];simp[T.aj];exact p32) (by simp[T.aj];rw[i33];simp[T.aj];exact p33) (by simp[T.aj];rw[i34];simp[T.aj];exact p34) L9 (kp.trans ((Kp.ext x7).trans k8)) (X.trans ((x7.mono n6).trans x8)) (by simp[hkl]) fun i hi=>?_
   by_cases hi':i<kvs.length
   ·rw[Ae hi'];exact((hkv i hi').ext x7).bM k8.n fun j ho hj=>⟨k8.get j hj ho.2,ho.1,fun o=>ho.2 (k8.own j hj o)⟩
   ·have hi2:i<kvs.length+1:=by simpa using hi
    obtain rfl:i=q:=ah;have:(kvs++[Value.slice va (iM M.ax (i:Int) M.cfg.bP).length vc])[i]=Value.slice va (iM M.ax (i:Int) M.cfg.bP).length vc:=by rw[sH ah];simp
    rw[this];exact gk.rw (vr _ _ _).2 fun j hB hj r=>⟨ah,fun o=>o7 j hB (G.lt (j:=j) r).2.1 (k8.own j (G.lt (j:=j) r).2.1 o)⟩
  have cis:=ay (off:=1) (show h5.n<h6.n by omega) g6 rfl;obtain⟨hz1,hz2⟩:=wH M.gs q;by_cases hi:M.gs[q].is=true
  ·rw[hi]at cis;have hx:vE M.gs q=[(iv q::uv M.gs[q].gen::M.gs[q].x.cells)]:=by unfold vE;rw[bw aT];simp only[hi,if_true]
   have cT:cellAt h6 (ad b 1)=some vT:=ay L6.lt L6.get rfl;have r196:av h6 (ad h5.n 2) 19=some M.gs[q].x.cells:=aq ah g6 rfl rfl;have same_G:(bt 50 (.agg ⟨M.gs[q].x.cells⟩) (.agg ⟨M.gs[q].x.cells⟩)=true)=True:=by simp[GD.cells,bt,bt.go]
   have ww:=mW BJ;refine wk ?_;refine pS s6 aT fun h7 x7=>?_;have n7:=x7.n;have L7:=L6.ext x7;have lb:=L7.lt;have cT7:cellAt h7 (ad b 1)=some vT:=ay L7.lt L7.get rfl;have gT:GR h0.n h7 159 vT (jE M.gs q):=L7.gr 0 an an an;have same_v:=pf gT;have g67:=x7.cY g6;have r19:av h7 (ad h5.n 2) 19=some M.gs[q].x.cells:=aq ah g67 rfl rfl;have ww:=ww.a (aN @same_v @same_G);refine wk ?_;refine oO (sz:=21) (new:=(iv q::uv M.gs[q].gen::M.gs[q].x.cells)) gT (by have:=Y6.n;omega) rfl hz2 rfl rfl ah ao fun h8 g8 hn8 hk8=>?_;have gb:=L7.Dh (i:=0) an (aw.refl _ _) hk8;have nv:(ai h7 (.cells (Value.agg ⟨(iv q::uv M.gs[q].gen::M.gs[q].x.cells)⟩).cells.toList 159 true)).n=h7.n+1:=rfl;refine wk ?_;refine aM (off:=1) (cs':=[uv M.now,(.slice (some ⟨h7.n+1,0,none⟩) ((jE M.gs q).length+1) bh),nS,nS,vK,v1,v2,v3,v4,v5,v6,vM]) gb rfl rfl rfl rfl ao ?_;obtain⟨L8,k8,x8⟩:=L7.step (i:=0) an an an (aw.refl _ _) hn8 g8 hk8 (w:=[uv M.now,(.slice (some ⟨h7.n+1,0,none⟩) ((jE M.gs q).length+1) bh),nS,nS,vK,v1,v2,v3,v4,v5,v6,vM]) rfl;obtain⟨h9,eh9⟩:=gz (aO h8 b (.cells [uv M.now,(.slice (some ⟨h7.n+1,0,none⟩) ((jE M.gs q).length+1) bh),nS,nS,vK,v1,v2,v3,v4,v5,v6,vM] 60 true));have nn:h9.n=h7.n+2:=eh9▸hn8;rw[eh9];try rw[eh9]at L8;try rw[eh9]at k8;try rw[eh9]at x8
   have L9:LI h0.n h9 b 60 [uv M.now] [(.slice (some ⟨h7.n+1,0,none⟩) ((jE M.gs q).length+1) bh),nS,nS,vK] [v1,v2,v3,v4,v5,v6,vM] [159,166,171,160] [jE M.gs (q+1),[],[],kvs.map da]:=by simp only[jE];rw[hx];exact L8
   refine wk ?_;refine cont _ h9 _ L9 (kp6.trans ((Kp.ext x7).trans k8)) (Y6.trans ((x7.mono (by have:=Y6.n;omega)).trans x8)) (fun i a=>((hkv6 i a).ext x7).bM k8.n fun j ho hj=>⟨k8.get j hj ho.2,ho.1,fun o=>ho.2 (k8.own j hj o)⟩) (by simp[T.aj];exact q0) (by simp[T.aj];exact q2) aA aA aA (by simp[T.aj];exact f34) _ fun fr' h' wK kvs' z0 z2 z32 z33 z34 L' k' x' hl' hv'=>?_;have ww:=mW (aN M7 @wq);refine wk ?_;exact⟨M.gs.length-(q+1),ah,q+1,_,wK,kvs',ah,rfl,aA,L',k',x',hl',hv'⟩
  ·have hi':M.gs[q].is=false:=by simpa using hi
   rw[hi']at cis;have hx:vE M.gs q=[]:=by unfold vE;rw[bw aT];simp only[hi',dQ,if_false]
   have L6':LI h0.n h6 b 60 [uv M.now] [vT,nS,nS,vK] [v1,v2,v3,v4,v5,v6,vM] [159,166,171,160] [jE M.gs (q+1),[],[],kvs.map da]:=by simp only[jE];rw[hx,ei];exact L6
   have ww:=mW BJ;refine wk ?_;refine cont _ h6 vT L6' kp6 Y6 hkv6 (by simp[T.aj];exact q0) (by simp[T.aj];exact q2) aA aA aA (by simp[T.aj];exact f34) _ fun fr' h' wK kvs' z0 z2 z32 z33 z34 L' k' x' hl' hv'=>?_;have ww:=mW (aN M7 @wq);refine wk ?_;exact⟨M.gs.length-(q+1),ah,q+1,vT,wK,kvs',ah,rfl,aA,L',k',x',hl',hv'⟩
 ·obtain rfl:q=M.gs.length:=ah;have ww:=mW M7;refine wk ?_;exact hQ _ h5 vT vK kvs (by simp[T.aj];exact q0) (by simp[T.aj];exact q2) L kp X hkl hkv
end Go.Proofs.YthjlppdnlahhoaaGreat
