/- THE PLAIN MACHINE's FUNCTIONS, walked (14). Conditions: none beyond each theorem's own. -/
import Derived.Test.YthjlppdnlahhoaaGreatP13
set_option linter.unusedSimpArgs false
set_option linter.unusedVariables false
namespace Go.Proofs.YthjlppdnlahhoaaGreat
open Go.Ev
open Pl
set_option maxRecDepth 100000
set_option linter.defProp false
def To:=(aN (aN @rW @sf) (aN @sy @sS))
def N8:=(aN (aN @rW @sf) (aN @sy @pK))
def abY:=(aN (aN @rW @sf) (aN @sS @pK))
def abR:=(aN (aN @rW @sy) (aN @sS @pK))
def XE:=(aN (aN @sf @sy) (aN @sS @pK))
set_option maxHeartbeats 4000000
theorem Xv:∀ s,s<256→IntKind.wrap .u8 (s:Nat)=(s:Int):=by decide +kernel
theorem Il {ps:List PD}{g p:Nat}(h:dF ps g=some p):wv ps g=(p:Int):=by simp only[wv,h]
theorem HW {ps:List PD}{g:Nat}(h:dF ps g=none):wv ps g = -1:=by simp only[wv,h]
theorem KI {a:Ad}{V:VD}{h:ak}{M:MD}{n k pp:Nat}{r:RR}{kd iw pk:Int}{c:Cj}{K:Value→ak→Prop}(s:St a V h M) (I:Inv n M) (hn:n≤300) (hr:aB M.gs r=some k) (hp:pp<M.ps.length) (ha:0≤c.a1)
   (hK:∀ (e:Int) M' V' h',Nx n M M'→St a V' h' M'→Kp (own a V) (own a V') h h'→K (iv e) h'):cy env (.func 90) [mp a,.agg ⟨r.cells⟩,.agg ⟨[iv kd,iv pp,iv iw,iv pk]⟩,.agg ⟨c.cells⟩] h K:=by
 obtain⟨hk,hi,rfl⟩:=cE hr
 obtain⟨ck,a0,a1,a2,a3,a4⟩:=c
 simp only[Cj.cells,RR.cells]at *
 obtain⟨h3,eh3⟩:=gz (ai (ai (ai h (.cells [iv k,uv M.gs[k].gen] 38 true)) (.cells [iv kd,iv pp,iv iw,iv pk] 29 true)) (.cells [iv ck,uv a0,uv a1,uv a2,uv a3,uv a4] 43 true))
 have X3:aw h.n h h3:=eh3▸((aw.new _ a_).trans ((aw.new _ (aL _)).trans (aw.new _ (by show h.n≤h.n+1+1;omega))))
 have g5:h3.b.get h.n=some (.cells [iv k,uv M.gs[k].gen] 38 true):=eh3▸((aK _ (by show h.n<h.n+1+1;omega)).trans ((aK _ (by show h.n<h.n+1;omega)).trans (az _ _)))
 have g6:h3.b.get (h.n+1)=some (.cells [iv kd,iv pp,iv iw,iv pk] 29 true):=eh3▸((aK _ (by show h.n+1<h.n+1+1;omega)).trans (az _ _))
 have g7:h3.b.get (h.n+2)=some (.cells [iv ck,uv a0,uv a1,uv a2,uv a3,uv a4] 43 true):=eh3▸(az _ _)
 have n3:h3.n=h.n+3:=eh3▸rfl
 have m1:(ai h (.cells [iv k,uv M.gs[k].gen] 38 true)).n=h.n+1:=rfl
 have m2:(ai (ai h (.cells [iv k,uv M.gs[k].gen] 38 true)) (.cells [iv kd,iv pp,iv iw,iv pk] 29 true)).n=h.n+2:=rfl
 have no5:¬own a V h.n:=fun o=>dy _ (s.lt _ o)
 have no6:¬own a V (h.n+1):=fun o=>absurd (s.lt _ o) ah
 have no7:¬own a V (h.n+2):=fun o=>absurd (s.lt _ o) ah
 have tl:=I.Wb
 have hgl:=I.gl
 unfold mp at *
 refine F90 rfl ?_
 have ww:=mW (aN (aN To @m1) @m2)
 refine wk ?_
 rw[eh3]
 have s3:=s.ext X3
 have d5:av h3 (ad h.n 0) 2=some [iv k,uv M.gs[k].gen]:=aq ah g5 rfl rfl
 have ww:=mW W90
 refine wk ?_
 refine tQ (r:=⟨(k:Int),(M.gs[k].gen:Int)⟩) s3 ah fun h4 x4=>?_
 have n4:=x4.n
 have s4:=s3.ext x4
 rw[hr]
 unfold fC
 have X4:=X3.jI x4
 have K4:Kp (own a V) (own a V) h h4:=Kp.ext X4
 have g5':=x4.cY g5
 have g6':=x4.cY g6
 have g7':=x4.cY g7
 have d5':av h4 (ad h.n 0) 2=some [iv k,uv M.gs[k].gen]:=aq ah g5' rfl rfl
 have st:=s4.gC hk 2 ao
 have su:=s4.gC hk 3 ao
 simp only[Ob.cells,GD.cells,cu,cR]at st su
 have nx0:Nx n M M:=⟨I.mono (aL n),rfl,rfl,rfl,rfl,rfl⟩
 have chg:∀ (x:GD),x.gG=M.gs[k].x.gG→x.ctx=M.gs[k].x.ctx→x.prog=M.gs[k].x.prog→(M.gs[k].x.jF<256→x.jF<256)→(oa M.gs[k].x→oa x)→oZ (M.gs.set k { M.gs[k]with x:=x }) M.gs:=fun x e1 e2 e3 e4 e5=>oZ.set hk rfl rfl e1 e2 e3 e4 e5
 by_cases e7:ck=7
 · subst e7;obtain⟨d,hd⟩:=(I.G.live k hk hi).gG;obtain⟨j,hj⟩:=(I.G.live k hk hi).ctx;obtain⟨hdl,_⟩:=aH.1 hd;obtain⟨hjl,_⟩:=aH.1 hj;have cl:=I.Iz hn;refine Ep ?_ ?_;all_goals
     refine Ge (r:=⟨(k:Int),(M.gs[k].gen:Int)⟩) s4 I.q.sm ah hr hk hd hdl hj hjl cl.1 I.K I.bP ah I.sl I.cl (I.gen hn hk) I.fgl fun ax V3 h3 c3 cl3 s3 k3=>?_
     refine wk ?_
     exact hK _ _ V3 _ ⟨I.kill hn hk hi hd hdl hj hjl c3 cl3,rfl,rfl,rfl,rfl,rfl⟩ s3 (K4.trans k3)
 by_cases e8:ck=8
 · subst e8;by_cases hsu:M.gs[k].x.su=true;· rw[hsu]at su;refine Ep ?_ ?_;all_goals exact hK _ M V _ nx0 s4 K4
   · have hsu:M.gs[k].x.su=false:=by simpa using hsu
     rw[hsu]at su;by_cases hst:M.gs[k].x.st=1∨M.gs[k].x.st=2;· rcases hst with h1|h1;all_goals
         rw[h1]at st
         refine wk ?_
         refine qM s4 I.q.sm ah fun V5 h5 s5 k5=>?_
         refine wk ?_
         refine lY s5 (k:=k) hk (j:=2) (y:={ M.gs[k]with x:={ M.gs[k].x with st:=5 } }) ah rfl rfl rfl rfl ao fun h6 s6 k6 n6=>?_
         have hk6:k<(M.gs.set k { M.gs[k]with x:={ M.gs[k].x with st:=5 } }).length:=by simpa using hk
         refine wk ?_
         refine lY s6 (k:=k) hk6 (j:=3) (y:={ M.gs[k]with x:={ M.gs[k].x with st:=5,su:=true } }) ah rfl rfl (by show fV (Ob.cells GD.cells ((M.gs.set k { M.gs[k]with x:={ M.gs[k].x with st:=5 } })[k]'hk6)) 3 _=_;rw[cU];rfl) rfl ao fun h7 s7 k7 n7=>?_
         simp only[iD]at s7
         refine wk ?_
         exact hK _ _ V5 _ ⟨((I.R_ hn ⟨hk,hi⟩).gs (chg { M.gs[k].x with st:=5,su:=true } rfl rfl rfl (fun h=>h) (fun h=>h))).mono (aL n),rfl,rfl,rfl,rfl,rfl⟩ s7 (K4.trans (k5.trans (k6.trans k7)))
     · have h1:¬M.gs[k].x.st=1:=fun e=>hst (.inl e);have h2:¬M.gs[k].x.st=2:=fun e=>hst (.inr e);have ww:=ww.a (aN @h1 @h2);refine Ep ?_ ?_;all_goals
         refine lY s4 hk (j:=3) (y:={ M.gs[k]with x:={ M.gs[k].x with su:=true } }) ah rfl rfl rfl rfl ao fun h5 s5 k5 n5=>?_
         refine wk ?_
         exact hK _ _ V _ ⟨(I.gs (chg { M.gs[k].x with su:=true } rfl rfl rfl (fun h=>h) (fun h=>h))).mono (aL n),rfl,rfl,rfl,rfl,rfl⟩ s5 (K4.trans k5)
 by_cases e9:ck=9
 · subst e9;by_cases hsu:M.gs[k].x.su=true
   · rw[hsu]at su;by_cases hst:M.gs[k].x.st=5;· rw[hst]at st;have ww:=mW N8;refine wk ?_;refine Ch s4 I hn hk hi hp (by simp[T.aj,bY,mp]) aA aA g6' ah no6 fun fr5 M5 V5 h5 N5 s5 k5=>?_;have ww:=mW W90;refine wk ?_;exact hK _ M5 V5 _ N5 s5 (K4.trans k5)
     · have ww:=ww.a @hst;refine Ep ?_ ?_;all_goals
         refine lY s4 hk (j:=3) (y:={ M.gs[k]with x:={ M.gs[k].x with su:=false } }) ah rfl rfl rfl rfl ao fun h5 s5 k5 n5=>?_
         refine wk ?_
         exact hK _ _ V _ ⟨(I.gs (chg { M.gs[k].x with su:=false } rfl rfl rfl (fun h=>h) (fun h=>h))).mono (aL n),rfl,rfl,rfl,rfl,rfl⟩ s5 (K4.trans k5)
   · have hsu:M.gs[k].x.su=false:=by simpa using hsu
     rw[hsu]at su;refine Ep ?_ ?_;all_goals exact hK _ M V _ nx0 s4 K4
 by_cases e6:ck=6
 · subst e6;by_cases hst:M.gs[k].x.st=3;· rw[hst]at st;have ww:=mW N8;refine wk ?_;refine Ch s4 I hn hk hi hp (by simp[T.aj,bY,mp]) aA aA g6' ah no6 fun fr5 M5 V5 h5 N5 s5 k5=>?_;have ww:=mW W90;refine wk ?_;exact hK _ M5 V5 _ N5 s5 (K4.trans k5)
   · have ww:=ww.a @hst;refine wk ?_;exact hK _ M V _ nx0 s4 K4
 by_cases e10:ck=10
 · subst e10;by_cases hbig:255<a1;· have ww:=ww.a @Is;refine Ep ?_ ?_;all_goals exact hK _ M V _ nx0 s4 K4
   obtain⟨sN,rfl⟩:∃ m:Nat,a1=(m:Int):=⟨a1.toNat,ah⟩;have hs:sN<256:=ah;have wu:=Xv sN hs;have hps:M.cfg.ps≤8:=by have:=I.Su;have:=I.q.Bj;omega
   have hand:=FD M.cfg.ps hps sN hs;have aT:sN &&& (2 ^ M.cfg.ps-1)<256:=mC Nat.and_le_left hs;have ww:=mW (aN abY @Is);refine Ep ?_ ?_;all_goals
     have ww:=mW (aN (aN abR @Is) @wu)
     refine wk ?_
     refine vW (n:=M.cfg.ps) hps ?_
     have ww:=ww.a @hand
     refine wk ?_
     refine lY s4 hk (j:=8) (y:={ M.gs[k]with x:={ M.gs[k].x with jF:=sN &&& (2 ^ M.cfg.ps-1) } }) ah rfl rfl rfl rfl ao fun h5 s5 k5 n5=>?_
     have k0':cellAt h5 (ad a.m 0)=some (iv M.cfg.ps):=s5.k0
     have g7':=(k5.get (h.n+2) ah no7).trans g7'
     have g6':=(k5.get (h.n+1) ah no6).trans g6'
     have I5:Inv n { M with gs:=M.gs.set k { M.gs[k]with x:={ M.gs[k].x with jF:=sN &&& (2 ^ M.cfg.ps-1) } } }:=I.gs (chg { M.gs[k].x with jF:=sN &&& (2 ^ M.cfg.ps-1) } rfl rfl rfl (fun _=>aT) (fun h=>h))
     have hk5:k<(M.gs.set k { M.gs[k]with x:={ M.gs[k].x with jF:=sN &&& (2 ^ M.cfg.ps-1) } }).length:=by simpa using hk
     have hi5:(M.gs.set k { M.gs[k]with x:={ M.gs[k].x with jF:=sN &&& (2 ^ M.cfg.ps-1) } })[k].is=true:=by simpa using hi
     have ha5:(M.gs.set k { M.gs[k]with x:={ M.gs[k].x with jF:=sN &&& (2 ^ M.cfg.ps-1) } })[k].x.jF=sN &&& (2 ^ M.cfg.ps-1):=an
     have K5:=K4.trans k5
     generalize M.gs.set k { M.gs[k]with x:={ M.gs[k].x with jF:=sN &&& (2 ^ M.cfg.ps-1) } }=gs5 at s5 I5 hk5 hi5 ha5
     refine wk ?_
     have ww:=mW XE
     refine wk ?_
     refine zQ s5 I5.q.sm fun h6 x6=>?_
     have n6:=x6.n
     have s6:=s5.ext x6
     have c8:=s6.gC hk5 8 ao
     simp only[Ob.cells,GD.cells,cu,cR]at c8
     have ha6:({ M with gs:=gs5 }:MD).gs[k].x.jF=sN &&& (2 ^ M.cfg.ps-1):=ha5
     rw[ha6]at c8
     have K6:=K5.trans (Kp.ext x6)
     cases hro:dF M.ps k with
     | none =>
       have e1:=HW hro
       obtain⟨I7,ho7⟩:=I5.leave (g:=k) hro
       have ww:=mW (aN W90 @e1)
       refine wk ?_
       refine BL s6 I5.q.sm fun b V7 h7 s7 k7=>?_
       have n7:=k7.n
       have K7:=K6.trans k7
       cases b with
       | false =>
         refine wk ?_
         exact hK _ _ V7 _ ⟨I7.mono (aL n),rfl,rfl,rfl,rfl,rfl⟩ s7 K7
       | true =>
         have g6b:=((Kp.ext (O:=own a V) x6).trans k7).get (h.n+1) ah no6 |>.trans g6'
         refine wk ?_
         refine yE s7 I7.q.sm hk5 (I5.G.jF k hk5) (by show pp<(cO M.all M.ps k).2.length;simp[cO];exact hp) fun x V8 h8 R s8 k8=>?_
         refine wk ?_
         exact hK _ _ V8 _ ⟨(I7.put hk5 hi5 ho7 R).mono (aL n),rfl,rfl,rfl,rfl,rfl⟩ s8 (K7.trans k8)
     | some p =>
       have e1:=Il hro
       obtain⟨hpl,_⟩:=lI hro
       have hp8:p<8:=by have:=I.q.Bj;omega
       have ww:=mW (aN W90 @e1)
       refine wk ?_
       refine CV hp8 aT ?_
       by_cases hh:(sN &&& (2 ^ M.cfg.ps-1)).testBit p=true
       · rw[hh];refine wk ?_;exact hK _ _ V _ ⟨I5.mono (aL n),rfl,rfl,rfl,rfl,rfl⟩ s6 K6
       · have hh:(sN &&& (2 ^ M.cfg.ps-1)).testBit p=false:=by simpa using hh
         rw[hh];refine wk ?_;refine qM s6 I5.q.sm (by show M.tm.length≤5000;omega) fun V7 h7 s7 k7=>?_;have n7:=k7.n;have no6':¬own a V7 (h.n+1):=fun o=>no6 (k7.own _ ah o);refine wk ?_;refine lY s7 (k:=k) hk5 (j:=2) (y:={ gs5[k]with x:={ gs5[k].x with st:=1 } }) ah rfl rfl rfl rfl ao fun h8 s8 k8 n8=>?_;have g6b:=((k7.trans k8).get (h.n+1) ah no6).trans (x6.cY g6');refine wk ?_;have I8:Inv n { ({ M with gs:=gs5 }:MD).off k with gs:=gs5.set k { gs5[k]with x:={ gs5[k].x with st:=1 } } }:=(I5.R_ hn ⟨hk5,hi5⟩).gs (oZ.set hk5 rfl rfl rfl rfl rfl (fun h=>h));have hk8:k<(gs5.set k { gs5[k]with x:={ gs5[k].x with st:=1 } }).length:=by simpa using hk5
         refine yE s8 I8.q.sm hk8 (I8.G.jF k hk8) (by show pp<(my M.all M.ps k).2.length;rw[(tK (all:=M.all) (ps:=M.ps) (g:=k)).1];exact hp) fun x V9 h9 R s9 k9=>?_;refine wk ?_;exact hK _ _ V9 _ ⟨(I8.put hk8 (by simpa using hi5) (by have:=(Gg I5.q k).2 k;simpa using this) R).mono (aL n),rfl,rfl,rfl,rfl,rfl⟩ s9 (K6.trans (k7.trans (k8.trans k9)))
 · have ww:=ww.a (aN (aN (aN @e7 @e8) @e9) (aN @e6 @e10));refine Ep ?_ ?_;all_goals exact hK _ M V _ nx0 s4 K4
end Go.Proofs.YthjlppdnlahhoaaGreat
