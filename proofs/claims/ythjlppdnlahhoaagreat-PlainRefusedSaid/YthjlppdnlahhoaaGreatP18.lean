/- THE PLAIN MACHINE's FUNCTIONS, walked (18). Conditions: none beyond each theorem's own. -/
import Derived.Test.YthjlppdnlahhoaaGreatP17
import Derived.Test.YthjlppdnlahhoaaGreatP14
import Derived.Test.YthjlppdnlahhoaaGreatZF
set_option linter.unusedSimpArgs false
set_option linter.unusedVariables false
namespace Go.Ev
section
variable {E:Env}{t:TypeId}{K:Value→Prop}
theorem Cx {k k' k'':IntKind}{n c lo:Nat}(h:lo≤n) (hn:n≤c):ia n c (some (.int k (lo:Int))) (some (.int k' (n:Int))) (some (.int k'' (n:Int)))=some (lo,n,n):=by simp only[ia,lO,iL,kU hn,kU (aQ n),kU h]
theorem S' {sz:Nat}{a:Option Addr}{n c lo:Nat}{k k' k'':IntKind}(hs:kq E t=some sz) (hz:sz≠0) (hc:c≠fb) (hlo:lo≤n) (hn:n≤c)
  (q:∀ a',(lo<n→a'=a.map (·.add (lo*sz)))→K (.slice a' (n-lo) (n-lo))) :
  dW E t (.slice a n c) (some (.int k (lo:Int))) (some (.int k' (n:Int))) (some (.int k'' (n:Int))) K:=by
 unfold kq at hs
 split at hs
 ·rename_i e hu;have f2:Nat.beq c fb=false:=jn hc;obtain⟨m,rfl⟩:∃ m,sz=m+1:=⟨sz-1,ah⟩;have q':=q (cond (Nat.beq n lo) a (a.map (·.add (lo*(m+1))))) fun h=>by rw[jn (show n≠lo by omega)];rfl
  by_cases hU:c=bh
  ·have f1:Nat.beq c bh=true:=by rw[hU];rfl
   simp only[dW,hX,hu,f1,f2,cond_false,cond_true,Cx hlo (aQ n),hs,bu];exact q'
  ·have f1:Nat.beq c bh=false:=jn hU;simp only[dW,hX,hu,f1,f2,cond_false,Cx hlo hn,hs,bu];exact q'
 ·cases hs
end
end Go.Ev
namespace Go.Proofs.YthjlppdnlahhoaaGreat
open Go.Ev
open Pl
set_option maxRecDepth 100000
set_option linter.defProp false
def aan:=(aN (aN (aN @jH @jN) (aN @jf @jj)) (aN (aN @i_ @jh) (aN @jk @jd)))
def LN:=(aN (aN (aN @jN @jf) (aN @jj @i_)) (aN (aN @jh @jk) @jd))
def ZZ:=(aN (aN (aN @jK @jN) (aN @jf @jj)) (aN (aN @i_ @jh) (aN @jk @jd)))
set_option maxHeartbeats 4000000
theorem bj0:Int.toNat 0*1=0:=rfl
theorem RS.rest {O:Nat→Prop}{sz lo:Nat}{h:ak}{a:Option Addr}{c:Nat}{rows:List (List Value)}(r:RS O sz h (.slice a rows.length c) rows) (hl:∀ r∈rows,r.length=sz) (hz:sz≠0) {a':Option Addr}(ha:lo<rows.length→a'=a.map (·.add (lo*sz))) :
  firstCells h sz (rows.length-lo) (.slice a' (rows.length-lo) (rows.length-lo))=some (rows.drop lo).flatten∧(a'=none→rows.length-lo=0):=by
 obtain⟨⟨a0,c0,e,_,q⟩,_,_⟩:=r
 cases e
 by_cases h0:lo<rows.length
 ·obtain⟨b,off,e,hb,_⟩:=q 0 ah;have e1:=ha h0;rw[e,bS]at e1;have ea:a'=some ⟨b,off+lo*sz,none⟩:=by rw[e1];simp[Addr.add]
  have q':iz h.n h a' sz (rows.drop lo):=fun i hi=>by
   have hi':lo+i<rows.length:=by rw[kg]at hi;omega
   obtain⟨b',off',e',_,ec⟩:=q (lo+i) hi';rw[e]at e';cases e';refine⟨b,off+lo*sz,ea,hb,?_⟩;rw[List.getElem_drop,nu,← iN];exact ec
  obtain⟨b2,off2,e2,_,ec⟩:=iz.cells q' (fun r hr=>hl r (List.mem_of_mem_drop hr)) hz (fun e=>by have:=congrArg List.length e;rw[kg]at this;simp at this;omega);rw[e2]at *
  refine⟨?_,fun e=>by cases e⟩;rw[kg]at ec;simpa only[firstCells]using ec
 ·have e0:rows.length-lo=0:=ah;rw[e0,mE ah];refine⟨?_,fun _=>rfl⟩;cases a' with
  | none=>rfl
  | some x=>simp only[firstCells,dO];rfl
def xA (l:List LD) (au:Nat) (x:LD):List LD:=l.drop (l.length+1-au)++[x]
theorem Ri {l:List LD}{au:Nat}{x:LD}(h:l.length≤au) (h1:1≤au):(xA l au x).length≤au:=by simp only[xA,dA,kg,dn,cF];omega
theorem Inv.logd {n m:Nat}{M:MD}{l:List LD}(I:Inv n M) (hm:m≤n) (hl:l.length≤M.cfg.fm):Inv n { M with calls:=m,log:=l } :=
 { I with q:=I.q.of rfl rfl rfl rfl,log:=hl,calls:=hm }
structure Nc (n:Nat) (M M':MD):Prop where
 inv:Inv (n+1) M'
 cfg:M'.cfg=M.cfg
 now:M'.now=M.now
 aX:M'.aX=M.aX
theorem Ng {a:Ad}{V0 V:VD}{h0 h:ak}{M0 M:MD}{n b5 b6 b7 pp:Nat}{kd iw pk w e:Int}{r:RR}{c:Cj}{fr:Go.Ev.Fr}{K:Value→ak→Prop}(s:St a V h M) (K0:Kp (own a V0) (own a V) h0 h) (nx:Nx n M0 M) (hcl:M0.calls≤n) (hn:n≤300) (hw:0≤w)
   (g0:fr.get 0=some (mp a)) (g5:fr.get 5=some (pt b5 0)) (g6:fr.get 6=some (pt b6 0)) (g7:fr.get 7=some (pt b7 0)) (g8:fr.get 8=some (uv w)) (g9:fr.get 9=some (iv e))
   (x5:h.b.get b5=some (.cells r.cells 38 true)) (x6:h.b.get b6=some (.cells [iv kd,iv pp,iv iw,iv pk] 29 true)) (x7:h.b.get b7=some (.cells c.cells 43 true))
   (l5:b5<h.n) (l6:b6<h.n) (l7:b7<h.n) (o5:¬own a V b5) (o6:¬own a V b6) (o7:¬own a V b7)
   (hK:∀ (w e:Int) M' V' h',0≤w→Nc n M0 M'→St a V' h' M'→Kp (own a V0) (own a V') h0 h'→K (.tuple #[uv w,iv e]) h'):D3.wp env 208 none fr h (cW env [.tmp 8,.tmp 9] K):=by
 obtain⟨ck,a0,a1,a2,a3,a4⟩:=c
 obtain⟨ri,rg⟩:=r
 simp only[Cj.cells,RR.cells]at *
 unfold mp at *
 have e0:=bf g0
 have e5:=bf g5
 have e6:=bf g6
 have e7:=bf g7
 have e8:=bf g8
 have e9:=bf g9
 have I:=nx.inv
 have wc:IntKind.wrap .u64 ((M.calls:Int)+1)=((M.calls+1:Nat):Int):=by rw[wrap_u64 ah (by have:=I.calls;omega)];omega
 have ww:=mW (aN aan @wc)
 refine wk ?_
 refine Rb s fun V1 h1 s1 k1 n1=>?_
 have Sp:=I.Sp
 rw[nx.cfg]at Sp
 have hll:M.log.length≤M.cfg.fm:=I.log
 rw[← nx.cfg]at Sp
 obtain⟨la,lc,le,t1,t2,t3,_⟩:=s1.log.len
 have k28:=s1.k28
 rw[aI]at le t3
 rw[le]at k28
 have wl1:IntKind.wrap .i64 ((M.log.length:Int)+1)=(M.log.length:Int)+1:=wrap_i64 ah ah
 have wl2:IntKind.wrap .i64 ((M.log.length:Int)+1-(M.cfg.fm:Int))=(M.log.length:Int)+1-(M.cfg.fm:Int):=wrap_i64 ah ah
 have wmx:max ((M.log.length:Int)+1-(M.cfg.fm:Int)) 0=((M.log.length+1-M.cfg.fm:Nat):Int):=ah
 have n1':=k1.n
 have x5a:=(k1.get b5 l5 o5).trans x5
 have x6a:=(k1.get b6 l6 o6).trans x6
 have x7a:=(k1.get b7 l7 o7).trans x7
 have d5:av h1 (ad b5 0) 2=some [iv ri,uv rg]:=aq ah x5a rfl rfl
 have d7:av h1 (ad b7 0) 6=some [iv ck,uv a0,uv a1,uv a2,uv a3,uv a4]:=aq ah x7a rfl rfl
 have ww:=mW LN
 refine wk ?_
 have ww:=mW (aN (aN ZZ @wl1) (aN @wl2 @wmx))
 refine wk ?_
 have rl:=s1.log
 rw[le]at rl
 have hlo:M.log.length+1-M.cfg.fm≤M.log.length:=ah
 refine S' abd ao t1 hlo t3 fun a' ha'=>?_
 refine wk ?_
 obtain⟨h2,eh2⟩:=gz (ai h1 (.cells [uv ((M.calls+1:Nat):Int),uv M.now,iv ri,uv rg,iv pp,iv ck,uv a0,uv a1,uv a2,uv a3,uv a4,iv e] 174 true))
 have X2:=tW eh2
 have d2:av h2 (ad h1.n 0) 12=some [uv ((M.calls+1:Nat):Int),uv M.now,iv ri,uv rg,iv pp,iv ck,uv a0,uv a1,uv a2,uv a3,uv a4,iv e]:=eh2▸(aV rfl)
 have n2:=qk eh2
 change iK 174 12 _ _ (ai h1 (.cells [uv ((M.calls+1:Nat):Int),uv M.now,iv ri,uv rg,iv pp,iv ck,uv a0,uv a1,uv a2,uv a3,uv a4,iv e] 174 true)) _
 rw[eh2]
 have rl2:RS (own a V1) 12 h2 (.slice la M.log.length lc) (M.log.map LD.cells):=rl.kp (Kp.ext X2)
 obtain⟨fc,fn⟩:=RS.rest (a':=a') (lo:=M.log.length+1-M.cfg.fm) (rows:=M.log.map LD.cells) (by rw[aI];exact rl2) (fun r hr=>by obtain ⟨x,_,rfl⟩:=bD.1 hr;rfl) ao (by rw[aI];exact ha')
 rw[aI,← List.map_drop]at fc
 rw[aI]at fn
 refine jL (m:=1) (cs:=((M.log.drop (M.log.length+1-M.cfg.fm)).map LD.cells).flatten) (new:=[uv ((M.calls+1:Nat):Int),uv M.now,iv ri,uv rg,iv pp,iv ck,uv a0,uv a1,uv a2,uv a3,uv a4,iv e]) ah fn fc rfl ao ao (by simpa only[firstCells,fk]using d2) rfl ?_
 have X3:aw h1.n h1 (ai h2 (.cells (((M.log.drop (M.log.length+1-M.cfg.fm)).map LD.cells).flatten++[uv ((M.calls+1:Nat):Int),uv M.now,iv ri,uv rg,iv pp,iv ck,uv a0,uv a1,uv a2,uv a3,uv a4,iv e]) 174 false)):=X2.trans (aw.new _ ah)
 have n3:(ai h2 (.cells (((M.log.drop (M.log.length+1-M.cfg.fm)).map LD.cells).flatten++[uv ((M.calls+1:Nat):Int),uv M.now,iv ri,uv rg,iv pp,iv ck,uv a0,uv a1,uv a2,uv a3,uv a4,iv e]) 174 false)).n=h2.n+1:=rfl
 have g3:(ai h2 (.cells (((M.log.drop (M.log.length+1-M.cfg.fm)).map LD.cells).flatten++[uv ((M.calls+1:Nat):Int),uv M.now,iv ri,uv rg,iv pp,iv ck,uv a0,uv a1,uv a2,uv a3,uv a4,iv e]) 174 false)).b.get h2.n=some (.cells (((M.log.drop (M.log.length+1-M.cfg.fm)).map LD.cells).flatten++[uv ((M.calls+1:Nat):Int),uv M.now,iv ri,uv rg,iv pp,iv ck,uv a0,uv a1,uv a2,uv a3,uv a4,iv e]) 174 false):=az _ _
 have hlen:M.log.length-(M.log.length+1-M.cfg.fm)+1=((xA M.log M.cfg.fm (⟨((M.calls+1:Nat):Int),(M.now:Int),ri,rg,(pp:Int),ck,a0,a1,a2,a3,a4,e⟩:LD)).map LD.cells).length:=by simp only[xA,aI,dA,kg,dn,cF]
 have hcs:((M.log.drop (M.log.length+1-M.cfg.fm)).map LD.cells).flatten++[uv ((M.calls+1:Nat):Int),uv M.now,iv ri,uv rg,iv pp,iv ck,uv a0,uv a1,uv a2,uv a3,uv a4,iv e]=((xA M.log M.cfg.fm (⟨((M.calls+1:Nat):Int),(M.now:Int),ri,rg,(pp:Int),ck,a0,a1,a2,a3,a4,e⟩:LD)).map LD.cells).flatten:=by simp[xA,LD.cells]
 have hml:=Ri (x:=(⟨((M.calls+1:Nat):Int),(M.now:Int),ri,rg,(pp:Int),ck,a0,a1,a2,a3,a4,e⟩:LD)) hll Sp.1
 rw[hcs]at X3 n3 g3 ⊢
 rw[hlen]
 generalize ai h2 (.cells ((xA M.log M.cfg.fm (⟨((M.calls+1:Nat):Int),(M.now:Int),ri,rg,(pp:Int),ck,a0,a1,a2,a3,a4,e⟩:LD)).map LD.cells).flatten 174 false)=h3 at X3 n3 g3 ⊢
 have s3:=s1.ext X3
 have ro:bT h1.n h3 174 (.slice (some ⟨h2.n,0,none⟩) ((xA M.log M.cfg.fm (⟨((M.calls+1:Nat):Int),(M.now:Int),ri,rg,(pp:Int),ck,a0,a1,a2,a3,a4,e⟩:LD)).map LD.cells).length bh) ((xA M.log M.cfg.fm (⟨((M.calls+1:Nat):Int),(M.now:Int),ri,rg,(pp:Int),ck,a0,a1,a2,a3,a4,e⟩:LD)).map LD.cells).length ((xA M.log M.cfg.fm (⟨((M.calls+1:Nat):Int),(M.now:Int),ri,rg,(pp:Int),ck,a0,a1,a2,a3,a4,e⟩:LD)).map LD.cells).flatten:=.row h2.n _ _ ah ah g3
 have rs:RS (own a V1) 12 h3 (.slice (some ⟨h2.n,0,none⟩) ((xA M.log M.cfg.fm (⟨((M.calls+1:Nat):Int),(M.now:Int),ri,rg,(pp:Int),ck,a0,a1,a2,a3,a4,e⟩:LD)).map LD.cells).length bh) ((xA M.log M.cfg.fm (⟨((M.calls+1:Nat):Int),(M.now:Int),ri,rg,(pp:Int),ck,a0,a1,a2,a3,a4,e⟩:LD)).map LD.cells):=RS.iS ro (fun r hr=>by obtain ⟨x,_,rfl⟩:=bD.1 hr;rfl) s1.lt (by rw[aI];omega)
 generalize xA M.log M.cfg.fm (⟨((M.calls+1:Nat):Int),(M.now:Int),ri,rg,(pp:Int),ck,a0,a1,a2,a3,a4,e⟩:LD)=lg at hml rs ro ⊢
 refine wk ?_
 refine st_log s3 rs fun V4 h4 s4 k4 n4=>?_
 have x5b:=(k4.get b5 ah (fun o=>o5 (k1.own _ l5 o))).trans (X3.cY x5a)
 have x7b:=(k4.get b7 ah (fun o=>o7 (k1.own _ l7 o))).trans (X3.cY x7a)
 have K4:Kp (own a V0) (own a V4) h0 h4:=K0.trans (k1.trans ((Kp.ext X3).trans k4))
 have I4:Inv (n+1) { M with calls:=M.calls+1,log:=lg }:=I.logd (by have:=nx.calls;omega) hml
 have d5b:av h4 (ad b5 0) 2=some [iv ri,uv rg]:=aq ah x5b rfl rfl
 have d7b:=ay (off:=0) (show b7<h4.n by omega) x7b rfl
 refine wk ?_
 have ww:=mW W49
 refine wk ?_
 refine tQ (r:=⟨ri,rg⟩) s4 (by show M.gs.length≤1000;have:=I.gl;omega) fun h5 x5=>?_
 have n5:=x5.n
 have s5:=s4.ext x5
 have K5:=K4.trans (Kp.ext (O:=own a V4) x5)
 have d7c:=aD x5 (show b7<h4.n by omega) d7b
 cases hr:aB ({ M with calls:=M.calls+1,log:=lg }:MD).gs ⟨ri,rg⟩ with
 | none =>
   unfold fC
   have ww:=ww.a (aN @yI @yP)
   refine wk ?_
   exact hK w e _ V4 h5 hw ⟨I4,nx.cfg,nx.now,nx.aX⟩ s5 K5
 | some k =>
   unfold fC
   obtain⟨hk,hi,_⟩:=cE hr
   have ww:=ww.a (aN @yI @yP)
   refine wk ?_
   refine lY s5 (k:=k) hk (j:=19) (y:={ M.gs[k]with x:={ M.gs[k].x with code:=e } }) ah rfl rfl rfl rfl ao fun h6 s6 k6 n6=>?_
   have K6:=K5.trans k6
   have o7b:¬own a V4 b7:=fun o=>o7 (k1.own _ l7 (k4.own _ ah o))
   have d7d:=ay (off:=0) (show b7<h6.n by omega) ((k6.get b7 ah o7b).trans (x5.cY x7b)) rfl
   have I6:Inv (n+1) { M with calls:=M.calls+1,log:=lg,gs:=M.gs.set k { M.gs[k]with x:={ M.gs[k].x with code:=e } } }:=I4.gs (oZ.set hk rfl rfl rfl rfl rfl (fun h=>h) (fun h=>h))
   (repeat' (first|(with_reducible show gV _ (rg _ _) _ _ _;first|with_reducible refine Ef ?_)|(with_reducible show lW _ _ _;first|with_reducible refine CJ ?_|with_reducible refine CS ?_|with_reducible refine wN (fun _=>?_) (fun _=>?_))|(with_reducible show _∧_;first|with_reducible refine CU ?_|with_reducible refine CN ?_|with_reducible refine Ea ?_)|(with_reducible show jQ _ _ _ _ _;first|with_reducible refine C1 ?_)|(with_reducible show vX _ _ _ _ _ _ _;first|with_reducible refine C9 ?_)|(with_reducible show yb _ _ _ _;first|with_reducible refine Du ?_)|(with_reducible show lU _ _ _ _;first|with_reducible refine C0 ?_)|(with_reducible show eR _ _ _;first|with_reducible refine Dd ?_|with_reducible refine Ei ?_)|(with_reducible show de (cellAt _ _) _;first|with_reducible refine Cz ?_|with_reducible refine C_ ?_|with_reducible refine DZ ?_)|(with_reducible show de (av _ _ _) _;first|with_reducible refine BZ ?_|with_reducible refine D1 ?_)|simp -dsimp only[↓ww.o,↓WB,WP,WS,bE,Nat.reduceEqDiff,Nat.reduceAdd]|simp -dsimp only[↓WB,↓jH,↓jK,↓jN,↓jf,↓jj,↓i_,↓jh,↓jk,↓jd,WP,WS,bE,Nat.reduceEqDiff,Nat.reduceAdd,↓e0,↓e5,↓e6,↓e7,↓e8,↓e9,d7d,bj0]|(with_reducible show dJ _ _ _ _ _;refine DU ?_)|simp -dsimp (disch:=(first|with_reducible assumption|(with_reducible refine hag _ ?_;rfl)|(with_reducible show _<_;omega))) only [CP,DX,CI,D7]|simp -dsimp (disch:=(first|with_reducible assumption|(with_reducible refine hag _ ?_;rfl)|(with_reducible show _<_;omega))) only [Dz,cL,p_,List.getElem?_cons_zero,List.getElem?_cons_succ]|simp -dsimp (disch:=(first|with_reducible assumption|(with_reducible show _<_;omega)|(with_reducible show GetElem?.getElem? _ _=_;with_unfolding_all rfl)|(with_reducible show List.length _=_;with_unfolding_all rfl))) only [DM,qp]|simp -dsimp (disch:=(conv=>lhs;cbv)) only [Dl]))
   all_goals (first|exact hK w e _ V4 h6 hw ⟨I6,nx.cfg,nx.now,nx.aX⟩ s6 K6|skip)
   have hk6:k<(M.gs.set k { M.gs[k]with x:={ M.gs[k].x with code:=e } }).length:=by simpa using hk
   refine lY s6 (k:=k) hk6 (j:=11) (y:={ M.gs[k]with x:={ M.gs[k].x with code:=e,r0:=w } }) ah rfl rfl (by show fV (Ob.cells GD.cells ((M.gs.set k { M.gs[k]with x:={ M.gs[k].x with code:=e } })[k]'hk6)) 11 _=_;rw[cU];rfl) rfl ao fun h7 s7 k7 n7=>?_
   simp only[iD]at s7
   refine wk ?_
   exact hK w e _ V4 h7 hw ⟨I4.gs (oZ.set (y:={ M.gs[k]with x:={ M.gs[k].x with code:=e,r0:=w } }) hk rfl rfl rfl rfl rfl (fun h=>h) (fun h=>⟨hw,h.2⟩)),nx.cfg,nx.now,nx.aX⟩ s7 (K6.trans k7)
def Ye:=(aN (aN (aN @jH @jK) (aN @jN @jf)) (aN (aN @jj @jh) (aN @jk @jd)))
def aa0:=(aN (aN (aN @jH @jK) (aN @jN @jf)) (aN (aN @i_ @jh) (aN @jk @jd)))
def Yg:=(aN (aN (aN @jH @jK) (aN @jN @jj)) (aN (aN @i_ @jh) (aN @jk @jd)))
theorem TE {a:Ad}{V:VD}{h:ak}{M:MD}{n p q k j2 b10:Nat}{fr:Go.Ev.Fr}{Q:Ex→Go.Ev.Fr→ak→Prop}(s:St a V h M) (I:Inv n M) (hn:n≤300)
  (hp:p<M.ax.length) (hq:q<M.ax.length) (hg':aB M.gs ⟨M.ax[p].oi,M.ax[p].og⟩=some k) (hj':aB M.cl ⟨M.ax[q].oi,M.ax[q].og⟩=some j2)
  (g0:fr.get 0=some (mp a)) (g10:fr.get 10=some (pt b10 0)) (x10:h.b.get b10=some (.cells [iv p,iv q] 211 true)) (l10:b10<h.n)
  (hQ:∀ fr' M' V' h',fr'.get 0=fr.get 0→fr'.get 5=fr.get 5→fr'.get 6=fr.get 6→fr'.get 7=fr.get 7→fr'.get 8=fr.get 8→fr'.get 9=fr.get 9→Nx n M M'→St a V' h' M'→Kp (own a V) (own a V') h h'→Q .normal fr' h'):IU.wp env 208 none fr h Q:=by
 obtain⟨hk,hi,hke⟩:=cE hg'
 obtain⟨hj2,hj2i,hj2e⟩:=cE hj'
 obtain⟨j1,hj1'⟩:=(I.G.live k hk hi).ctx
 obtain⟨hj1,hj1i,hj1e⟩:=cE hj1'
 obtain⟨i0,c0,hi0,oi0,mD,cp,cq⟩:=Ih s hp hq
 have cp5:=cp 5 2 ao
 have cq5:=cq 5 2 ao
 simp only[KD.cells,mB,eh,iX,iH]at cp5 cq5
 have b1:=ay (off:=1) l10 x10 rfl
 have lp0:(p:Int)<(M.ax.length:Int):=ah
 have lq0:(q:Int)<(M.ax.length:Int):=ah
 unfold mp at *
 have ww:=mW (aN (aN (aN Ye @mD) (aN @cp5 @cq5)) (aN (aN @bj0 @Gu) (aN @lp0 @lq0)))
 refine wk ?_
 obtain⟨h1,eh1⟩:=gz (ai h (.cells [iv 0,uv 0] 38 true))
 have X1:=tW eh1
 have gz:=Dj eh1
 have n1:=qk eh1
 have s1:=s.ext X1
 rw[eh1];try rw[eh1]at s1
 refine tQ (r:=⟨M.ax[p].oi,M.ax[p].og⟩) s1 (by have:=I.gl;omega) fun h2 x2=>?_
 have n2:=x2.n
 rw[hg']
 unfold fC
 have X2:aw h.n h h2:=X1.jI x2
 have am:=s.lt _ fE
 have k23a:=aD X2 am mD
 have cq5a:=aG X2 hi0 cq5
 have b1a:=aD X2 l10 b1
 have g2:=x2.cY gz
 have ww:=ww.a @dY
 refine wk ?_
 refine aM (off:=0) (cs':=[iv M.ax[q].oi,uv M.ax[q].og]) g2 rfl rfl rfl rfl ao ?_
 have X3:aw h.n h (aO h2 h.n (.cells [iv M.ax[q].oi,uv M.ax[q].og] 38 true)):=X2.trans (aw.set _ a_)
 have g3:(aO h2 h.n (.cells [iv M.ax[q].oi,uv M.ax[q].og] 38 true)).b.get h.n=some (.cells [iv M.ax[q].oi,uv M.ax[q].og] 38 true):=aF
 have n3:(aO h2 h.n (.cells [iv M.ax[q].oi,uv M.ax[q].og] 38 true)).n=h2.n:=rfl
 generalize aO h2 h.n (.cells [iv M.ax[q].oi,uv M.ax[q].og] 38 true)=h3 at X3 g3 n3 ⊢
 have s3:=s.ext X3
 have K3:Kp (own a V) (own a V) h h3:=Kp.ext X3
 have no:¬own a V h.n:=fun o=>dy _ (s.lt _ o)
 have gx:av h3 (ad a.g (k*21+2+4)) 2=some [iv M.gs[k].x.ctx.i,uv M.gs[k].x.ctx.g]:=by obtain⟨t,hb⟩:=s3.gs;exact dC (j:=6) (n:=2) hb (s3.lt _ qe) (ja (n:=19) fun _=>rfl) hk ao
 refine wk ?_
 have ww:=mW (aN aa0 @gx)
 refine wk ?_
 refine j_ (r:=M.gs[k].x.ctx) s3 I.cl fun h4 x4=>?_
 have n4:=x4.n
 have s4:=s3.ext x4
 have K4:=K3.trans (Kp.ext (O:=own a V) x4)
 rw[hj1']
 unfold fC
 have gx4:=aG x4 (s3.lt _ qe) gx
 obtain⟨w,hwl,hw,cr,cc,_⟩:=s4.Bi (k:=j1) hj1
 have c5:=cc 5 ao
 simp only[Ob.cells,XW.cells,cu,cR]at c5
 have ww:=ww.a (aN @c5 @dY)
 refine wk ?_
 refine C6 s4 (k:=j1) hj1 (j:=5) (w:=w) (y:={ w with x:={ w.x with dH:=IntKind.wrap .i64 (w.x.dH-1) } }) (x:=rP M.cl[j1]) (new:=[iv (IntKind.wrap .i64 (w.x.dH-1))]) ah ⟨hwl,hw⟩ rfl rfl rfl rfl ao ⟨cr.gen,cr.is,cr.iP,cr.ee,by show IntKind.wrap .i64 (w.x.dH-1)=IntKind.wrap .i64 (M.cl[j1].x.dH-1);rw[cr.dH],cr.ref⟩ fun V5 h5 s5 k5 n5=>?_
 have K5:=K4.trans k5
 have no5:¬own a V5 h.n:=fun o=>no (k5.own _ ah o)
 have g5:=(k5.get h.n ah no).trans (x4.cY g3)
 have r5:av h5 (ad h.n 0) 2=some [iv M.ax[q].oi,uv M.ax[q].og]:=aq ah g5 rfl rfl
 have wC:P_ (M.cl.set j1 (rP M.cl[j1])) M.cl:=CO hj1 rfl rfl
 have hj2s:j2<(M.cl.set j1 (rP M.cl[j1])).length:=by simpa using hj2
 have hj5:aB ({ M with cl:=M.cl.set j1 (rP M.cl[j1]) }:MD).cl ⟨M.ax[q].oi,M.ax[q].og⟩=some j2:=(wC.live _).trans hj'
 refine wk ?_
 have ww:=mW Yg
 refine wk ?_
 refine j_ (r:=⟨M.ax[q].oi,M.ax[q].og⟩) s5 (by show (M.cl.set j1 (rP M.cl[j1])).length≤1000;rw[cS];exact I.cl) fun h6 x6=>?_
 have n6:=x6.n
 have s6:=s5.ext x6
 have K6:=K5.trans (Kp.ext (O:=own a V5) x6)
 rw[hj5]
 unfold fC
 have r6:=aG x6 ah r5
 obtain⟨w',hwl',hw',cr',cc',_⟩:=s6.Bi (k:=j2) hj2s
 have c5':=cc' 5 ao
 simp only[Ob.cells,XW.cells,cu,cR]at c5'
 have ww:=ww.a (aN @c5' @dY)
 refine wk ?_
 refine C6 s6 (k:=j2) hj2s (j:=5) (w:=w') (y:={ w' with x:={ w'.x with dH:=IntKind.wrap .i64 (w'.x.dH+1) } }) (x:=Ab ((M.cl.set j1 (rP M.cl[j1]))[j2]'hj2s)) (new:=[iv (IntKind.wrap .i64 (w'.x.dH+1))]) ah ⟨hwl',hw'⟩ rfl rfl rfl rfl ao ⟨cr'.gen,cr'.is,cr'.iP,cr'.ee,by show IntKind.wrap .i64 (w'.x.dH+1)=IntKind.wrap .i64 (((M.cl.set j1 (rP M.cl[j1]))[j2]'hj2s).x.dH+1);rw[cr'.dH],cr'.ref⟩ fun V7 h7 s7 k7 n7=>?_
 have K7:=K6.trans k7
 have g7:=(k7.get h.n ah no5).trans (x6.cY g5)
 have r7:av h7 (ad h.n 0) 2=some [iv M.ax[q].oi,uv M.ax[q].og]:=aq ah g7 rfl rfl
 have q1:M.ax[q].oi=(j2:Int):=congrArg RR.i hj2e
 have q2:M.ax[q].og=(M.cl[j2].gen:Int):=congrArg RR.g hj2e
 rw[q1,q2]at r7
 refine wk ?_
 have ww:=mW W49
 refine wk ?_
 refine lY s7 (k:=k) hk (j:=6) (y:={ M.gs[k]with x:={ M.gs[k].x with ctx:=⟨(j2:Int),(M.cl[j2].gen:Int)⟩ } }) ah rfl rfl rfl rfl ao fun h8 s8 k8 n8=>?_
 refine wk ?_
 exact hQ _ _ V7 h8 aA aA aA aA aA aA ⟨(I.bind hk hi hj1 hj1' hj2 hj2i).mono (aL n),rfl,rfl,rfl,rfl,rfl⟩ s8 (K7.trans k8)
def aad:=(aN (aN (aN @jH @jK) (aN @jN @jf)) (aN (aN @jj @i_) (aN @jh @jk)))
def acd:=(aN (aN (aN @jH @jK) (aN @jN @jf)) (aN (aN @jj @i_) (aN @jh @jd)))
def xJ:=(aN (aN (aN @jH @jK) (aN @jf @jj)) (aN (aN @i_ @jh) (aN @jk @jd)))
def KC:=(aN (aN (aN @jH @jK) (aN @jf @jj)) (aN (aN @i_ @jk) @jd))
theorem Gi {a:Ad}{V:VD}{h:ak}{M:MD}{n k pp:Nat}{kd iw pk:Int}{r:RR}{c:Cj}{K:Value→ak→Prop}(s:St a V h M) (I:Inv n M) (hn:n≤300) (hr:aB M.gs r=some k) (hpp:pp<M.ps.length) (hc:1≤c.kind∧c.kind≤22) (ha1:0≤c.a1) (ha2:0≤c.a2) (hpr2:M.cfg.cG.length≤1000000)
  (hK:∀ (w e:Int) M' V' h',0≤w→Nc n M M'→St a V' h' M'→Kp (own a V) (own a V') h h'→K (.tuple #[uv w,iv e]) h'):cy env (.func 49) [mp a,.agg ⟨r.cells⟩,.agg ⟨[iv kd,iv pp,iv iw,iv pk]⟩,.agg ⟨c.cells⟩] h K:=by
 obtain⟨hk,hi,hre⟩:=cE hr
 obtain⟨ck,a0,a1,a2,a3,a4⟩:=c
 obtain⟨ri,rg⟩:=r
 obtain rfl:ri=(k:Int):=congrArg RR.i hre
 simp only[Cj.cells,RR.cells]at *
 have cl:=I.Iz hn
 obtain⟨h1,eh1⟩:=gz (ai (ai (ai h (.cells [iv k,uv rg] 38 true)) (.cells [iv kd,iv pp,iv iw,iv pk] 29 true)) (.cells [iv ck,uv a0,uv a1,uv a2,uv a3,uv a4] 43 true))
 have X3:aw h.n h h1:=eh1▸((aw.new _ a_).trans ((aw.new _ (aL _)).trans (aw.new _ (by show h.n≤h.n+1+1;omega))))
 have g5:h1.b.get h.n=some (.cells [iv k,uv rg] 38 true):=eh1▸((aK _ (by show h.n<h.n+1+1;omega)).trans ((aK _ (by show h.n<h.n+1;omega)).trans (az _ _)))
 have g6:h1.b.get (h.n+1)=some (.cells [iv kd,iv pp,iv iw,iv pk] 29 true):=eh1▸((aK _ (by show h.n+1<h.n+1+1;omega)).trans (az _ _))
 have g7:h1.b.get (h.n+1+1)=some (.cells [iv ck,uv a0,uv a1,uv a2,uv a3,uv a4] 43 true):=eh1▸(az _ _)
 have n3:h1.n=h.n+3:=eh1▸rfl
 have m1:(ai h (.cells [iv k,uv rg] 38 true)).n=h.n+1:=rfl
 have no5:¬own a V h.n:=fun o=>dy _ (s.lt _ o)
 have no6:¬own a V (h.n+1):=fun o=>absurd (s.lt _ o) ah
 have no7:¬own a V (h.n+1+1):=fun o=>absurd (s.lt _ o) ah
 unfold mp at *
 refine F49 rfl ?_
 have ww:=mW (aN aad @m1)
 refine wk ?_
 rw[eh1]
 have s1:=s.ext X3
 clear m1
 have d7:av h1 (ad (h.n+1+1) 0) 6=some [iv ck,uv a0,uv a1,uv a2,uv a3,uv a4]:=aq ah g7 rfl rfl
 have ww:=mW acd
 refine wk ?_
 refine Pu (x:=⟨ck,a0,a1,a2,a3,a4⟩) s1 cl.1 I.bP (by have:=I.gl;omega) I.cl I.sl fun p q e h2 x2 hp hq hN=>?_
 have n2:=x2.n
 refine wk ?_
 obtain⟨h3,eh3⟩:=gz (ai h2 (.cells [iv p,iv q] 211 true))
 have X4:aw h1.n h1 h3:=eh3▸(x2.trans (aw.new _ ah))
 have g10:=Dj eh3
 have n4:=qk eh3
 rw[eh3]
 have XX:aw h.n h h3:=X3.jI X4
 have s3:=s.ext XX
 have K3:Kp (own a V) (own a V) h h3:=Kp.ext XX
 have y5:=X4.cY g5
 have y6:=X4.cY g6
 have y7:=X4.cY g7
 have nx0:Nx n M M:=⟨I.mono (aL n),rfl,rfl,rfl,rfl,rfl⟩
 have fin:∀ (fr:Go.Ev.Fr) M' V' h' (w e:Int),0≤w→Nx n M M'→St a V' h' M'→Kp (own a V) (own a V') h3 h'→fr.get 0=some (mp a)→fr.get 5=some (pt h.n 0)→fr.get 6=some (pt (h.n+1) 0)→fr.get 7=some (pt (h.n+1+1) 0)→fr.get 8=some (uv w)→fr.get 9=some (iv e)→D3.wp env 208 none fr h' (cW env [.tmp 8,.tmp 9] K):=fun fr M' V' h' w e hw nx s' k' q0 q5 q6 q7 q8 q9=>by have n':=k'.n;exact Ng (r:=⟨(k:Int),rg⟩) (c:=⟨ck,a0,a1,a2,a3,a4⟩) s' (K3.trans k') nx I.calls hn hw q0 q5 q6 q7 q8 q9 ((k'.get h.n ah no5).trans y5) ((k'.get (h.n+1) ah no6).trans y6) ((k'.get (h.n+1+1) ah no7).trans y7) ah ah ah (fun o=>no5 (k'.own _ ah o)) (fun o=>no6 (k'.own _ ah o)) (fun o=>no7 (k'.own _ ah o)) hK
 have mid:∀ fr:Go.Ev.Fr,fr.get 0=some (mp a)→fr.get 5=some (pt h.n 0)→fr.get 6=some (pt (h.n+1) 0)→fr.get 7=some (pt (h.n+1+1) 0)→fr.get 8=some (uv 0)→fr.get 9=some (iv e)→fr.get 10=some (pt h2.n 0)→IW.wp env 208 none fr h3 (cW env [.tmp 8,.tmp 9] K):=by
  intro fr f0 f5 f6 f7 f8 f9 f10;unfold mp at f0;have d6:av h3 (ad (h.n+1) 0) 4=some [iv kd,iv pp,iv iw,iv pk]:=aq ah y6 rfl rfl;have d7:av h3 (ad (h.n+1+1) 0) 6=some [iv ck,uv a0,uv a1,uv a2,uv a3,uv a4]:=aq ah y7 rfl rfl;have d10:av h3 (ad h2.n 0) 2=some [iv p,iv q]:=aq ah g10 rfl rfl;by_cases h0:¬e=0;·have ww:=mW (aN xJ @h0);refine wk ?_;exact fin _ M _ _ 0 e (bN 0) nx0 s3 (Kp.refl _ _) (by simp[T.aj,f0,mp]) (by simp[T.aj,f5]) (by simp[T.aj,f6]) (by simp[T.aj,f7]) (by simp[T.aj,f8]) (by simp[T.aj,f9])
  obtain rfl:e=0:=lx.1 h0;have hN:=hN rfl;by_cases h4:ck≤4;·have ww:=mW (aN xJ @h4);refine wk ?_;refine Ou (c:=⟨ck,a0,a1,a2,a3,a4⟩) s3 I hn hk hi fun e' M' V' h' nx s' k'=>?_;have n':=k'.n;refine wk ?_;exact fin _ M' _ _ 0 e' (bN 0) nx s' k' (by simp[T.aj,f0,mp]) (by simp[T.aj,f5]) (by simp[T.aj,f6]) (by simp[T.aj,f7]) (by simp[T.aj,f8]) (by simp[T.aj,f9])
  have s_p:∀ (hj:0<(cI ck).length),∃ p':Nat,p=(p':Int):=fun hj=>by obtain⟨p',e',_⟩:=hN 0 hj;rw[if_pos rfl]at e';exact⟨p',e'⟩
  by_cases h5:ck=5;·subst h5;have N0:=hN 0 (by show 0<2;decide);have N1:=hN 1 (by show 1<2;decide);rw[if_pos rfl]at N0;rw[if_neg ao]at N1;obtain⟨p',rfl,_⟩:=id N0;obtain⟨q',rfl,_⟩:=id N1;obtain⟨hp',d,hd⟩:=N0.d rfl rfl;obtain⟨hq',j,hj⟩:=N1.c rfl rfl;have ww:=mW xJ;refine wk ?_;refine Lw (c:=⟨5,a0,a1,a2,a3,a4⟩) s3 I hn hp' hq' hd hj hpp ha2 hpr2 fun e' M' V' h' nx s' k'=>?_;have n':=k'.n;refine wk ?_;exact fin _ M' _ _ 0 e' (bN 0) nx s' k' (by simp[T.aj,f0,mp]) (by simp[T.aj,f5]) (by simp[T.aj,f6]) (by simp[T.aj,f7]) (by simp[T.aj,f8]) (by simp[T.aj,f9])
  by_cases h11:ck=11;·subst h11;have N0:=hN 0 (by show 0<2;decide);have N1:=hN 1 (by show 1<2;decide);rw[if_pos rfl]at N0;rw[if_neg ao]at N1;obtain⟨p',rfl,_⟩:=id N0;obtain⟨q',rfl,_⟩:=id N1;obtain⟨hp',d,hd⟩:=N0.g rfl rfl;obtain⟨hq',j,hj⟩:=N1.c rfl rfl;have ww:=mW KC;refine wk ?_;refine TE s3 I hn hp' hq' hd hj (by simp[T.aj,f0,mp]) (by simp[T.aj,f10]) g10 ah fun fr' M' V' h' q0 q5 q6 q7 q8 q9 nx s' k'=>?_;have n':=k'.n;have ww:=mW xJ;refine wk ?_;exact fin _ M' _ _ 0 0 (bN 0) nx s' k' (q0.trans (by simp[T.aj,f0,mp])) (q5.trans (by simp[T.aj,f5])) (q6.trans (by simp[T.aj,f6])) (q7.trans (by simp[T.aj,f7])) (q8.trans (by simp[T.aj,f8])) (q9.trans (by simp[T.aj,f9]))
  have h610:ck<12→ck=6∨ck=7∨ck=8∨ck=9∨ck=10:=fun h=>ah;have hlen:0<(cI ck).length:=by have:ck=6∨ck=7∨ck=8∨ck=9∨ck=10∨ck=12∨ck=13∨ck=14∨ck=15∨ck=16∨ck=17∨ck=18∨ck=19∨ck=20∨ck=21∨ck=22:=ah;rcases this with rfl|rfl|rfl|rfl|rfl|rfl|rfl|rfl|rfl|rfl|rfl|rfl|rfl|rfl|rfl|rfl<;>decide
  have N0:=hN 0 hlen;rw[if_pos rfl]at N0;obtain⟨p',rfl,hp',_⟩:=id N0;obtain⟨q',rfl,hq'⟩:∃ q':Nat,q=(q':Int)∧q'<M.ax.length:=by
   rcases hq with rfl|⟨q',rfl,hq'⟩;·exact⟨0,rfl,ah⟩
   ·exact⟨q',rfl,hq'⟩
  by_cases h12:ck<12
  ·obtain⟨_,z,hz⟩:∃ hp:p'<M.ax.length,∃ z,aB M.gs ⟨M.ax[p'].oi,M.ax[p'].og⟩=some z:=by rcases h610 h12 with rfl|rfl|rfl|rfl|rfl<;>exact N0.g rfl rfl
   obtain⟨i0,c0,eV,hi0,oi,mD,cA,cN⟩:=mg s3 hp';have cp5:=cN 5 2 ao;simp only[KD.cells,mB,eh,iX,iH]at cp5;have lp0:(p':Int)<(M.ax.length:Int):=ah;have ww:=mW (aN (aN (aN (aN xJ @h4) @h5) (aN @h11 @h12)) (aN (aN @mD @cp5) (aN @bj0 @lp0)));refine wk ?_;refine KI (r:=⟨M.ax[p'].oi,M.ax[p'].og⟩) (c:=⟨ck,a0,a1,a2,a3,a4⟩) s3 I hn hz hpp ha1 fun e' M' V' h' nx s' k'=>?_;have n':=k'.n;refine wk ?_;exact fin _ M' _ _ 0 e' (bN 0) nx s' k' (by simp[T.aj,f0,mp]) (by simp[T.aj,f5]) (by simp[T.aj,f6]) (by simp[T.aj,f7]) (by simp[T.aj,f8]) (by simp[T.aj,f9])
  ·have ww:=mW (aN (aN (aN xJ @h4) @h5) (aN @h11 @h12));refine wk ?_;refine Ln (c:=⟨ck,a0,a1,a2,a3,a4⟩) s3 I hn hp' hq' ha1 ha2 ⟨by show 12≤ck;omega,hc.2⟩ hN fun w e' M' V' h' hw nx s' k'=>?_;have n':=k'.n;refine wk ?_;exact fin _ M' _ _ w e' hw nx s' k' (by simp[T.aj,f0,mp]) (by simp[T.aj,f5]) (by simp[T.aj,f6]) (by simp[T.aj,f7]) (by simp[T.aj,f8]) (by simp[T.aj,f9])
 exact mid _ (by simp[T.aj,mp]) aA aA aA aA aA aA
theorem KZ {x y:Int}{h:ak}{K:Value→ak→Prop}(hK:∀ hi lo,0≤hi→0≤lo→K (.tuple #[uv hi,uv lo]) h):cy env (.func 141) [uv x,uv y] h K:=by refine F141 rfl ?_;refine wk ?_;exact hK _ _ (jX _) (jX _)
theorem CT {x b:Int}{c:Bool}{h:ak}{K:Value→ak→Prop}(hK:∀ z,(0≤x→0≤b→0≤z)→K (uv z) h):cy env (.func 140) [uv x,.bool c,uv b] h K:=by
 refine F140 rfl ?_;cases c;·refine wk ?_;exact hK _ fun _ h=>h
 ·refine wk ?_;exact hK _ fun h _=>h
theorem LX {x y:Int}{h:ak}{K:Value→ak→Prop}(hx:0≤x) (hy:0≤y) (hK:∀ z c,0≤z→K (.tuple #[uv z,uv c]) h):cy env (.func 139) [uv x,uv y,uv 0] h K:=by
 refine cy.ext (v:=.tuple #[uv ((x+y+0)%18446744073709551616),uv ((x+y+0) / 18446744073709551616)]) ?_ (hK _ _ (Int.emod_nonneg _ ao));show Ra 139 [uv x,uv y,uv 0] h=_;have h1:(decide (0≤x)&&decide (0≤y)&&decide ((0:Int)≤0)&&decide ((0:Int)≤1))=true:=by simp[hx,hy]
 simp only[Ra,sD,kz,sQ,h1,cond_true];rfl
theorem SV {x y:Int}{h:ak}{K:Value→ak→Prop}(hx:0≤x) (hy:0≤y) (hK:∀ z b,0≤z→K (.tuple #[uv z,.bool b]) h):cy env (.func 93) [uv x,uv y] h K:=by refine F93 rfl ?_;refine wk ?_;refine LX hx hy fun z c hz=>?_;refine wk ?_;refine wN (fun _=>?_) (fun _=>?_)<;>refine wk ?_;all_goals
  refine CT fun z' hz'=>?_
  (repeat' (first|(with_reducible show gV _ (rg _ _) _ _ _;first|with_reducible refine Ef ?_)|(with_reducible show lW _ _ _;first|with_reducible refine CJ ?_|with_reducible refine CS ?_|with_reducible refine wN (fun _=>?_) (fun _=>?_))|(with_reducible show _∧_;first|with_reducible refine CU ?_|with_reducible refine CN ?_|with_reducible refine Ea ?_)|(with_reducible show jQ _ _ _ _ _;first|with_reducible refine C1 ?_)|(with_reducible show vX _ _ _ _ _ _ _;first|with_reducible refine C9 ?_)|(with_reducible show yb _ _ _ _;first|with_reducible refine Du ?_)|(with_reducible show lU _ _ _ _;first|with_reducible refine C0 ?_)|(with_reducible show eR _ _ _;first|with_reducible refine Dd ?_|with_reducible refine Ei ?_)|(with_reducible show de (cellAt _ _) _;first|with_reducible refine Cz ?_|with_reducible refine C_ ?_|with_reducible refine DZ ?_)|(with_reducible show de (av _ _ _) _;first|with_reducible refine BZ ?_|with_reducible refine D1 ?_)|simp -dsimp only[↓ww.o,↓WB,WP,WS,bE,Nat.reduceEqDiff,Nat.reduceAdd]|simp -dsimp only[↓WB,WP,WS,bE,Nat.reduceEqDiff,Nat.reduceAdd]|(with_reducible show dJ _ _ _ _ _;refine DU ?_)|simp -dsimp (disch:=(first|with_reducible assumption|(with_reducible refine hag _ ?_;rfl)|(with_reducible show _<_;omega))) only [CP,DX,CI,D7]|simp -dsimp (disch:=(first|with_reducible assumption|(with_reducible refine hag _ ?_;rfl)|(with_reducible show _<_;omega))) only [Dz,cL,p_,List.getElem?_cons_zero,List.getElem?_cons_succ]|simp -dsimp (disch:=(first|with_reducible assumption|(with_reducible show _<_;omega)|(with_reducible show GetElem?.getElem? _ _=_;with_unfolding_all rfl)|(with_reducible show List.length _=_;with_unfolding_all rfl))) only [DM,qp]|simp -dsimp (disch:=(conv=>lhs;cbv)) only [Dl]))
  exact hK _ _ (hz' hz (bN 0))
theorem Tf {x y:Int}{h:ak}{K:Value→ak→Prop}(hK:∀ z b,0≤z→K (.tuple #[uv z,.bool b]) h):cy env (.func 94) [uv x,uv y] h K:=by refine F94 rfl ?_;refine wk ?_;refine wN (fun _=>?_) (fun _=>?_)<;>refine wk ?_;all_goals
  refine CT fun z hz=>?_
  (repeat' (first|(with_reducible show gV _ (rg _ _) _ _ _;first|with_reducible refine Ef ?_)|(with_reducible show lW _ _ _;first|with_reducible refine CJ ?_|with_reducible refine CS ?_|with_reducible refine wN (fun _=>?_) (fun _=>?_))|(with_reducible show _∧_;first|with_reducible refine CU ?_|with_reducible refine CN ?_|with_reducible refine Ea ?_)|(with_reducible show jQ _ _ _ _ _;first|with_reducible refine C1 ?_)|(with_reducible show vX _ _ _ _ _ _ _;first|with_reducible refine C9 ?_)|(with_reducible show yb _ _ _ _;first|with_reducible refine Du ?_)|(with_reducible show lU _ _ _ _;first|with_reducible refine C0 ?_)|(with_reducible show eR _ _ _;first|with_reducible refine Dd ?_|with_reducible refine Ei ?_)|(with_reducible show de (cellAt _ _) _;first|with_reducible refine Cz ?_|with_reducible refine C_ ?_|with_reducible refine DZ ?_)|(with_reducible show de (av _ _ _) _;first|with_reducible refine BZ ?_|with_reducible refine D1 ?_)|simp -dsimp only[↓ww.o,↓WB,WP,WS,bE,Nat.reduceEqDiff,Nat.reduceAdd]|simp -dsimp only[↓WB,WP,WS,bE,Nat.reduceEqDiff,Nat.reduceAdd]|(with_reducible show dJ _ _ _ _ _;refine DU ?_)|simp -dsimp (disch:=(first|with_reducible assumption|(with_reducible refine hag _ ?_;rfl)|(with_reducible show _<_;omega))) only [CP,DX,CI,D7]|simp -dsimp (disch:=(first|with_reducible assumption|(with_reducible refine hag _ ?_;rfl)|(with_reducible show _<_;omega))) only [Dz,cL,p_,List.getElem?_cons_zero,List.getElem?_cons_succ]|simp -dsimp (disch:=(first|with_reducible assumption|(with_reducible show _<_;omega)|(with_reducible show GetElem?.getElem? _ _=_;with_unfolding_all rfl)|(with_reducible show List.length _=_;with_unfolding_all rfl))) only [DM,qp]|simp -dsimp (disch:=(conv=>lhs;cbv)) only [Dl]))
  exact hK _ _ (hz (jX _) (bN 0))
theorem SW {x y:Int}{h:ak}{K:Value→ak→Prop}(hK:∀ z b,0≤z→K (.tuple #[uv z,.bool b]) h):cy env (.func 95) [uv x,uv y] h K:=by refine F95 rfl ?_;refine wk ?_;refine KZ fun hi lo h1 h2=>?_;refine wk ?_;refine wN (fun _=>?_) (fun _=>?_)<;>refine wk ?_;all_goals
  refine CT fun z hz=>?_
  (repeat' (first|(with_reducible show gV _ (rg _ _) _ _ _;first|with_reducible refine Ef ?_)|(with_reducible show lW _ _ _;first|with_reducible refine CJ ?_|with_reducible refine CS ?_|with_reducible refine wN (fun _=>?_) (fun _=>?_))|(with_reducible show _∧_;first|with_reducible refine CU ?_|with_reducible refine CN ?_|with_reducible refine Ea ?_)|(with_reducible show jQ _ _ _ _ _;first|with_reducible refine C1 ?_)|(with_reducible show vX _ _ _ _ _ _ _;first|with_reducible refine C9 ?_)|(with_reducible show yb _ _ _ _;first|with_reducible refine Du ?_)|(with_reducible show lU _ _ _ _;first|with_reducible refine C0 ?_)|(with_reducible show eR _ _ _;first|with_reducible refine Dd ?_|with_reducible refine Ei ?_)|(with_reducible show de (cellAt _ _) _;first|with_reducible refine Cz ?_|with_reducible refine C_ ?_|with_reducible refine DZ ?_)|(with_reducible show de (av _ _ _) _;first|with_reducible refine BZ ?_|with_reducible refine D1 ?_)|simp -dsimp only[↓ww.o,↓WB,WP,WS,bE,Nat.reduceEqDiff,Nat.reduceAdd]|simp -dsimp only[↓WB,WP,WS,bE,Nat.reduceEqDiff,Nat.reduceAdd]|(with_reducible show dJ _ _ _ _ _;refine DU ?_)|simp -dsimp (disch:=(first|with_reducible assumption|(with_reducible refine hag _ ?_;rfl)|(with_reducible show _<_;omega))) only [CP,DX,CI,D7]|simp -dsimp (disch:=(first|with_reducible assumption|(with_reducible refine hag _ ?_;rfl)|(with_reducible show _<_;omega))) only [Dz,cL,p_,List.getElem?_cons_zero,List.getElem?_cons_succ]|simp -dsimp (disch:=(first|with_reducible assumption|(with_reducible show _<_;omega)|(with_reducible show GetElem?.getElem? _ _=_;with_unfolding_all rfl)|(with_reducible show List.length _=_;with_unfolding_all rfl))) only [DM,qp]|simp -dsimp (disch:=(conv=>lhs;cbv)) only [Dl]))
  exact hK _ _ (hz h2 (bN 0))
theorem JC {a:Option Addr}{n c:Nat}{h:ak}{K:Value→ak→Prop}(hK:∀ z,K (iv z) h):cy env (.func 48) [.slice a n c] h K:=by refine F48 rfl ?_;refine wk ?_;exact hK _
theorem Ao {o a b c:Int}{h:ak}{K:Value→ak→Prop}(hK:∀ z h',aw h.n h h'→K (iv z) h'):cy env (.func 92) [.agg ⟨[.int .u8 o,.int .u8 a,.int .u8 b,.int .u8 c]⟩] h K:=by refine F92 rfl ?_;have ww:=mW @Nz;refine wk ?_;exact hK _ _ br
theorem Od {o a b c:Int}{h:ak}{K:Value→ak→Prop}(hK:∀ z h',aw h.n h h'→K (iv z) h'):cy env (.func 96) [.agg ⟨[.int .u8 o,.int .u8 a,.int .u8 b,.int .u8 c]⟩] h K:=by refine F96 rfl ?_;refine wk ?_;refine Ao fun z h' x=>?_;have n1:=x.n;refine wk ?_;exact hK _ _ ((aw.new (B:=h.n) _ a_).trans (x.mono (aL _)))
def JE:=(aN (aN (aN @tT @pH) @qd) (aN @pY @px))
def Xb:=(aN (aN (aN @tE @tw) @pH) (aN (aN @qd @pY) @px))
def X_:=(aN (aN (aN @tE @tw) @tT) (aN (aN @pH @qd) @pY))
def XU:=(aN (aN (aN @tE @tw) @tT) (aN (aN @pH @qd) @px))
def xG:=(aN (aN (aN @tE @tw) @tT) (aN (aN @qd @pY) @px))
def He:=(aN (aN (aN @tE @tw) @tT) (aN (aN @pH @pY) @px))
def GD.yn (x:GD):Nat→Int
 | 0=>x.r0|1=>x.r1|2=>x.r2|3=>x.r3|4=>x.r4|5=>x.r5|6=>x.r6|_=>x.r7
def GD.rN (x:GD) (v:Int):Nat→GD
 | 0=>{ x with r0:=v }|1=>{ x with r1:=v }|2=>{ x with r2:=v }|3=>{ x with r3:=v }|4=>{ x with r4:=v }|5=>{ x with r5:=v }|6=>{ x with r6:=v }|_=>{ x with r7:=v }
theorem GD.xK (x:GD):∀ r,r<8→x.cells[9+r]?=some (uv (x.yn r))
 | 0,_|1,_|2,_|3,_|4,_|5,_|6,_|7,_=>rfl
 | n+8,h=>absurd h ah
theorem GD.pW (x:GD) (v:Int):∀ r,r<8→fV x.cells (9+r) [uv v]=some (x.rN v r).cells
 | 0,_|1,_|2,_|3,_|4,_|5,_|6,_|7,_=>rfl
 | n+8,h=>absurd h ah
structure yJ (x y:GD):Prop where
 gG:y.gG=x.gG
 ctx:y.ctx=x.ctx
 jF:y.jF=x.jF
 prog:y.prog=x.prog
 yn:oa x→oa y
theorem yJ.refl (x:GD):yJ x x:=⟨rfl,rfl,rfl,rfl,fun h=>h⟩
theorem yJ.rN (x:GD) {v:Int}(hv:0≤v):∀ r,yJ x (x.rN v r)
 | 0=>⟨rfl,rfl,rfl,rfl,fun ⟨a,b,c,d,e,f,g,h⟩=>⟨hv,b,c,d,e,f,g,h⟩⟩
 | 1=>⟨rfl,rfl,rfl,rfl,fun ⟨a,b,c,d,e,f,g,h⟩=>⟨a,hv,c,d,e,f,g,h⟩⟩
 | 2=>⟨rfl,rfl,rfl,rfl,fun ⟨a,b,c,d,e,f,g,h⟩=>⟨a,b,hv,d,e,f,g,h⟩⟩
 | 3=>⟨rfl,rfl,rfl,rfl,fun ⟨a,b,c,d,e,f,g,h⟩=>⟨a,b,c,hv,e,f,g,h⟩⟩
 | 4=>⟨rfl,rfl,rfl,rfl,fun ⟨a,b,c,d,e,f,g,h⟩=>⟨a,b,c,d,hv,f,g,h⟩⟩
 | 5=>⟨rfl,rfl,rfl,rfl,fun ⟨a,b,c,d,e,f,g,h⟩=>⟨a,b,c,d,e,hv,g,h⟩⟩
 | 6=>⟨rfl,rfl,rfl,rfl,fun ⟨a,b,c,d,e,f,g,h⟩=>⟨a,b,c,d,e,f,hv,h⟩⟩
 | _+7=>⟨rfl,rfl,rfl,rfl,fun ⟨a,b,c,d,e,f,g,h⟩=>⟨a,b,c,d,e,f,g,hv⟩⟩
theorem oa.yn {x:GD}(h:oa x):∀ r,0≤x.yn r
 | 0=>h.1|1=>h.2.1|2=>h.2.2.1|3=>h.2.2.2.1|4=>h.2.2.2.2.1|5=>h.2.2.2.2.2.1|6=>h.2.2.2.2.2.2.1|_+7=>h.2.2.2.2.2.2.2
theorem wU (y:GD):fV GD.zero.cells 0 y.cells=some y.cells:=rfl
theorem yJ.pc (x:GD) (v:Int):yJ x { x with pc:=v }:=⟨rfl,rfl,rfl,rfl,fun h=>h⟩
theorem yJ.trans {x y z:GD}(h:yJ x y) (k:yJ y z):yJ x z:=⟨k.gG.trans h.gG,k.ctx.trans h.ctx,k.jF.trans h.jF,k.prog.trans h.prog,fun r=>k.yn (h.yn r)⟩
theorem Ff {N b6 b8 vn vc:Nat}{va:Option Addr}{x:GD}{nxt:Int}{h:ak}{fr:Go.Ev.Fr}{K:Value→ak→Prop}(B6:iI h b6 x.cells 81) (B8:iI h b8 GD.zero.cells 81) (h6:N≤b6) (h8:N≤b8) (ne:b6≠b8)
  (g1:fr.get 1=some (.slice va vn vc)) (g6:fr.get 6=some (pt b6 0)) (g8:fr.get 8=some (pt b8 0)) (g13:fr.get 13=some (iv nxt))
  (hK:∀ (x':GD) (e:Int) h',aw N h h'→yJ x x'→K (.tuple #[.agg ⟨x'.cells⟩,iv e]) h'):ON.wp env 120 none fr h (cW env [.cell 8 81,.tmp 9] K):=by
 have cx:av h (ad b6 0) 19=some x.cells:=aq B6.lt B6.get rfl rfl
 have bad:∀ fr1:Go.Ev.Fr,fr1.get 6=some (pt b6 0)→fr1.get 8=some (pt b8 0)→P5.wp env 120 none fr1 h (vi (JW.wp env 120 none) (cW env [.cell 8 81,.tmp 9] K)):=fun fr1 q6 q8=>by have ww:=mW W50;refine wk ?_;refine fa (cs':=x.cells) B8.get rfl rfl (wU x) rfl ao ?_;have bx:=B8.set (cs':=x.cells);have cx':av { h with b:=h.b.set b8 (.cells x.cells 81 true) } ⟨b8,0,none⟩ 19=some x.cells:=aq bx.lt bx.get rfl rfl;refine wk ?_;exact hK x 7 _ (aw.set _ h8) (yJ.refl x)
 have good:∀ fr1:Go.Ev.Fr,fr1.get 6=some (pt b6 0)→fr1.get 8=some (pt b8 0)→fr1.get 13=some (iv nxt)→JW.wp env 120 none fr1 h (cW env [.cell 8 81,.tmp 9] K):=fun fr1 q6 q8 q13=>by have ww:=mW W50;refine wk ?_;refine fa (off:=8) (cs':=({ x with pc:=nxt }:GD).cells) B6.get rfl rfl rfl rfl ao ?_;have bx:=B6.set (cs':=({ x with pc:=nxt }:GD).cells);have by8:iI { h with b:=h.b.set b6 (.cells ({ x with pc:=nxt }:GD).cells 81 true) } b8 GD.zero.cells 81:=⟨B8.lt,by show T.get (T.set h.b b6 _) b8=_;rw[T.aR _ _ ne];exact B8.get⟩;have cx':av { h with b:=h.b.set b6 (.cells ({ x with pc:=nxt }:GD).cells 81 true) } ⟨b6,0,none⟩ 19=some ({ x with pc:=nxt }:GD).cells:=aq bx.lt bx.get rfl rfl;have X1:aw N h { h with b:=h.b.set b6 (.cells ({ x with pc:=nxt }:GD).cells 81 true) }:=aw.set _ h6;generalize ({ h with b:=h.b.set b6 (.cells ({ x with pc:=nxt }:GD).cells 81 true) }:ak)=h1 at bx by8 cx' X1 ⊢;refine wk ?_;refine fa (cs':=({ x with pc:=nxt }:GD).cells) by8.get rfl rfl (wU _) rfl ao ?_;have bz:=by8.set (cs':=({ x with pc:=nxt }:GD).cells);have cz:av { h1 with b:=h1.b.set b8 (.cells ({ x with pc:=nxt }:GD).cells 81 true) } ⟨b8,0,none⟩ 19=some ({ x with pc:=nxt }:GD).cells:=aq bz.lt bz.get rfl rfl;refine wk ?_;exact hK _ 0 _ (X1.trans (aw.set _ h8)) (yJ.pc x nxt)
 by_cases hneg:nxt<0
 ·have ww:=mW (aN JE @hneg);refine wk ?_;exact bad _ (by simp[T.aj,g6]) (by simp[T.aj,g8])
 ·have ww:=mW (aN JE @hneg);refine wk ?_;refine JC fun z=>?_;by_cases hz:z<nxt;·have ww:=ww.a @hz;refine wk ?_;exact bad _ (by simp[T.aj,g6]) (by simp[T.aj,g8])
  ·have ww:=ww.a @hz;refine wk ?_;exact good _ (by simp[T.aj,g6]) (by simp[T.aj,g8]) (by simp[T.aj,g13])
theorem KN {N b6 b7 b8 vn vc:Nat}{va:Option Addr}{x:GD}{nxt:Int}{is jp:Bool}{o a b c:UInt8}{h:ak}{fr:Go.Ev.Fr}{K:Value→ak→Prop}(B6:iI h b6 x.cells 81) (B7:iI h b7 [.int .u8 (o.toNat:Int),.int .u8 (a.toNat:Int),.int .u8 (b.toNat:Int),.int .u8 (c.toNat:Int)] 148) (B8:iI h b8 GD.zero.cells 81) (h6:N≤b6) (h8:N≤b8) (ne:b6≠b8)
   (g1:fr.get 1=some (.slice va vn vc)) (g6:fr.get 6=some (pt b6 0)) (g7:fr.get 7=some (pt b7 0)) (g8:fr.get 8=some (pt b8 0)) (g10:fr.get 10=some (.bool is)) (g13:fr.get 13=some (iv nxt)) (g15:fr.get 15=some (.bool jp))
   (hK:∀ (x':GD) (e:Int) h',aw N h h'→yJ x x'→K (.tuple #[.agg ⟨x'.cells⟩,iv e]) h'):DO.wp env 120 none fr h (cW env [.cell 8 81,.tmp 9] K):=by
 have cx:av h (ad b6 0) 19=some x.cells:=aq B6.lt B6.get rfl rfl
 have c7:av h (ad b7 0) 4=some [.int .u8 (o.toNat:Int),.int .u8 (a.toNat:Int),.int .u8 (b.toNat:Int),.int .u8 (c.toNat:Int)]:=aq B7.lt B7.get rfl rfl
 cases is with
 | false =>
   have ww:=mW W50
   refine wk ?_
   refine fa (cs':=x.cells) B8.get rfl rfl (wU x) rfl ao ?_
   have bx:=B8.set (cs':=x.cells)
   have cx':av { h with b:=h.b.set b8 (.cells x.cells 81 true) } ⟨b8,0,none⟩ 19=some x.cells:=aq bx.lt bx.get rfl rfl
   refine wk ?_
   exact hK x 6 _ (aw.set _ h8) (yJ.refl x)
 | true =>
   cases jp with
   | false =>
     have ww:=mW Xb
     refine wk ?_
     exact Ff (va:=va) (vn:=vn) (vc:=vc) (nxt:=nxt) B6 B8 h6 h8 ne (by simp[T.aj,g1]) (by simp[T.aj,g6]) (by simp[T.aj,g8]) (by simp[T.aj,g13]) hK
   | true =>
     have ww:=mW Xb
     refine wk ?_
     refine Od fun z h1 x1=>?_
     have n1:=x1.n
     refine wk ?_
     have B6':=B6.ext x1 B6.lt
     have B8':=B8.ext x1 B8.lt
     exact Ff (va:=va) (vn:=vn) (vc:=vc) (nxt:=IntKind.wrap .i64 (nxt+z)) B6' B8' h6 h8 ne (by simp[T.aj,g1]) (by simp[T.aj,g6]) (by simp[T.aj,g8]) (by simp[T.aj,g13]) fun x' e h' x2 q=>hK x' e h' ((x1.mono (by have:=B6.lt;omega)).trans x2) q
theorem Io {mv:Value}{va:Option Addr}{vn vc:Nat}{x:GD}{o a b c:UInt8}{h:ak}{K:Value→ak→Prop}(hr:oa x)
  (hK:∀ (x':GD) (e:Int) h',aw h.n h h'→yJ x x'→K (.tuple #[.agg ⟨x'.cells⟩,iv e]) h'):cy env (.func 50) [mv,.slice va vn vc,.agg ⟨x.cells⟩,NZ o a b c] h K:=by
 unfold NZ
 simp only[bK]
 have hA:a.toNat%8<8:=nj _ ao
 have hB:b.toNat%8<8:=nj _ ao
 have hC:c.toNat%8<8:=nj _ ao
 have tA:((a.toNat:Int).tmod 8)=((a.toNat%8:Nat):Int):=rfl
 have tB:((b.toNat:Int).tmod 8)=((b.toNat%8:Nat):Int):=rfl
 have tC:((c.toNat:Int).tmod 8)=((c.toNat%8:Nat):Int):=rfl
 generalize a.toNat%8=rA at hA tA
 generalize b.toNat%8=rB at hB tB
 generalize c.toNat%8=rC at hC tC
 have iB:(rB:Int)<8:=ah
 have iC:(rC:Int)<8:=ah
 have iA:(rA:Int)<8:=ah
 refine F50 rfl ?_
 have ww:=mW X_
 refine wk ?_
 obtain⟨h1,eh1⟩:=gz (ai (ai (ai h (.cells x.cells 81 true)) (.cells [.int .u8 (o.toNat:Int),.int .u8 (a.toNat:Int),.int .u8 (b.toNat:Int),.int .u8 (c.toNat:Int)] 148 true)) (.cells GD.zero.cells 81 true))
 have X1:aw h.n h h1:=eh1▸((aw.new _ a_).trans ((aw.new _ (aL _)).trans (aw.new _ (by show h.n≤h.n+1+1;omega))))
 have B6:iI h1 h.n x.cells 81:=eh1▸(⟨by show h.n<h.n+1+1+1;omega,(aK _ (by show h.n<h.n+1+1;omega)).trans ((aK _ (by show h.n<h.n+1;omega)).trans (az _ _))⟩)
 have B7:iI h1 (h.n+1) [.int .u8 (o.toNat:Int),.int .u8 (a.toNat:Int),.int .u8 (b.toNat:Int),.int .u8 (c.toNat:Int)] 148:=eh1▸(⟨by show h.n+1<h.n+1+1+1;omega,(aK _ (by show h.n+1<h.n+1+1;omega)).trans (az _ _)⟩)
 have B8:iI h1 (h.n+1+1) GD.zero.cells 81:=eh1▸(⟨by show h.n+1+1<h.n+1+1+1;omega,az _ _⟩)
 show Hf.wp env 120 none _ (ai (ai (ai h (.cells x.cells 81 true)) (.cells [.int .u8 (o.toNat:Int),.int .u8 (a.toNat:Int),.int .u8 (b.toNat:Int),.int .u8 (c.toNat:Int)] 148 true)) (.cells GD.zero.cells 81 true)) _
 rw[eh1]
 have i0:=B7.at_ (j:=0) rfl
 have i1:=B7.at_ (j:=1) rfl
 have i2:=B7.at_ (j:=2) rfl
 have i3:=B7.at_ (j:=3) rfl
 have cA:=B6.at_ (GD.xK x rA hA)
 have cB:=B6.at_ (GD.xK x rB hB)
 have cC:=B6.at_ (GD.xK x rC hC)
 have cP:=B6.at_ (j:=8) (v:=iv x.pc) rfl
 have ww:=mW (aN (aN (aN XU @tA) (aN @tB @tC)) (aN (aN @iA @iB) (aN @iC @bQ)))
 refine wk ?_
 have sw:∀ (fr:Go.Ev.Fr) (jp:Bool) (nxt:Int),fr.get 1=some (.slice va vn vc)→fr.get 6=some (pt h.n 0)→fr.get 7=some (pt (h.n+1) 0)→fr.get 8=some (pt (h.n+1+1) 0)→fr.get 10=some (.bool true)→fr.get 11=some (uv (x.yn rB))→fr.get 12=some (uv (x.yn rC))→fr.get 13=some (iv nxt)→fr.get 14=some (.int .u8 (rA:Int))→fr.get 15=some (.bool jp)→Jf.wp env 120 none fr h1 (cW env [.cell 8 81,.tmp 9] K):=by
  intro fr jp nxt f1 f6 f7 f8 f10 f11 f12 f13 f14 f15;have c7:av h1 (ad (h.n+1) 0) 4=some [.int .u8 (o.toNat:Int),.int .u8 (a.toNat:Int),.int .u8 (b.toNat:Int),.int .u8 (c.toNat:Int)]:=aq B7.lt B7.get rfl rfl;have cD:=B6.at_ (j:=17) (v:=iv x.code) rfl;have fin:∀ (fr:Go.Ev.Fr) (is:Bool) (y:GD) (h2:ak),aw h.n h1 h2→iI h2 h.n y.cells 81→iI h2 (h.n+1) [.int .u8 (o.toNat:Int),.int .u8 (a.toNat:Int),.int .u8 (b.toNat:Int),.int .u8 (c.toNat:Int)] 148→iI h2 (h.n+1+1) GD.zero.cells 81→yJ x y→fr.get 1=some (.slice va vn vc)→fr.get 6=some (pt h.n 0)→fr.get 7=some (pt (h.n+1) 0)→fr.get 8=some (pt (h.n+1+1) 0)→fr.get 10=some (.bool is)→fr.get 13=some (iv nxt)→fr.get 15=some (.bool jp)→DO.wp env 120 none fr h2 (cW env [.cell 8 81,.tmp 9] K):=fun fr is y h2 x2 b6 b7 b8 q q1 q6 q7 q8 q10 q13 q15 =>
   KN (N:=h.n) b6 b7 b8 a_ ah ah q1 q6 q7 q8 q10 q13 q15 fun x' e h' x3 q'=>hK x' e h' (X1.trans (x2.trans x3)) (q.trans q')
  have put:∀ (v:Int) (h2:ak),aw h1.n h1 h2→aw h.n h1 { h2 with b:=h2.b.set h.n (.cells (x.rN v rA).cells 81 true) }∧iI { h2 with b:=h2.b.set h.n (.cells (x.rN v rA).cells 81 true) } h.n (x.rN v rA).cells 81∧iI { h2 with b:=h2.b.set h.n (.cells (x.rN v rA).cells 81 true) } (h.n+1) [.int .u8 (o.toNat:Int),.int .u8 (a.toNat:Int),.int .u8 (b.toNat:Int),.int .u8 (c.toNat:Int)] 148∧iI { h2 with b:=h2.b.set h.n (.cells (x.rN v rA).cells 81 true) } (h.n+1+1) GD.zero.cells 81:=fun v h2 x2=>by have l6:=B6.lt;have b6:=B6.ext x2 B6.lt;have b7:=B7.ext x2 B7.lt;have b8:=B8.ext x2 B8.lt;exact⟨(x2.mono ah).trans (aw.set _ a_),b6.set,⟨b7.lt,by show T.get (T.set h2.b h.n _) (h.n+1)=_;rw[T.aR _ _ ah];exact b7.get⟩,⟨b8.lt,by show T.get (T.set h2.b h.n _) (h.n+1+1)=_;rw[T.aR _ _ ah];exact b8.get⟩⟩
  by_cases o1:(o.toNat:Int)=1;·have ww:=mW (aN (aN xG @o1) @bQ);refine wk ?_;refine Ao fun z h2 x2=>?_;have n2:=x2.n;have b6:=B6.ext x2 B6.lt;have ww:=ww.a @iA;refine wk ?_;refine fa (off:=9+rA) (cs':=(x.rN (IntKind.wrap .u64 z) rA).cells) b6.get rfl rfl (GD.pW x _ rA hA) rfl ao ?_;obtain⟨z1,z2,z3,z4⟩:=put (IntKind.wrap .u64 z) h2 x2;refine wk ?_;exact fin _ true _ _ z1 z2 z3 z4 (yJ.rN x (jX _) rA) (by simp[T.aj,f1]) (by simp[T.aj,f6]) (by simp[T.aj,f7]) (by simp[T.aj,f8]) (by simp[T.aj,f10]) (by simp[T.aj,f13]) (by simp[T.aj,f15])
  by_cases o2:(o.toNat:Int)=2;·have ww:=mW (aN (aN xG @o1) (aN @o2 @bQ));refine wk ?_;refine SV (hr.yn rB) (hr.yn rC) fun z bb hz=>?_;have ww:=ww.a @iA;refine wk ?_;refine fa (off:=9+rA) (cs':=(x.rN z rA).cells) B6.get rfl rfl (GD.pW x _ rA hA) rfl ao ?_;obtain⟨z1,z2,z3,z4⟩:=put z h1 (aw.refl _ _);refine wk ?_;exact fin _ bb _ _ z1 z2 z3 z4 (yJ.rN x hz rA) (by simp[T.aj,f1]) (by simp[T.aj,f6]) (by simp[T.aj,f7]) (by simp[T.aj,f8]) aA (by simp[T.aj,f13]) (by simp[T.aj,f15])
  by_cases o3:(o.toNat:Int)=3;·have ww:=mW (aN (aN (aN xG @o1) @o2) (aN @o3 @bQ));refine wk ?_;refine Tf fun z bb hz=>?_;have ww:=ww.a @iA;refine wk ?_;refine fa (off:=9+rA) (cs':=(x.rN z rA).cells) B6.get rfl rfl (GD.pW x _ rA hA) rfl ao ?_;obtain⟨z1,z2,z3,z4⟩:=put z h1 (aw.refl _ _);refine wk ?_;exact fin _ bb _ _ z1 z2 z3 z4 (yJ.rN x hz rA) (by simp[T.aj,f1]) (by simp[T.aj,f6]) (by simp[T.aj,f7]) (by simp[T.aj,f8]) aA (by simp[T.aj,f13]) (by simp[T.aj,f15])
  by_cases o4:(o.toNat:Int)=4;·have ww:=mW (aN (aN (aN xG @o1) @o2) (aN (aN @o3 @o4) @bQ));refine wk ?_;refine SW fun z bb hz=>?_;have ww:=ww.a @iA;refine wk ?_;refine fa (off:=9+rA) (cs':=(x.rN z rA).cells) B6.get rfl rfl (GD.pW x _ rA hA) rfl ao ?_;obtain⟨z1,z2,z3,z4⟩:=put z h1 (aw.refl _ _);refine wk ?_;exact fin _ bb _ _ z1 z2 z3 z4 (yJ.rN x hz rA) (by simp[T.aj,f1]) (by simp[T.aj,f6]) (by simp[T.aj,f7]) (by simp[T.aj,f8]) aA (by simp[T.aj,f13]) (by simp[T.aj,f15])
  by_cases o7:(o.toNat:Int)=7;·have ww:=mW (aN (aN (aN xG @o1) (aN @o2 @o3)) (aN (aN @o4 @o7) (aN @iA @bQ)));refine wk ?_;refine fa (off:=9+rA) (cs':=(x.rN (IntKind.wrap .u64 x.code) rA).cells) B6.get rfl rfl (GD.pW x _ rA hA) rfl ao ?_;obtain⟨z1,z2,z3,z4⟩:=put (IntKind.wrap .u64 x.code) h1 (aw.refl _ _);refine wk ?_;exact fin _ true _ _ z1 z2 z3 z4 (yJ.rN x (jX _) rA) (by simp[T.aj,f1]) (by simp[T.aj,f6]) (by simp[T.aj,f7]) (by simp[T.aj,f8]) (by simp[T.aj,f10]) (by simp[T.aj,f13]) (by simp[T.aj,f15])
  ·have ww:=mW (aN (aN (aN xG @o1) @o2) (aN (aN @o3 @o4) @o7));refine wk ?_;exact fin _ true x h1 (aw.refl _ _) B6 B7 B8 (yJ.refl x) (by simp[T.aj,f1]) (by simp[T.aj,f6]) (by simp[T.aj,f7]) (by simp[T.aj,f8]) (by simp[T.aj,f10]) (by simp[T.aj,f13]) (by simp[T.aj,f15])
 by_cases o5:(o.toNat:Int)=5
 ·have ww:=mW (aN He @o5);refine wk ?_;exact sw _ _ (IntKind.wrap .i64 (x.pc+1)) aA aA aA aA aA aA aA aA aA (by simp[T.aj];rfl)
 by_cases o6:(o.toNat:Int)=6
 ·have ww:=mW (aN (aN (aN He @o5) @o6) (aN @iA @bQ));refine Ep ?_ ?_;all_goals exact sw _ _ (IntKind.wrap .i64 (x.pc+1)) (by simp[T.aj]) (by simp[T.aj]) (by simp[T.aj]) (by simp[T.aj]) (by simp[T.aj]) (by simp[T.aj]) (by simp[T.aj]) (by simp[T.aj]) (by simp[T.aj]) (by simp[T.aj];rfl)
 ·have ww:=mW (aN (aN He @o5) @o6);refine wk ?_;exact sw _ _ (IntKind.wrap .i64 (x.pc+1)) aA aA aA aA aA aA aA aA aA (by simp[T.aj];rfl)
end Go.Proofs.YthjlppdnlahhoaaGreat
namespace Go.Ev
section
variable {E:Env}{fr:Fr}{h:ak}{t t':TypeId}{x y:Operand}{y':Value}
def Qw (E:Env) (t t':TypeId) (s v:Value) (h:ak) (K:Value→ak→Prop) [iJ K]:Prop:=match Ct E [t,t'] [s,v] h with
 | some (u,h')=>K u h'
 | none=>False
theorem Pn {K:Value→ak→Prop}:fY E (.call ⟨.builtin .copy,⟨[x,y]⟩,⟨[t,t']⟩⟩) fr h K=dM E fr x fun s=>dM E fr y fun v=>Qw E t t' s v h K:=by
 simp only[fY,jl,kR,tV,bR,eT,mb,Bx,aW,dM,de,Qw];cases ev E fr x with
 | none=>simp[qF]
 | some a =>
   cases ev E fr y with
   | none=>simp[qF]
   | some b =>
     simp only[aS,exists_eq_left']
     generalize Ct E [t,t'] [a,b] h=r
     cases r with
     | none=>simp[qF]
     | some p=>obtain⟨u,h'⟩:=p;simp[fj]
theorem cpy_at {K:Value→ak→Prop}[iJ K] {elem:TypeId}{sz i off n m c:Nat}{cs cs' new:List Value}{e:TypeId}{b:Bool}(hu:b_ E t=some (.slice elem)) (hs:size E elem=some sz) (hy:lenOf y'=some m) (hn:firstCells h sz (min m n) y'=some new) (hne:new≠[])
  (hb:h.b.get i=some (.cells cs e b)) (ho:fV cs off new=some cs') (h1:new.all aE=true) (q:K (.int .i64 ((min m n:Nat):Int)) { h with b:=h.b.set i (.cells cs' e b) }):Qw E t t' (.slice (some ⟨i,off,none⟩) n c) y' h K:=by
 simp only[Qw,Ct,hu,hs,hy,hn,h1,cond_true,mN hb ho hne,bS]
 exact q
theorem BS {K:Value→Prop}{n:Nat}{elem:TypeId}{i off sz:Nat}(hu:b_ E t=some (.array n elem)) (hs:size E elem=some sz) (hn:Nat.blt n 1000000=true) (h0:n≠0) (q:K (.slice (some ⟨i,off,none⟩) n n)):dW E t (.pointer (some ⟨i,off,none⟩)) none none none K:=by
 have ha:(⟨i,off,none⟩:Addr).add (0*sz)=⟨i,off,none⟩:=by simp[Addr.add]
 have hb:Nat.beq n 0=false:=jn h0;simp only[dW,hX,hu,hs,hn,cond_true,ia,lO,iL,hb,cond_false,ha,nh,bu];exact q
end
end Go.Ev
namespace Go.Proofs.YthjlppdnlahhoaaGreat
open Go.Ev
set_option maxRecDepth 100000
theorem und41:b_ env 41=some (.array 5 22):=c_
theorem und79:b_ env 79=some (.array 8 22):=c_
theorem und55:b_ env 55=some (.slice 22):=c_
theorem ID:size env 22=some 1:=c_
end Go.Proofs.YthjlppdnlahhoaaGreat
