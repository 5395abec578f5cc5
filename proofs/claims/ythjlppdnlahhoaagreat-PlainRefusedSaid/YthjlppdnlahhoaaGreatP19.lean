/- THE PLAIN MACHINE's FUNCTIONS, walked (19). Conditions: none beyond each theorem's own. -/
import Derived.Test.YthjlppdnlahhoaaGreatP6
import Derived.Test.YthjlppdnlahhoaaGreatP18
set_option linter.unusedSimpArgs false
set_option linter.unusedVariables false
namespace Go.Proofs.YthjlppdnlahhoaaGreat
open Go.Ev
open Pl
set_option maxRecDepth 100000
set_option linter.defProp false
def Yd:=(aN (aN (aN (aN (aN @h_ @fZ) @fG) (aN @fN @fQ)) (aN (aN @fL @fO) (aN @fJ @fB))) (aN (aN (aN @fP @fK) (aN @fI @fH)) (aN (aN @fF @fS) (aN @fA @fD))))
def aaS:=(aN (aN (aN (aN (aN @h_ @fZ) @fG) (aN @fN @fQ)) (aN (aN @fL @fO) (aN @fM @fB))) (aN (aN (aN @fP @fK) (aN @fI @fH)) (aN (aN @fF @fS) (aN @fA @fD))))
def YM:=(aN (aN (aN (aN (aN @h_ @fZ) @fG) (aN @fN @fQ)) (aN (aN @fL @fJ) (aN @fM @fB))) (aN (aN (aN @fP @fK) (aN @fI @fH)) (aN (aN @fF @fS) (aN @fA @fD))))
def V28_29:=(aN (aN (aN (aN (aN @h_ @fZ) @fG) (aN @fN @fQ)) (aN (aN @fO @fJ) (aN @fM @fB))) (aN (aN (aN @fP @fK) (aN @fI @fH)) (aN (aN @fF @fS) (aN @fA @fD))))
def aao:=(aN (aN (aN (aN (aN @h_ @fZ) @fG) (aN @fN @fL)) (aN (aN @fO @fJ) (aN @fM @fB))) (aN (aN (aN @fP @fK) (aN @fI @fH)) (aN (aN @fF @fS) (aN @fA @fD))))
set_option maxHeartbeats 4000000
theorem Tn {h:ak}{t t':TypeId}{y':Value}{K:Value→ak→Prop}[iJ K] {elem:TypeId}{sz i off n m c:Nat}{cs cs' new:List Value}{e:TypeId}{b:Bool}(hu:b_ env t=some (.slice elem)) (hs:size env elem=some sz) (hy:lenOf y'=some m) (hn:firstCells h sz (min m n) y'=some new) (hne:new≠[])
  (hb:h.b.get i=some (.cells cs e b)) (ho:fV cs off new=some cs') (h1:new.all aE=true) (q:K (iv ((min m n:Nat):Int)) (aO h i (.cells cs' e b))):Qw env t t' (.slice (some ⟨i,off,none⟩) n c) y' h K:=cpy_at hu hs hy hn hne hb ho h1 q
theorem Mn {a:Ad}{V0 V:VD}{h0 h:ak}{M:MD}{n g pp b3 b4 b5 b8 b9:Nat}{kd iw pk e:Int}{o a' b c:UInt8}{bv:Value}{fr:Go.Ev.Fr}{K:Value→ak→Prop}{Q:Ex→Go.Ev.Fr→ak→Prop}(s:St a V h M) (K0:Kp (own a V0) (own a V) h0 h) (I:Inv n M) (hn:n≤300) (hpr2:M.cfg.cG.length≤1000000) (hpp:pp<M.ps.length) (hg:g<M.gs.length) (hi:M.gs[g].is=true)
  (f0:fr.get 0=some (mp a)) (f3:fr.get 3=some (pt b3 0)) (f4:fr.get 4=some (pt b4 0)) (f5:fr.get 5=some (pt b5 0)) (f6:fr.get 6=some (pt a.g (g*21+2))) (f7:fr.get 7=some bv) (f8:fr.get 8=some (pt b8 0)) (f9:fr.get 9=some (pt b9 0)) (f10:fr.get 10=some (iv e))
  (x3:h.b.get b3=some (.cells [iv kd,iv pp,iv iw,iv pk] 29 true)) (x4:h.b.get b4=some (.cells [iv 0,uv 0,iv 0,iv 0,iv 0,uv 0,iv 0,iv 0,uv 0,uv 0,uv 0,uv 0,uv 0,iv 0,uv 0,nS] 46 true)) (x5:h.b.get b5=some (.cells [iv g,uv M.gs[g].gen] 38 true)) (x8:h.b.get b8=some (.cells [iv 0,uv 0,iv 0,iv pp,iv g,uv M.gs[g].gen,iv 0,iv 0,uv 0,uv 0,uv 0,uv 0,uv 0,iv 0,uv 0,nS] 46 true)) (x9:h.b.get b9=some (.cells [bK o,bK a',bK b,bK c] 148 true))
  (l3:b3<h.n) (l4:b4<h.n) (l5:b5<h.n) (l8:b8<h.n) (l9:b9<h.n) (o3:¬own a V b3) (o4:¬own a V b4) (o5:¬own a V b5) (o8:¬own a V b8) (o9:¬own a V b9) (m4:h0.n≤b4) (m8:h0.n≤b8) (ne48:b4≠b8)
  (hK:∀ ev M' V' h',Vl ev→Nc n M M'→St a V' h' M'→Kp (own a V0) (own a V') h0 h'→K (.agg ⟨ev⟩) h') (hQ:∀ fr' h',cW env [.cell 4 46] K .ret fr' h'→Q .ret fr' h'):D4.wp env 152 none fr h Q:=by
 unfold mp at *
 have r5:av h (ad b5 0) 2=some [iv g,uv M.gs[g].gen]:=aq l5 x5 rfl rfl
 have r3:av h (ad b3 0) 4=some [iv kd,iv pp,iv iw,iv pk]:=aq l3 x3 rfl rfl
 have ww:=mW W28
 refine wk ?_
 refine Gi (r:=⟨(g:Int),(M.gs[g].gen:Int)⟩) (c:=⟨2,0,0,0,0,0⟩) s I hn (fh hg hi) hpp ao (bN 0) (bN 0) hpr2 fun w e' M1 V1 h1 hw nc s1 k1=>?_
 have n1:=k1.n
 have y8:=(k1.get b8 l8 o8).trans x8
 have y4:=(k1.get b4 l4 o4).trans x4
 have p8:¬own a V1 b8:=fun q=>o8 (k1.own _ l8 q)
 have p4:¬own a V1 b4:=fun q=>o4 (k1.own _ l4 q)
 refine wk ?_
 refine aM (off:=2) (cs':=[iv 0,uv 0,iv 5,iv pp,iv g,uv M.gs[g].gen,iv 0,iv 0,uv 0,uv 0,uv 0,uv 0,uv 0,iv 0,uv 0,nS]) y8 rfl rfl rfl rfl ao ?_
 have s2:=s1.loc (cs':=[iv 0,uv 0,iv 5,iv pp,iv g,uv M.gs[g].gen,iv 0,iv 0,uv 0,uv 0,uv 0,uv 0,uv 0,iv 0,uv 0,nS]) y8 p8
 obtain⟨h2,eh2⟩:=gz (aO h1 b8 (.cells [iv 0,uv 0,iv 5,iv pp,iv g,uv M.gs[g].gen,iv 0,iv 0,uv 0,uv 0,uv 0,uv 0,uv 0,iv 0,uv 0,nS] 46 true))
 have z8:=rS eh2
 have z4:h2.b.get b4=some (.cells [iv 0,uv 0,iv 0,iv 0,iv 0,uv 0,iv 0,iv 0,uv 0,uv 0,uv 0,uv 0,uv 0,iv 0,uv 0,nS] 46 true):=eh2▸((aC ne48).trans y4)
 have K2:=(K0.trans k1).loc (j:=b8) (k:=.cells [iv 0,uv 0,iv 5,iv pp,iv g,uv M.gs[g].gen,iv 0,iv 0,uv 0,uv 0,uv 0,uv 0,uv 0,iv 0,uv 0,nS] 46 true) m8
 have n2:=sW eh2
 rw[eh2];try rw[eh2]at s2;try rw[eh2]at K2
 refine wk ?_
 have q8:av h2 (ad b8 0) 16=some [iv 0,uv 0,iv 5,iv pp,iv g,uv M.gs[g].gen,iv 0,iv 0,uv 0,uv 0,uv 0,uv 0,uv 0,iv 0,uv 0,nS]:=aq ah z8 rfl rfl
 refine wk ?_
 refine aM (off:=0) (cs':=[iv 0,uv 0,iv 5,iv pp,iv g,uv M.gs[g].gen,iv 0,iv 0,uv 0,uv 0,uv 0,uv 0,uv 0,iv 0,uv 0,nS]) z4 rfl rfl rfl rfl ao ?_
 have sz:=(s2).loc (cs':=[iv 0,uv 0,iv 5,iv pp,iv g,uv M.gs[g].gen,iv 0,iv 0,uv 0,uv 0,uv 0,uv 0,uv 0,iv 0,uv 0,nS]) z4 p4
 have qz:av (aO h2 b4 (.cells [iv 0,uv 0,iv 5,iv pp,iv g,uv M.gs[g].gen,iv 0,iv 0,uv 0,uv 0,uv 0,uv 0,uv 0,iv 0,uv 0,nS] 46 true)) ⟨b4,0,none⟩ 16=some [iv 0,uv 0,iv 5,iv pp,iv g,uv M.gs[g].gen,iv 0,iv 0,uv 0,uv 0,uv 0,uv 0,uv 0,iv 0,uv 0,nS]:=aq (by show b4<h2.n;exact ah) aF rfl rfl
 refine wk ?_
 refine hQ _ _ ?_
 with_reducible refine wk ?_
 exact hK _ _ V1 _ ⟨5,pp,g,M.gs[g].gen,0,0,0,0,0,0,0,0,0,rfl⟩ nc sz ((K2).loc m4)
theorem F2 {a:Ad}{V0 V:VD}{h0 h:ak}{M:MD}{n g pp b3 b4 b5 b8 b9:Nat}{kd iw pk e:Int}{o a' b c:UInt8}{bv:Value}{fr:Go.Ev.Fr}{K:Value→ak→Prop}{Q:Ex→Go.Ev.Fr→ak→Prop}(s:St a V h M) (K0:Kp (own a V0) (own a V) h0 h) (I:Inv n M) (hn:n≤300) (hpr2:M.cfg.cG.length≤1000000) (hpp:pp<M.ps.length) (hg:g<M.gs.length) (hi:M.gs[g].is=true)
  (f0:fr.get 0=some (mp a)) (f3:fr.get 3=some (pt b3 0)) (f4:fr.get 4=some (pt b4 0)) (f5:fr.get 5=some (pt b5 0)) (f6:fr.get 6=some (pt a.g (g*21+2))) (f7:fr.get 7=some bv) (f8:fr.get 8=some (pt b8 0)) (f9:fr.get 9=some (pt b9 0)) (f10:fr.get 10=some (iv e))
  (x3:h.b.get b3=some (.cells [iv kd,iv pp,iv iw,iv pk] 29 true)) (x4:h.b.get b4=some (.cells [iv 0,uv 0,iv 0,iv 0,iv 0,uv 0,iv 0,iv 0,uv 0,uv 0,uv 0,uv 0,uv 0,iv 0,uv 0,nS] 46 true)) (x5:h.b.get b5=some (.cells [iv g,uv M.gs[g].gen] 38 true)) (x8:h.b.get b8=some (.cells [iv 0,uv 0,iv 0,iv pp,iv g,uv M.gs[g].gen,iv 0,iv 0,uv 0,uv 0,uv 0,uv 0,uv 0,iv 0,uv 0,nS] 46 true)) (x9:h.b.get b9=some (.cells [bK o,bK a',bK b,bK c] 148 true))
  (l3:b3<h.n) (l4:b4<h.n) (l5:b5<h.n) (l8:b8<h.n) (l9:b9<h.n) (o3:¬own a V b3) (o4:¬own a V b4) (o5:¬own a V b5) (o8:¬own a V b8) (o9:¬own a V b9) (m4:h0.n≤b4) (m8:h0.n≤b8) (ne48:b4≠b8)
  (hK:∀ ev M' V' h',Vl ev→Nc n M M'→St a V' h' M'→Kp (own a V0) (own a V') h0 h'→K (.agg ⟨ev⟩) h') (hQ:∀ fr' h',cW env [.cell 4 46] K .ret fr' h'→Q .ret fr' h'):AP.wp env 152 none fr h Q:=by
 unfold mp at *
 have ww:=mW W28
 refine wk ?_
 refine lY s (k:=g) hg (j:=19) (y:={ M.gs[g]with x:={ M.gs[g].x with code:=e } }) ah rfl rfl rfl rfl ao fun h1 s1 k1 n1=>?_
 have hg1:g<(M.gs.set g { M.gs[g]with x:={ M.gs[g].x with code:=e } }).length:=by simpa using hg
 have cp:=s1.gC hg1 10 ao
 have eg:({ M with gs:=M.gs.set g { M.gs[g]with x:={ M.gs[g].x with code:=e } } }:MD).gs[g]={ M.gs[g]with x:={ M.gs[g].x with code:=e } }:=cU _
 rw[eg]at cp
 simp only[Ob.cells,GD.cells,cu,cR]at cp
 refine wk ?_
 refine lY s1 (k:=g) hg1 (j:=10) (y:={ M.gs[g]with x:={ M.gs[g].x with code:=e,pc:=(IntKind.wrap .i64 (M.gs[g].x.pc+1)) } }) ah rfl rfl (by show fV (Ob.cells GD.cells ((M.gs.set g { M.gs[g]with x:={ M.gs[g].x with code:=e } })[g]'hg1)) 10 _=_;rw[cU];rfl) rfl ao fun h2 s2 k2 n2=>?_
 simp only[iD]at s2
 have K2:=K0.trans (k1.trans k2)
 have y8:=((k1.trans k2).get b8 l8 o8).trans x8
 have y4:=((k1.trans k2).get b4 l4 o4).trans x4
 have nc:Nc n M { M with gs:=M.gs.set g { M.gs[g]with x:={ M.gs[g].x with code:=e,pc:=(IntKind.wrap .i64 (M.gs[g].x.pc+1)) } } }:=⟨(I.gs (oZ.set (y:={ M.gs[g]with x:={ M.gs[g].x with code:=e,pc:=(IntKind.wrap .i64 (M.gs[g].x.pc+1)) } }) hg rfl rfl rfl rfl rfl (fun h=>h) (fun h=>h))).mono (aL n),rfl,rfl,rfl⟩
 generalize ({ M with gs:=M.gs.set g { M.gs[g]with x:={ M.gs[g].x with code:=e,pc:=(IntKind.wrap .i64 (M.gs[g].x.pc+1)) } } }:MD)=M2 at s2 nc
 refine wk ?_
 refine aM (off:=2) (cs':=[iv 0,uv 0,iv 6,iv pp,iv g,uv M.gs[g].gen,iv 0,iv 0,uv 0,uv 0,uv 0,uv 0,uv 0,iv 0,uv 0,nS]) y8 rfl rfl rfl rfl ao ?_
 have s3:=s2.loc (cs':=[iv 0,uv 0,iv 6,iv pp,iv g,uv M.gs[g].gen,iv 0,iv 0,uv 0,uv 0,uv 0,uv 0,uv 0,iv 0,uv 0,nS]) y8 o8
 obtain⟨h3,eh3⟩:=gz (aO h2 b8 (.cells [iv 0,uv 0,iv 6,iv pp,iv g,uv M.gs[g].gen,iv 0,iv 0,uv 0,uv 0,uv 0,uv 0,uv 0,iv 0,uv 0,nS] 46 true))
 have z8:=rS eh3
 have z4:h3.b.get b4=some (.cells [iv 0,uv 0,iv 0,iv 0,iv 0,uv 0,iv 0,iv 0,uv 0,uv 0,uv 0,uv 0,uv 0,iv 0,uv 0,nS] 46 true):=eh3▸((aC ne48).trans y4)
 have K3:=K2.loc (j:=b8) (k:=.cells [iv 0,uv 0,iv 6,iv pp,iv g,uv M.gs[g].gen,iv 0,iv 0,uv 0,uv 0,uv 0,uv 0,uv 0,iv 0,uv 0,nS] 46 true) m8
 have n3:=sW eh3
 rw[eh3];try rw[eh3]at s3;try rw[eh3]at K3
 refine wk ?_
 refine aM (off:=13) (cs':=[iv 0,uv 0,iv 6,iv pp,iv g,uv M.gs[g].gen,iv 0,iv 0,uv 0,uv 0,uv 0,uv 0,uv 0,iv e,uv 0,nS]) z8 rfl rfl rfl rfl ao ?_
 have s4:=s3.loc (cs':=[iv 0,uv 0,iv 6,iv pp,iv g,uv M.gs[g].gen,iv 0,iv 0,uv 0,uv 0,uv 0,uv 0,uv 0,iv e,uv 0,nS]) z8 o8
 obtain⟨h4,eh4⟩:=gz (aO h3 b8 (.cells [iv 0,uv 0,iv 6,iv pp,iv g,uv M.gs[g].gen,iv 0,iv 0,uv 0,uv 0,uv 0,uv 0,uv 0,iv e,uv 0,nS] 46 true))
 have w8:=rS eh4
 have w4:h4.b.get b4=some (.cells [iv 0,uv 0,iv 0,iv 0,iv 0,uv 0,iv 0,iv 0,uv 0,uv 0,uv 0,uv 0,uv 0,iv 0,uv 0,nS] 46 true):=eh4▸((aC ne48).trans z4)
 have K4:=K3.loc (j:=b8) (k:=.cells [iv 0,uv 0,iv 6,iv pp,iv g,uv M.gs[g].gen,iv 0,iv 0,uv 0,uv 0,uv 0,uv 0,uv 0,iv e,uv 0,nS] 46 true) m8
 have n4:=sW eh4
 rw[eh4];try rw[eh4]at s4;try rw[eh4]at K4
 refine wk ?_
 have q8:av h4 (ad b8 0) 16=some [iv 0,uv 0,iv 6,iv pp,iv g,uv M.gs[g].gen,iv 0,iv 0,uv 0,uv 0,uv 0,uv 0,uv 0,iv e,uv 0,nS]:=aq ah w8 rfl rfl
 refine wk ?_
 refine aM (off:=0) (cs':=[iv 0,uv 0,iv 6,iv pp,iv g,uv M.gs[g].gen,iv 0,iv 0,uv 0,uv 0,uv 0,uv 0,uv 0,iv e,uv 0,nS]) w4 rfl rfl rfl rfl ao ?_
 have sz:=(s4).loc (cs':=[iv 0,uv 0,iv 6,iv pp,iv g,uv M.gs[g].gen,iv 0,iv 0,uv 0,uv 0,uv 0,uv 0,uv 0,iv e,uv 0,nS]) w4 o4
 have qz:av (aO h4 b4 (.cells [iv 0,uv 0,iv 6,iv pp,iv g,uv M.gs[g].gen,iv 0,iv 0,uv 0,uv 0,uv 0,uv 0,uv 0,iv e,uv 0,nS] 46 true)) ⟨b4,0,none⟩ 16=some [iv 0,uv 0,iv 6,iv pp,iv g,uv M.gs[g].gen,iv 0,iv 0,uv 0,uv 0,uv 0,uv 0,uv 0,iv e,uv 0,nS]:=aq (by show b4<h4.n;exact ah) aF rfl rfl
 refine wk ?_
 refine hQ _ _ ?_
 with_reducible refine wk ?_
 exact hK _ _ V _ ⟨6,pp,g,M.gs[g].gen,0,0,0,0,0,0,0,e,0,rfl⟩ nc sz ((K4).loc m4)
theorem MP {y:GD}{b11:Nat}{a:Ad}{V0 V:VD}{h0 h:ak}{M:MD}{n g pp b3 b4 b5 b8 b9:Nat}{kd iw pk e:Int}{o a' b c:UInt8}{bv:Value}{fr:Go.Ev.Fr}{K:Value→ak→Prop}{Q:Ex→Go.Ev.Fr→ak→Prop}(s:St a V h M) (K0:Kp (own a V0) (own a V) h0 h) (I:Inv n M) (hn:n≤300) (hpr2:M.cfg.cG.length≤1000000) (hpp:pp<M.ps.length) (hg:g<M.gs.length) (hi:M.gs[g].is=true)
  (f0:fr.get 0=some (mp a)) (f3:fr.get 3=some (pt b3 0)) (f4:fr.get 4=some (pt b4 0)) (f5:fr.get 5=some (pt b5 0)) (f6:fr.get 6=some (pt a.g (g*21+2))) (f7:fr.get 7=some bv) (f8:fr.get 8=some (pt b8 0)) (f9:fr.get 9=some (pt b9 0)) (f10:fr.get 10=some (iv e))
  (x3:h.b.get b3=some (.cells [iv kd,iv pp,iv iw,iv pk] 29 true)) (x4:h.b.get b4=some (.cells [iv 0,uv 0,iv 0,iv 0,iv 0,uv 0,iv 0,iv 0,uv 0,uv 0,uv 0,uv 0,uv 0,iv 0,uv 0,nS] 46 true)) (x5:h.b.get b5=some (.cells [iv g,uv M.gs[g].gen] 38 true)) (x8:h.b.get b8=some (.cells [iv 0,uv 0,iv 0,iv pp,iv g,uv M.gs[g].gen,iv 0,iv 0,uv 0,uv 0,uv 0,uv 0,uv 0,iv 0,uv 0,nS] 46 true)) (x9:h.b.get b9=some (.cells [bK o,bK a',bK b,bK c] 148 true))
  (l3:b3<h.n) (l4:b4<h.n) (l5:b5<h.n) (l8:b8<h.n) (l9:b9<h.n) (o3:¬own a V b3) (o4:¬own a V b4) (o5:¬own a V b5) (o8:¬own a V b8) (o9:¬own a V b9) (m4:h0.n≤b4) (m8:h0.n≤b8) (ne48:b4≠b8)
  (hK:∀ ev M' V' h',Vl ev→Nc n M M'→St a V' h' M'→Kp (own a V0) (own a V') h0 h'→K (.agg ⟨ev⟩) h') (hQ:∀ fr' h',cW env [.cell 4 46] K .ret fr' h'→Q .ret fr' h') (hy:yJ M.gs[g].x y) (f11:fr.get 11=some (pt b11 0)) (x11:av h (ad b11 0) 19=some y.cells):yc.wp env 152 none fr h Q:=by
 unfold mp at *
 have ww:=mW (aN W28 @x11)
 refine wk ?_
 refine lY s (k:=g) hg (j:=2) (y:={ M.gs[g]with x:=y }) ah rfl rfl rfl rfl ao fun h2 s2 k2 n2=>?_
 have K2:=K0.trans k2
 have y8:=(k2.get b8 l8 o8).trans x8
 have y4:=(k2.get b4 l4 o4).trans x4
 have nc:Nc n M { M with gs:=M.gs.set g { M.gs[g]with x:=y } }:=⟨(I.gs (oZ.set (y:={ M.gs[g]with x:=y }) hg rfl rfl hy.gG hy.ctx hy.prog (fun h=>by show y.jF<256;rw[hy.jF];exact h) hy.yn)).mono (aL n),rfl,rfl,rfl⟩
 generalize ({ M with gs:=M.gs.set g { M.gs[g]with x:=y } }:MD)=M2 at s2 nc
 refine wk ?_
 refine aM (off:=2) (cs':=[iv 0,uv 0,iv 3,iv pp,iv g,uv M.gs[g].gen,iv 0,iv 0,uv 0,uv 0,uv 0,uv 0,uv 0,iv 0,uv 0,nS]) y8 rfl rfl rfl rfl ao ?_
 have s3:=s2.loc (cs':=[iv 0,uv 0,iv 3,iv pp,iv g,uv M.gs[g].gen,iv 0,iv 0,uv 0,uv 0,uv 0,uv 0,uv 0,iv 0,uv 0,nS]) y8 o8
 obtain⟨h3,eh3⟩:=gz (aO h2 b8 (.cells [iv 0,uv 0,iv 3,iv pp,iv g,uv M.gs[g].gen,iv 0,iv 0,uv 0,uv 0,uv 0,uv 0,uv 0,iv 0,uv 0,nS] 46 true))
 have z8:=rS eh3
 have z4:h3.b.get b4=some (.cells [iv 0,uv 0,iv 0,iv 0,iv 0,uv 0,iv 0,iv 0,uv 0,uv 0,uv 0,uv 0,uv 0,iv 0,uv 0,nS] 46 true):=eh3▸((aC ne48).trans y4)
 have K3:=K2.loc (j:=b8) (k:=.cells [iv 0,uv 0,iv 3,iv pp,iv g,uv M.gs[g].gen,iv 0,iv 0,uv 0,uv 0,uv 0,uv 0,uv 0,iv 0,uv 0,nS] 46 true) m8
 have n3:=sW eh3
 rw[eh3];try rw[eh3]at s3;try rw[eh3]at K3
 refine wk ?_
 have q8:av h3 (ad b8 0) 16=some [iv 0,uv 0,iv 3,iv pp,iv g,uv M.gs[g].gen,iv 0,iv 0,uv 0,uv 0,uv 0,uv 0,uv 0,iv 0,uv 0,nS]:=aq ah z8 rfl rfl
 refine wk ?_
 refine aM (off:=0) (cs':=[iv 0,uv 0,iv 3,iv pp,iv g,uv M.gs[g].gen,iv 0,iv 0,uv 0,uv 0,uv 0,uv 0,uv 0,iv 0,uv 0,nS]) z4 rfl rfl rfl rfl ao ?_
 have sz:=(s3).loc (cs':=[iv 0,uv 0,iv 3,iv pp,iv g,uv M.gs[g].gen,iv 0,iv 0,uv 0,uv 0,uv 0,uv 0,uv 0,iv 0,uv 0,nS]) z4 o4
 have qz:av (aO h3 b4 (.cells [iv 0,uv 0,iv 3,iv pp,iv g,uv M.gs[g].gen,iv 0,iv 0,uv 0,uv 0,uv 0,uv 0,uv 0,iv 0,uv 0,nS] 46 true)) ⟨b4,0,none⟩ 16=some [iv 0,uv 0,iv 3,iv pp,iv g,uv M.gs[g].gen,iv 0,iv 0,uv 0,uv 0,uv 0,uv 0,uv 0,iv 0,uv 0,nS]:=aq (by show b4<h3.n;exact ah) aF rfl rfl
 refine wk ?_
 refine hQ _ _ ?_
 with_reducible refine wk ?_
 exact hK _ _ V _ ⟨3,pp,g,M.gs[g].gen,0,0,0,0,0,0,0,0,0,rfl⟩ nc sz ((K3).loc m4)
theorem Kx {a:Ad}{V0 V:VD}{h0 h:ak}{M:MD}{n g pp b3 b4 b5 b8 b9:Nat}{kd iw pk e:Int}{o a' b c:UInt8}{bv:Value}{fr:Go.Ev.Fr}{K:Value→ak→Prop}{Q:Ex→Go.Ev.Fr→ak→Prop}(s:St a V h M) (K0:Kp (own a V0) (own a V) h0 h) (I:Inv n M) (hn:n≤300) (hpr2:M.cfg.cG.length≤1000000) (hpp:pp<M.ps.length) (hg:g<M.gs.length) (hi:M.gs[g].is=true)
  (f0:fr.get 0=some (mp a)) (f3:fr.get 3=some (pt b3 0)) (f4:fr.get 4=some (pt b4 0)) (f5:fr.get 5=some (pt b5 0)) (f6:fr.get 6=some (pt a.g (g*21+2))) (f7:fr.get 7=some bv) (f8:fr.get 8=some (pt b8 0)) (f9:fr.get 9=some (pt b9 0)) (f10:fr.get 10=some (iv e))
  (x3:h.b.get b3=some (.cells [iv kd,iv pp,iv iw,iv pk] 29 true)) (x4:h.b.get b4=some (.cells [iv 0,uv 0,iv 0,iv 0,iv 0,uv 0,iv 0,iv 0,uv 0,uv 0,uv 0,uv 0,uv 0,iv 0,uv 0,nS] 46 true)) (x5:h.b.get b5=some (.cells [iv g,uv M.gs[g].gen] 38 true)) (x8:h.b.get b8=some (.cells [iv 0,uv 0,iv 0,iv pp,iv g,uv M.gs[g].gen,iv 0,iv 0,uv 0,uv 0,uv 0,uv 0,uv 0,iv 0,uv 0,nS] 46 true)) (x9:h.b.get b9=some (.cells [bK o,bK a',bK b,bK c] 148 true))
  (l3:b3<h.n) (l4:b4<h.n) (l5:b5<h.n) (l8:b8<h.n) (l9:b9<h.n) (o3:¬own a V b3) (o4:¬own a V b4) (o5:¬own a V b5) (o8:¬own a V b8) (o9:¬own a V b9) (m4:h0.n≤b4) (m8:h0.n≤b8) (ne48:b4≠b8)
  (hK:∀ ev M' V' h',Vl ev→Nc n M M'→St a V' h' M'→Kp (own a V0) (own a V') h0 h'→K (.agg ⟨ev⟩) h') (hQ:∀ fr' h',cW env [.cell 4 46] K .ret fr' h'→Q .ret fr' h') (vH:16<o.toNat∧o.toNat≤38) (ne38:b3≠b8) (ne58:b5≠b8):DJ.wp env 152 none fr h Q:=by
 unfold mp at *
 have c9:=ay (off:=0) l9 x9 rfl
 simp only[bK]at c9
 obtain⟨ck,hck1,hck2⟩:∃ ck:Int,IntKind.wrap .i64 (IntKind.wrap .u8 ((o.toNat:Int)-16))=ck∧1≤ck∧ck≤22:=by
  have h1:IntKind.wrap .u8 ((o.toNat:Int)-16)=(o.toNat:Int)-16:=by obtain⟨m,hm⟩:∃ m:Nat,o.toNat=m+16:=⟨o.toNat-16,ah⟩;have:=Xv m ah;rw[hm];have e:((m+16:Nat):Int)-16=(m:Int):=ah;rw[e];exact this
  refine⟨_,rfl,?_⟩;rw[h1,wrap_i64 ah ah];omega
 have ww:=mW (aN Yd @hck1)
 refine wk ?_
 refine aM (off:=7) (cs':=[iv 0,uv 0,iv 0,iv pp,iv g,uv M.gs[g].gen,iv 0,iv ck,uv 0,uv 0,uv 0,uv 0,uv 0,iv 0,uv 0,nS]) x8 rfl rfl rfl rfl ao ?_
 have s1:=s.loc (cs':=[iv 0,uv 0,iv 0,iv pp,iv g,uv M.gs[g].gen,iv 0,iv ck,uv 0,uv 0,uv 0,uv 0,uv 0,iv 0,uv 0,nS]) x8 o8
 obtain⟨h1,eh1⟩:=gz (aO h b8 (.cells [iv 0,uv 0,iv 0,iv pp,iv g,uv M.gs[g].gen,iv 0,iv ck,uv 0,uv 0,uv 0,uv 0,uv 0,iv 0,uv 0,nS] 46 true))
 have z81:=rS eh1
 have z41:h1.b.get b4=some (.cells [iv 0,uv 0,iv 0,iv 0,iv 0,uv 0,iv 0,iv 0,uv 0,uv 0,uv 0,uv 0,uv 0,iv 0,uv 0,nS] 46 true):=eh1▸((aC ne48).trans x4)
 have z31:b3≠b8→h1.b.get b3=h.b.get b3:=eh1▸(fun q=>aC q)
 have z51:b5≠b8→h1.b.get b5=h.b.get b5:=eh1▸(fun q=>aC q)
 have K1:=K0.loc (j:=b8) (k:=.cells [iv 0,uv 0,iv 0,iv pp,iv g,uv M.gs[g].gen,iv 0,iv ck,uv 0,uv 0,uv 0,uv 0,uv 0,iv 0,uv 0,nS] 46 true) m8
 have n1:=sW eh1
 rw[eh1];try rw[eh1]at s1;try rw[eh1]at K1
 refine wk ?_
 have gr:av h1 (ad a.g (g*21+2+9)) 5=some [uv M.gs[g].x.r0,uv M.gs[g].x.r1,uv M.gs[g].x.r2,uv M.gs[g].x.r3,uv M.gs[g].x.r4]:=by obtain⟨t,hb⟩:=s1.gs;exact dC (j:=11) (n:=5) hb (s1.lt _ qe) (ja (n:=19) fun _=>rfl) hg ao
 have ww:=mW (aN aaS @Pn)
 refine wk ?_
 refine BS und41 ID rfl ao ?_
 refine wk ?_
 refine BS und79 ID rfl ao ?_
 refine wk ?_
 refine Tn (new:=[uv M.gs[g].x.r0,uv M.gs[g].x.r1,uv M.gs[g].x.r2,uv M.gs[g].x.r3,uv M.gs[g].x.r4]) (cs':=[iv 0,uv 0,iv 0,iv pp,iv g,uv M.gs[g].gen,iv 0,iv ck,uv M.gs[g].x.r0,uv M.gs[g].x.r1,uv M.gs[g].x.r2,uv M.gs[g].x.r3,uv M.gs[g].x.r4,iv 0,uv 0,nS]) und55 ID rfl (show firstCells h1 1 (min 8 5) _=_ from gr) an z81 rfl rfl ?_
 have s2:=s1.loc (cs':=[iv 0,uv 0,iv 0,iv pp,iv g,uv M.gs[g].gen,iv 0,iv ck,uv M.gs[g].x.r0,uv M.gs[g].x.r1,uv M.gs[g].x.r2,uv M.gs[g].x.r3,uv M.gs[g].x.r4,iv 0,uv 0,nS]) z81 o8
 obtain⟨h2,eh2⟩:=gz (aO h1 b8 (.cells [iv 0,uv 0,iv 0,iv pp,iv g,uv M.gs[g].gen,iv 0,iv ck,uv M.gs[g].x.r0,uv M.gs[g].x.r1,uv M.gs[g].x.r2,uv M.gs[g].x.r3,uv M.gs[g].x.r4,iv 0,uv 0,nS] 46 true))
 have z82:=rS eh2
 have z42:h2.b.get b4=some (.cells [iv 0,uv 0,iv 0,iv 0,iv 0,uv 0,iv 0,iv 0,uv 0,uv 0,uv 0,uv 0,uv 0,iv 0,uv 0,nS] 46 true):=eh2▸((aC ne48).trans z41)
 have z32:h2.b.get b3=some (.cells [iv kd,iv pp,iv iw,iv pk] 29 true):=eh2▸((aC ne38).trans ((z31 ne38).trans x3))
 have z52:h2.b.get b5=some (.cells [iv g,uv M.gs[g].gen] 38 true):=eh2▸((aC ne58).trans ((z51 ne58).trans x5))
 have K2:=K1.loc (j:=b8) (k:=.cells [iv 0,uv 0,iv 0,iv pp,iv g,uv M.gs[g].gen,iv 0,iv ck,uv M.gs[g].x.r0,uv M.gs[g].x.r1,uv M.gs[g].x.r2,uv M.gs[g].x.r3,uv M.gs[g].x.r4,iv 0,uv 0,nS] 46 true) m8
 have n2:=sW eh2
 rw[eh2];try rw[eh2]at s2;try rw[eh2]at K2
 refine wk ?_
 have cp:=s2.gC hg 10 ao
 simp only[Ob.cells,GD.cells,cu,cR]at cp
 have ww:=mW YM
 refine wk ?_
 refine lY s2 (k:=g) hg (j:=10) (y:={ M.gs[g]with x:={ M.gs[g].x with pc:=(IntKind.wrap .i64 (M.gs[g].x.pc+1)) } }) ah rfl rfl rfl rfl ao fun h3 s3 k3 n3=>?_
 have K3:=K2.trans k3
 have I3:Inv n { M with gs:=M.gs.set g { M.gs[g]with x:={ M.gs[g].x with pc:=(IntKind.wrap .i64 (M.gs[g].x.pc+1)) } } }:=I.gs (oZ.set (y:={ M.gs[g]with x:={ M.gs[g].x with pc:=(IntKind.wrap .i64 (M.gs[g].x.pc+1)) } }) hg rfl rfl rfl rfl rfl (fun h=>h) (fun h=>h))
 have hlv:aB ({ M with gs:=M.gs.set g { M.gs[g]with x:={ M.gs[g].x with pc:=(IntKind.wrap .i64 (M.gs[g].x.pc+1)) } } }:MD).gs ⟨(g:Int),(M.gs[g].gen:Int)⟩=some g:=by
  refine aH.2 ⟨by simpa using hg,rfl,?_,?_⟩;·show ((M.gs.set g { M.gs[g]with x:={ M.gs[g].x with pc:=(IntKind.wrap .i64 (M.gs[g].x.pc+1)) } })[g]'(by simpa using hg)).is=true;rw[cU];exact hi
  ·show (((M.gs.set g { M.gs[g]with x:={ M.gs[g].x with pc:=(IntKind.wrap .i64 (M.gs[g].x.pc+1)) } })[g]'(by simpa using hg)).gen:Int)=_;rw[cU]
 have z83:=(k3.get b8 ah o8).trans z82
 have z43:=(k3.get b4 ah o4).trans z42
 have z33:=(k3.get b3 ah o3).trans z32
 have z53:=(k3.get b5 ah o5).trans z52
 have c3f:({ M with gs:=M.gs.set g { M.gs[g]with x:={ M.gs[g].x with pc:=(IntKind.wrap .i64 (M.gs[g].x.pc+1)) } } }:MD).cfg=M.cfg∧({ M with gs:=M.gs.set g { M.gs[g]with x:={ M.gs[g].x with pc:=(IntKind.wrap .i64 (M.gs[g].x.pc+1)) } } }:MD).now=M.now∧({ M with gs:=M.gs.set g { M.gs[g]with x:={ M.gs[g].x with pc:=(IntKind.wrap .i64 (M.gs[g].x.pc+1)) } } }:MD).aX=M.aX∧({ M with gs:=M.gs.set g { M.gs[g]with x:={ M.gs[g].x with pc:=(IntKind.wrap .i64 (M.gs[g].x.pc+1)) } } }:MD).ps=M.ps:=⟨rfl,rfl,rfl,rfl⟩
 generalize ({ M with gs:=M.gs.set g { M.gs[g]with x:={ M.gs[g].x with pc:=(IntKind.wrap .i64 (M.gs[g].x.pc+1)) } } }:MD)=M3 at s3 I3 hlv c3f
 obtain⟨c31,c32,c33,c34⟩:=c3f
 refine wk ?_
 have ww:=mW V28_29
 refine wk ?_
 refine aM (off:=2) (cs':=[iv 0,uv 0,iv 4,iv pp,iv g,uv M.gs[g].gen,iv 0,iv ck,uv M.gs[g].x.r0,uv M.gs[g].x.r1,uv M.gs[g].x.r2,uv M.gs[g].x.r3,uv M.gs[g].x.r4,iv 0,uv 0,nS]) z83 rfl rfl rfl rfl ao ?_
 have s4:=s3.loc (cs':=[iv 0,uv 0,iv 4,iv pp,iv g,uv M.gs[g].gen,iv 0,iv ck,uv M.gs[g].x.r0,uv M.gs[g].x.r1,uv M.gs[g].x.r2,uv M.gs[g].x.r3,uv M.gs[g].x.r4,iv 0,uv 0,nS]) z83 o8
 obtain⟨h4,eh4⟩:=gz (aO h3 b8 (.cells [iv 0,uv 0,iv 4,iv pp,iv g,uv M.gs[g].gen,iv 0,iv ck,uv M.gs[g].x.r0,uv M.gs[g].x.r1,uv M.gs[g].x.r2,uv M.gs[g].x.r3,uv M.gs[g].x.r4,iv 0,uv 0,nS] 46 true))
 have z84:=rS eh4
 have z44:h4.b.get b4=some (.cells [iv 0,uv 0,iv 0,iv 0,iv 0,uv 0,iv 0,iv 0,uv 0,uv 0,uv 0,uv 0,uv 0,iv 0,uv 0,nS] 46 true):=eh4▸((aC ne48).trans z43)
 have z34:b3≠b8→h4.b.get b3=h3.b.get b3:=eh4▸(fun q=>aC q)
 have z54:b5≠b8→h4.b.get b5=h3.b.get b5:=eh4▸(fun q=>aC q)
 have K4:=K3.loc (j:=b8) (k:=.cells [iv 0,uv 0,iv 4,iv pp,iv g,uv M.gs[g].gen,iv 0,iv ck,uv M.gs[g].x.r0,uv M.gs[g].x.r1,uv M.gs[g].x.r2,uv M.gs[g].x.r3,uv M.gs[g].x.r4,iv 0,uv 0,nS] 46 true) m8
 have n4:=sW eh4
 rw[eh4];try rw[eh4]at s4;try rw[eh4]at K4
 refine wk ?_
 have r5:av h4 (ad b5 0) 2=some [iv g,uv M.gs[g].gen]:=aq ah ((z54 ne58).trans z53) rfl rfl
 have r3:av h4 (ad b3 0) 4=some [iv kd,iv pp,iv iw,iv pk]:=aq ah ((z34 ne38).trans z33) rfl rfl
 have r8:av h4 (ad b8 7) 6=some [iv ck,uv M.gs[g].x.r0,uv M.gs[g].x.r1,uv M.gs[g].x.r2,uv M.gs[g].x.r3,uv M.gs[g].x.r4]:=aq ah z84 rfl rfl
 have ww:=mW aao
 refine wk ?_
 have rg:=(I.G.live g hg hi).yn
 refine Gi (r:=⟨(g:Int),(M.gs[g].gen:Int)⟩) (c:=⟨ck,M.gs[g].x.r0,M.gs[g].x.r1,M.gs[g].x.r2,M.gs[g].x.r3,M.gs[g].x.r4⟩) s4 I3 hn hlv (by rw[c34];exact hpp) ⟨hck2.1,hck2.2⟩ rg.2.1 rg.2.2.1 (by rw[c31];exact hpr2) fun w e' M5 V5 h5 hw nc s5 k5=>?_
 have n5:=k5.n
 have nc':Nc n M M5:=⟨nc.inv,nc.cfg.trans c31,nc.now.trans c32,nc.aX.trans c33⟩
 have z85:=(k5.get b8 ah o8).trans z84
 have z45:=(k5.get b4 ah o4).trans z44
 have p8:¬own a V5 b8:=fun q=>o8 (k5.own _ ah q)
 have p4:¬own a V5 b4:=fun q=>o4 (k5.own _ ah q)
 have K5:=K4.trans k5
 refine wk ?_
 refine aM (off:=14) (cs':=[iv 0,uv 0,iv 4,iv pp,iv g,uv M.gs[g].gen,iv 0,iv ck,uv M.gs[g].x.r0,uv M.gs[g].x.r1,uv M.gs[g].x.r2,uv M.gs[g].x.r3,uv M.gs[g].x.r4,iv 0,uv w,nS]) z85 rfl rfl rfl rfl ao ?_
 have s6:=s5.loc (cs':=[iv 0,uv 0,iv 4,iv pp,iv g,uv M.gs[g].gen,iv 0,iv ck,uv M.gs[g].x.r0,uv M.gs[g].x.r1,uv M.gs[g].x.r2,uv M.gs[g].x.r3,uv M.gs[g].x.r4,iv 0,uv w,nS]) z85 p8
 obtain⟨h6,eh6⟩:=gz (aO h5 b8 (.cells [iv 0,uv 0,iv 4,iv pp,iv g,uv M.gs[g].gen,iv 0,iv ck,uv M.gs[g].x.r0,uv M.gs[g].x.r1,uv M.gs[g].x.r2,uv M.gs[g].x.r3,uv M.gs[g].x.r4,iv 0,uv w,nS] 46 true))
 have z86:=rS eh6
 have z46:h6.b.get b4=some (.cells [iv 0,uv 0,iv 0,iv 0,iv 0,uv 0,iv 0,iv 0,uv 0,uv 0,uv 0,uv 0,uv 0,iv 0,uv 0,nS] 46 true):=eh6▸((aC ne48).trans z45)
 have z36:b3≠b8→h6.b.get b3=h5.b.get b3:=eh6▸(fun q=>aC q)
 have z56:b5≠b8→h6.b.get b5=h5.b.get b5:=eh6▸(fun q=>aC q)
 have K6:=K5.loc (j:=b8) (k:=.cells [iv 0,uv 0,iv 4,iv pp,iv g,uv M.gs[g].gen,iv 0,iv ck,uv M.gs[g].x.r0,uv M.gs[g].x.r1,uv M.gs[g].x.r2,uv M.gs[g].x.r3,uv M.gs[g].x.r4,iv 0,uv w,nS] 46 true) m8
 have n6:=sW eh6
 rw[eh6];try rw[eh6]at s6;try rw[eh6]at K6
 refine wk ?_
 refine aM (off:=13) (cs':=[iv 0,uv 0,iv 4,iv pp,iv g,uv M.gs[g].gen,iv 0,iv ck,uv M.gs[g].x.r0,uv M.gs[g].x.r1,uv M.gs[g].x.r2,uv M.gs[g].x.r3,uv M.gs[g].x.r4,iv e',uv w,nS]) z86 rfl rfl rfl rfl ao ?_
 have s7:=s6.loc (cs':=[iv 0,uv 0,iv 4,iv pp,iv g,uv M.gs[g].gen,iv 0,iv ck,uv M.gs[g].x.r0,uv M.gs[g].x.r1,uv M.gs[g].x.r2,uv M.gs[g].x.r3,uv M.gs[g].x.r4,iv e',uv w,nS]) z86 p8
 obtain⟨h7,eh7⟩:=gz (aO h6 b8 (.cells [iv 0,uv 0,iv 4,iv pp,iv g,uv M.gs[g].gen,iv 0,iv ck,uv M.gs[g].x.r0,uv M.gs[g].x.r1,uv M.gs[g].x.r2,uv M.gs[g].x.r3,uv M.gs[g].x.r4,iv e',uv w,nS] 46 true))
 have z87:=rS eh7
 have z47:h7.b.get b4=some (.cells [iv 0,uv 0,iv 0,iv 0,iv 0,uv 0,iv 0,iv 0,uv 0,uv 0,uv 0,uv 0,uv 0,iv 0,uv 0,nS] 46 true):=eh7▸((aC ne48).trans z46)
 have z37:b3≠b8→h7.b.get b3=h6.b.get b3:=eh7▸(fun q=>aC q)
 have z57:b5≠b8→h7.b.get b5=h6.b.get b5:=eh7▸(fun q=>aC q)
 have K7:=K6.loc (j:=b8) (k:=.cells [iv 0,uv 0,iv 4,iv pp,iv g,uv M.gs[g].gen,iv 0,iv ck,uv M.gs[g].x.r0,uv M.gs[g].x.r1,uv M.gs[g].x.r2,uv M.gs[g].x.r3,uv M.gs[g].x.r4,iv e',uv w,nS] 46 true) m8
 have n7:=sW eh7
 rw[eh7];try rw[eh7]at s7;try rw[eh7]at K7
 refine wk ?_
 have q8:av h7 (ad b8 0) 16=some [iv 0,uv 0,iv 4,iv pp,iv g,uv M.gs[g].gen,iv 0,iv ck,uv M.gs[g].x.r0,uv M.gs[g].x.r1,uv M.gs[g].x.r2,uv M.gs[g].x.r3,uv M.gs[g].x.r4,iv e',uv w,nS]:=aq ah z87 rfl rfl
 have ww:=mW W28
 refine wk ?_
 refine aM (off:=0) (cs':=[iv 0,uv 0,iv 4,iv pp,iv g,uv M.gs[g].gen,iv 0,iv ck,uv M.gs[g].x.r0,uv M.gs[g].x.r1,uv M.gs[g].x.r2,uv M.gs[g].x.r3,uv M.gs[g].x.r4,iv e',uv w,nS]) z47 rfl rfl rfl rfl ao ?_
 have sz:=(s7).loc (cs':=[iv 0,uv 0,iv 4,iv pp,iv g,uv M.gs[g].gen,iv 0,iv ck,uv M.gs[g].x.r0,uv M.gs[g].x.r1,uv M.gs[g].x.r2,uv M.gs[g].x.r3,uv M.gs[g].x.r4,iv e',uv w,nS]) z47 p4
 have qz:av (aO h7 b4 (.cells [iv 0,uv 0,iv 4,iv pp,iv g,uv M.gs[g].gen,iv 0,iv ck,uv M.gs[g].x.r0,uv M.gs[g].x.r1,uv M.gs[g].x.r2,uv M.gs[g].x.r3,uv M.gs[g].x.r4,iv e',uv w,nS] 46 true)) ⟨b4,0,none⟩ 16=some [iv 0,uv 0,iv 4,iv pp,iv g,uv M.gs[g].gen,iv 0,iv ck,uv M.gs[g].x.r0,uv M.gs[g].x.r1,uv M.gs[g].x.r2,uv M.gs[g].x.r3,uv M.gs[g].x.r4,iv e',uv w,nS]:=aq (by show b4<h7.n;exact ah) aF rfl rfl
 refine wk ?_
 refine hQ _ _ ?_
 with_reducible refine wk ?_
 exact hK _ _ V5 _ ⟨4,pp,g,M.gs[g].gen,0,ck,M.gs[g].x.r0,M.gs[g].x.r1,M.gs[g].x.r2,M.gs[g].x.r3,M.gs[g].x.r4,e',w,rfl⟩ nc' sz ((K7).loc m4)
end Go.Proofs.YthjlppdnlahhoaaGreat
