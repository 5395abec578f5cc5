/- THE DOCUMENT's Text, walked. Conditions: none beyond each theorem's own. -/
import Derived.Test.YtohjaacnlmkhbaaGreatDoorYF
import Derived.Test.YtohjaacnlmkhbaaGreatDoorPU
import Derived.Test.YtohjaacnlmkhbaaGreatDoorYQ
import Derived.Test.YtohjaacnlmkhbaaGreatDoorXT
import Derived.Test.YtohjaacnlmkhbaaGreatDoorTA
import Derived.Test.YtohjaacnlmkhbaaGreatDoorIJ
import Derived.Test.YtohjaacnlmkhbaaGreatDoorZE
import Derived.Shelf.Vars
import Derived.HandedShaped
import Derived.Test.YtohjaacnlmkhbaaGreatDoorRows
import Derived.Test.YtohjaacnlmkhbaaGreatDoorCards
import Derived.Test.YtohjaacnlmkhbaaGreatDoorTie
import Derived.LaidMore
import Derived.Lay
import Derived.SevenTiedAt
import Derived.Stop.Joined
import Derived.WalkKit
import Derived.ProofKit
import Derived.OpenShut
import Derived.SizedLaws
set_option linter.unusedSimpArgs false
set_option linter.unusedVariables false
namespace Go.Proofs.YtohjaacnlmkhbaaGreatDoor
open Go.Ev
set_option maxRecDepth 100000
set_option maxHeartbeats 1000000
def RdL (B:Nat) (h:Heap) (v:Value) (ls:List (List UInt8)):Prop :=
 ∃ a c,v=.slice a ls.length c∧∀ k (hk:k<ls.length),∃ i o,a=some ⟨i,o,none⟩∧i<B∧cellAt h ⟨i,o+k,none⟩=some (aq ls[k])
theorem RdL.own {B:Nat}{h:Heap}{v:Value}{ls:List (List UInt8)}(o:bn B h 9 v ls.length (ls.map aq)):RdL h.n h v ls:=by
 generalize hn:ls.length=n at o;generalize hc:ls.map aq=cs at o;cases o with
 | nil=>exact⟨_,_,by rw[hn],fun k hk=>by omega⟩
 | emp i hi=>exact⟨_,_,by rw[hn],fun k hk=>by omega⟩
 | row i n cs h1 h2 h3 =>
   refine⟨_,_,by rw[hn],fun k hk=>⟨i,0,rfl,h2,bQ h2 h3 ?_⟩⟩
   rw[Nat.zero_add,← hc,List.getElem?_map,List.getElem?_eq_getElem hk];rfl
def np (c:Nat→Int):List (List UInt8):=(List.range 14).map fun k=>Lib.itoa (c k)
theorem DA {c:Nat→Int}{pa:Option Addr}{pn pc:Nat}{h:Heap}{K:Value→Heap→Prop}(hb:∀ k,k<14→0<c k∧c k≤4294967296)
   (hK:∀ j h',ai h.n h h'→FP h' j (np c)→K (.slice (some ⟨j,0,none⟩) 14 14) h'):bT env (.func 45) [.agg ⟨br c (.slice pa pn pc)⟩] h K:=by
 refine F45 rfl ?_
 simp -dsimp only[↓WB,↓TO,↓UP,WP,ae,Nat.reduceEqDiff,Nat.reduceAdd,kZ]
 have V:=dm.new h (br c (.slice pa pn pc)) 25
 have X:ai h.n h (af h (.cells (br c (.slice pa pn pc)) 25 true)):=ai.new _ (Nat.le_refl _)
 have hn1:(af h (.cells (br c (.slice pa pn pc)) 25 true)).n=h.n+1:=rfl
 generalize af h (.cells (br c (.slice pa pn pc)) 25 true)=h0 at V X hn1 ⊢
 have nm:np c=[Lib.itoa (c 0),Lib.itoa (c 1),Lib.itoa (c 2),Lib.itoa (c 3),Lib.itoa (c 4),Lib.itoa (c 5),Lib.itoa (c 6),Lib.itoa (c 7),Lib.itoa (c 8),Lib.itoa (c 9),Lib.itoa (c 10),Lib.itoa (c 11),Lib.itoa (c 12),Lib.itoa (c 13)]:=rfl
 obtain⟨u10,hu10⟩:=Int.eq_ofNat_of_zero_le (Int.le_of_lt (hb 10 (by omega)).1)
 have l10:=(hb 10 (by omega)).2
 obtain⟨u11,hu11⟩:=Int.eq_ofNat_of_zero_le (Int.le_of_lt (hb 11 (by omega)).1)
 have l11:=(hb 11 (by omega)).2
 obtain⟨u12,hu12⟩:=Int.eq_ofNat_of_zero_le (Int.le_of_lt (hb 12 (by omega)).1)
 have l12:=(hb 12 (by omega)).2
 obtain⟨u13,hu13⟩:=Int.eq_ofNat_of_zero_le (Int.le_of_lt (hb 13 (by omega)).1)
 have l13:=(hb 13 (by omega)).2
 have b0:=hb 0 (by omega)
 have b1:=hb 1 (by omega)
 have b2:=hb 2 (by omega)
 have b3:=hb 3 (by omega)
 have b4:=hb 4 (by omega)
 have b5:=hb 5 (by omega)
 have b6:=hb 6 (by omega)
 have b7:=hb 7 (by omega)
 have b8:=hb 8 (by omega)
 have b9:=hb 9 (by omega)
 clear hb
 have Y:=X
 simp -dsimp only[↓WB,↓VE,WP,ae,Nat.reduceEqDiff,Nat.reduceAdd,V.BY,V.QG,hu10,hu11,hu12,hu13]
 iterate 10
   (refine j_ (by omega) (by omega) fun h' X=>?_
    have n:=X.n
    replace V:=V.ext X V.lt
    replace Y:=Y.trans (X.mono (by omega))
    refine⟨n,?_,?_⟩
    · repeat' simp -dsimp only[↓WB,↓VE,WP,ae,Nat.reduceEqDiff,Nat.reduceAdd,V.BY,V.QG,hu10,hu11,hu12,hu13]
      all_goals (repeat' (first|exact cZ _ _ _|(with_reducible refine And.intro ?_ ?_)))
    repeat' simp -dsimp only[↓WB,↓VE,WP,ae,Nat.reduceEqDiff,Nat.reduceAdd,V.BY,V.QG,hu10,hu11,hu12,hu13])
 iterate 4
   (refine sh _ (Nat.le_refl _) (by omega) fun h' X=>?_
    have n:=X.n
    replace V:=V.ext X V.lt
    replace Y:=Y.trans (X.mono (by omega))
    refine⟨n,?_,?_⟩
    · repeat' simp -dsimp only[↓WB,↓VE,WP,ae,Nat.reduceEqDiff,Nat.reduceAdd,V.BY,V.QG,hu10,hu11,hu12,hu13]
      all_goals (repeat' (first|exact cZ _ _ _|(with_reducible refine And.intro ?_ ?_)))
    repeat' simp -dsimp only[↓WB,↓VE,WP,ae,Nat.reduceEqDiff,Nat.reduceAdd,V.BY,V.QG,hu10,hu11,hu12,hu13])
 refine lf (l:=(np c).map aq) ?_ ?_
 · rw[nm,hu10,hu11,hu12,hu13];rfl
 have R:FP (af h' (.cells ((np c).map aq) 9 true)) h'.n (np c):=⟨Nat.lt_succ_self _,fun k hk=>bQ (Nat.lt_succ_self _) (aC _ _) (by rw[List.getElem?_map,List.getElem?_eq_getElem hk];rfl)⟩
 have Z:ai h.n h (af h' (.cells ((np c).map aq) 9 true)):=Y.trans (ai.new _ (by omega))
 have n15:h'.n≤(af h' (.cells ((np c).map aq) 9 true)).n:=Nat.le_succ _
 generalize af h' (.cells ((np c).map aq) 9 true)=h15 at R Z n15 ⊢
 refine⟨n15,?_,?_⟩
 · simp -dsimp only[↓WB,↓VE,WP,ae,Nat.reduceEqDiff,Nat.reduceAdd]
 simp -dsimp only[↓WB,↓VE,WP,ae,Nat.reduceEqDiff,Nat.reduceAdd]
 exact hK _ _ Z R
def j8 (x:UInt8):UInt8:=if 65≤x∧x≤90 then x+32 else x
theorem RA {x:UInt8}(h:65≤x.toNat∧x.toNat≤90):IntKind.wrap .u8 (IntKind.wrap .u8 ((x.toNat:Int)-65)+97)=((j8 x).toNat:Int):=by
 have h1:j8 x=x+32:=by unfold j8;rw[if_pos ⟨UInt8.le_iff_toNat_le.2 h.1,UInt8.le_iff_toNat_le.2 h.2⟩]
 have h2:(x+32).toNat=x.toNat+32:=by rw[UInt8.toNat_add];show (x.toNat+32)%256=_;omega
 have h3:IntKind.wrap .u8 ((x.toNat:Int)-65)=(x.toNat:Int)-65:=wrap_u8 (by omega) (by omega);rw[h1,h2,h3,wrap_u8 (by omega) (by omega)];omega
theorem WR {x:UInt8}(h:¬(65≤x.toNat∧x.toNat≤90)):j8 x=x:=by unfold j8;rw[if_neg (fun e=>h ⟨by simpa using UInt8.le_iff_toNat_le.1 e.1,by simpa using UInt8.le_iff_toNat_le.1 e.2⟩)]
theorem yz {s:List UInt8}{h:Heap}{K:Value→Heap→Prop}(hs:s.length≤1000) (hK:∀ h',ai h.n h h'→K (aq (s.map j8)) h'):bT env (.func 47) [aq s] h K:=by
 refine F47 rfl ?_;unfold aq;simp -dsimp only[↓WB,↓Tb,WP,ae,Nat.reduceEqDiff,Nat.reduceAdd];refine aE (fun m fr' h'=>∃ k v,k≤s.length∧m=s.length-k∧ai h.n h h'∧fr'.get 4=some (.int .i64 k)∧fr'.get 3=some v∧bn h.n h' 5 v ((s.take k).map j8).length (((s.take k).map j8).map aw)) s.length ?_ (by omega) ?_;·exact⟨0,_,by omega,by omega,ai.refl _ _,by simp[T.ah],by simp only[T.ah];rfl,by simpa using bn.nil⟩
 rintro m fr2 h2 ⟨k,v,hk,rfl,X2,f4,f3,O2⟩ hag;have e4:=aj f4;have e3:=aj f3;have b0:=au (hag 0 rfl);have n2:=X2.n;by_cases aB:k<s.length
 ·have ix:∀ {J:Value→Prop},J (.int .u8 (s[k].toNat:Int))→Ah env 9 (.string ⟨s.toArray⟩) (.int .i64 (k:Int)) J:=fun q=>iO iV aB q;have hsuc:(s.take (k+1)).map j8=(s.take k).map j8++[j8 s[k]]:=by rw[← List.take_append_getElem aB,List.map_append];rfl
  have hl:((s.take k).map j8).length=k:=by simp;omega
  generalize s[k]=x at ix hsuc;have fin:∀ (fr':Fr) (v':Value) (h4:Heap),bn h.n h4 5 v' (((s.take k).map j8).length+1) (((s.take k).map j8).map aw++[aw (j8 x)])→ai h.n h2 h4→fr'.get 4=some (.int .i64 (IntKind.wrap .i64 ((k:Int)+1)))→fr'.get 3=some v' →
    ∃ m',m'<s.length-k∧∃ k' v'',k'≤s.length∧m'=s.length-k'∧ai h.n h h4∧fr'.get 4=some (.int .i64 k')∧fr'.get 3=some v''∧bn h.n h4 5 v'' ((s.take k').map j8).length (((s.take k').map j8).map aw) :=
   fun fr' v' h4 O X g4 g3=>⟨s.length-(k+1),by omega,k+1,v',by omega,rfl,X2.trans X,by rw[g4,bf (show k≤4611686018427387904 by omega)],g3,by rw[hsuc,List.map_append,List.length_append];exact O⟩
  by_cases hx:65≤x.toNat∧x.toNat≤90;·obtain⟨x1,x2⟩:=hx;have hw:=RA ⟨x1,x2⟩;(with_reducible repeat' (first|refine y1 ?_|simp -dsimp only[↓WB,↓Tb,WP,ae,Nat.reduceEqDiff,Nat.reduceAdd,↓e4,↓e3,↓b0,ak]));refine ix ?_;(with_reducible repeat' (first|refine y1 ?_|refine y8 ?_|simp -dsimp only[↓WB,↓Tb,WP,ae,Nat.reduceEqDiff,Nat.reduceAdd,↓e4,↓e3,↓b0,hw]));refine dQ (new:=[aw (j8 x)]) O2 (by omega) (by simp) (by omega) rfl rfl (by decide) rfl fun v' h4 O4 X4 n4 _=>?_;simp -dsimp only[↓WB,↓Tb,WP,ae,Nat.reduceEqDiff,Nat.reduceAdd,↓e4,↓e3,↓b0];exact fin _ v' h4 O4 X4 (by simp[T.ah]) (by simp[T.ah])
  ·have hw:=WR hx;rw[hw]at fin;have hx2:¬65≤x.toNat∨(65≤x.toNat∧¬x.toNat≤90):=by omega
   rcases hx2 with hx2|⟨hx1,hx2⟩;all_goals
    (with_reducible repeat' (first|refine y1 ?_|simp -dsimp only[↓WB,↓Tb,WP,ae,Nat.reduceEqDiff,Nat.reduceAdd,↓e4,↓e3,↓b0,ak]))
    refine ix ?_
    (with_reducible repeat' (first|refine y1 ?_|refine y2 ?_|refine y8 ?_|simp -dsimp only[↓WB,↓Tb,WP,ae,Nat.reduceEqDiff,Nat.reduceAdd,↓e4,↓e3,↓b0]))
    refine dQ (new:=[aw x]) O2 (by omega) (by simp) (by omega) rfl rfl (by decide) rfl fun v' h4 O4 X4 n4 _=>?_
    repeat' simp -dsimp only[↓WB,↓Tb,WP,ae,Nat.reduceEqDiff,Nat.reduceAdd,↓e4,↓e3,↓b0]
    exact fin _ v' h4 O4 X4 (by simp[T.ah]) (by simp[T.ah])
 ·have hke:k=s.length:=by omega
  subst hke;rw[List.take_length]at O2;(with_reducible repeat' (first|refine y2 ?_|simp -dsimp only[↓WB,↓Tb,WP,ae,Nat.reduceEqDiff,Nat.reduceAdd,↓e4,↓e3,↓b0,ak]));refine Bd (l:=s.map j8) (nu.own O2) ?_;simp -dsimp only[↓WB,↓Tb,WP,ae,Nat.reduceEqDiff,Nat.reduceAdd,↓e4,↓e3,↓b0];exact hK _ X2
theorem I9:dC.map (fun s=>s.map j8)=aM:=by decide
theorem fj {s:List UInt8}{a i:Nat}(ha:a≤i) (hi:i<s.length):(s.drop a).take (i+1-a)=(s.drop a).take (i-a)++[s[i]]:=by rw[show i+1-a=(i-a)+1 by omega,← List.take_append_getElem (by rw[List.length_drop];omega),List.getElem_drop];congr 3;omega
theorem zK {c:UInt8}{s:List UInt8}{a i:Nat}(ha:a≤i) (hi:i<s.length) (hc:s[i]=c) (hno:c∉(s.drop a).take (i-a)):aZ c (s.drop a)=(s.drop a).take (i-a)::aZ c (s.drop (i+1)):=by
 have e:s.drop a=(s.drop a).take (i-a)++c::s.drop (i+1):=by
  conv=>lhs;rw[← List.take_append_drop (i-a) (s.drop a)]
  rw[List.drop_drop,show a+(i-a)=i by omega,List.drop_eq_getElem_cons hi,hc]
 conv=>lhs;rw[e]
 rw[jq _ hno]
theorem jY {s:List UInt8}{a i:Nat}:(s.take i).drop a=(s.drop a).take (i-a):=by rw[List.drop_take]
theorem ti {s:List UInt8}{h:Heap}{K:Value→Heap→Prop}(hs:s.length≤500000) (hK:∀ v h' ls r,aZ 10 s=ls++[r]→bn h.n h' 9 v ls.length (ls.map aq)→ai h.n h h'→K (.tuple #[v,aq r]) h'):bT env (.func 48) [aq s] h K:=by
 refine F48 rfl ?_;unfold aq;simp -dsimp only[↓WB,↓S7,WP,ae,Nat.reduceEqDiff,Nat.reduceAdd];refine aE (fun m fr' h'=>∃ i a v ls,i≤s.length∧a≤i∧m=s.length-i∧ai h.n h h'∧fr'.get 6=some (.int .i64 (i:Nat))∧fr'.get 5=some (.int .i64 (a:Nat))∧fr'.get 4=some v∧bn h.n h' 9 v ls.length (ls.map aq)∧ls.length≤i∧aZ 10 s=ls++aZ 10 (s.drop a)∧(10:UInt8)∉(s.drop a).take (i-a)) s.length ?_ (by omega) ?_;·exact⟨0,0,_,[],by omega,by omega,by omega,ai.refl _ _,by simp[T.ah],by simp[T.ah],by simp only[T.ah];rfl,bn.nil,by simp,by simp,by simp⟩
 rintro m fr2 h2 ⟨i,a,v,ls,hi,ha,rfl,X2,f6,f5,f4,O2,hl,hsp,hno⟩ hag;have e6:=aj f6;have e5:=aj f5;have e4:=aj f4;have b0:=au (hag 0 rfl);have n2:=X2.n;have wi:IntKind.wrap .i64 ((i:Int)+1)=((i+1:Nat):Int):=by rw[wrap_i64 (by omega) (by omega)];omega
 by_cases aB:i<s.length
 ·have ix:∀ {J:Value→Prop},J (.int .u8 (s[i].toNat:Int))→Ah env 9 (.string ⟨s.toArray⟩) (.int .i64 (i:Int)) J:=fun q=>iO iV aB q;by_cases hc:s[i]=10
  ·have hsa:=zK ha aB hc hno;rw[hc]at ix;have o_:((10:UInt8).toNat:Int)=10:=rfl;(with_reducible repeat' (first|refine y1 ?_|simp -dsimp only[↓WB,↓S7,WP,ae,Nat.reduceEqDiff,Nat.reduceAdd,↓e6,↓e5,↓e4,↓b0,ak]));refine ix ?_;simp -dsimp only[↓WB,↓S7,WP,ae,Nat.reduceEqDiff,Nat.reduceAdd,↓e6,↓e5,↓e4,↓b0,o_];refine ig iV ha (by omega) ?_;rw[jY];(with_reducible repeat' (first|refine y8 ?_|simp -dsimp only[↓WB,↓S7,WP,ae,Nat.reduceEqDiff,Nat.reduceAdd,↓e6,↓e5,↓e4,↓b0]));refine dQ (new:=[aq ((s.drop a).take (i-a))]) O2 (by omega) (by simp) (by omega) rfl rfl (by decide) rfl fun v' h4 O4 X4 n4 _=>?_;simp -dsimp only[↓WB,↓S7,WP,ae,Nat.reduceEqDiff,Nat.reduceAdd,↓e6,↓e5,↓e4,↓b0,wi];refine⟨s.length-(i+1),by omega,i+1,i+1,v',ls++[(s.drop a).take (i-a)],by omega,by omega,rfl,X2.trans X4,by simp[T.ah],by simp[T.ah],by simp[T.ah],?_,by simp;omega,?_,by simp⟩;·rw[List.map_append,List.length_append];exact O4
   ·rw[hsp,hsa];simp
  ·have hci:¬((s[i].toNat:Int)=10):=fun e=>hc (UInt8.toNat_inj.1 (by show s[i].toNat=10;omega));have hts:=fj ha aB;generalize s[i]=x at ix hc hci hts;(with_reducible repeat' (first|refine y1 ?_|simp -dsimp only[↓WB,↓S7,WP,ae,Nat.reduceEqDiff,Nat.reduceAdd,↓e6,↓e5,↓e4,↓b0,ak]));refine ix ?_;simp -dsimp only[↓WB,↓S7,WP,ae,Nat.reduceEqDiff,Nat.reduceAdd,↓e6,↓e5,↓e4,↓b0,hci,wi];refine⟨s.length-(i+1),by omega,i+1,a,v,ls,by omega,by omega,rfl,X2,by simp[T.ah],by simp[T.ah,f5],by simp[T.ah,f4],O2,by omega,hsp,?_⟩;rw[hts];intro hm;rcases List.mem_append.1 hm with hm|hm;·exact hno hm
   ·rw[List.mem_singleton]at hm;exact hc hm.symm
 ·have hie:i=s.length:=by omega
  subst hie;have hno':(10:UInt8)∉s.drop a:=by rw[List.take_of_length_le (by rw[List.length_drop];omega)]at hno;exact hno
  rw[lP hno']at hsp;(with_reducible repeat' (first|refine y2 ?_|simp -dsimp only[↓WB,↓S7,WP,ae,Nat.reduceEqDiff,Nat.reduceAdd,↓e6,↓e5,↓e4,↓b0,ak]));refine pL iV ha ?_;(with_reducible repeat' (first|refine y5 ?_|simp -dsimp only[↓WB,↓S7,WP,ae,Nat.reduceEqDiff,Nat.reduceAdd,↓e6,↓e5,↓e4,↓b0]));exact hK v h2 ls _ hsp O2 X2
theorem tn {s:List UInt8}{h:Heap}{K:Value→Heap→Prop}(hs:s.length≤500000) (hK:∀ v h',bn h.n h' 9 v (aZ 32 s).length ((aZ 32 s).map aq)→ai h.n h h'→K v h'):bT env (.func 51) [aq s] h K:=by
 refine F51 rfl ?_;unfold aq;simp -dsimp only[↓WB,↓M4,WP,ae,Nat.reduceEqDiff,Nat.reduceAdd];refine aE (fun m fr' h'=>∃ i v ls,i≤s.length+1∧m=s.length+1-i∧ai h.n h h'∧fr'.get 5=some (.int .i64 (i:Nat))∧fr'.get 3=some v∧bn h.n h' 9 v ls.length (ls.map aq)∧ls.length≤i∧((i=s.length+1∧aZ 32 s=ls)∨(i≤s.length∧∃ a,a≤i∧fr'.get 4=some (.int .i64 (a:Nat))∧aZ 32 s=ls++aZ 32 (s.drop a)∧(32:UInt8)∉(s.drop a).take (i-a)))) (s.length+1) ?_ (by omega) ?_;·exact⟨0,_,[],by omega,by omega,ai.refl _ _,by simp[T.ah],by simp only[T.ah];rfl,bn.nil,by simp,.inr ⟨by omega,0,by omega,by simp[T.ah],by simp,by simp⟩⟩
 rintro m fr2 h2 ⟨i,v,ls,hi,rfl,X2,f5,f3,O2,hl,hcase⟩ hag;have e5:=aj f5;have e3:=aj f3;have b0:=au (hag 0 rfl);have n2:=X2.n;have wi:IntKind.wrap .i64 ((i:Int)+1)=((i+1:Nat):Int):=by rw[wrap_i64 (by omega) (by omega)];omega
 rcases hcase with ⟨hie,hls⟩|⟨hle,a,ha,f4,hsp,hno⟩
 ·have hgt:¬((i:Int)≤(s.length:Int)):=by omega
  subst hls;simp -dsimp only[↓WB,↓M4,WP,ae,Nat.reduceEqDiff,Nat.reduceAdd,↓e5,↓e3,↓b0,ak,hgt];exact hK _ _ O2 X2
 have e4:=aj f4;by_cases aB:i<s.length
 ·have ix:∀ {J:Value→Prop},J (.int .u8 (s[i].toNat:Int))→Ah env 9 (.string ⟨s.toArray⟩) (.int .i64 (i:Int)) J:=fun q=>iO iV aB q;by_cases hc:s[i]=32
  ·have hsa:=zK ha aB hc hno;rw[hc]at ix;have o_:((32:UInt8).toNat:Int)=32:=rfl;(with_reducible repeat' (first|refine y1 ?_|refine y2 ?_|simp -dsimp only[↓WB,↓M4,WP,ae,Nat.reduceEqDiff,Nat.reduceAdd,↓e5,↓e3,↓e4,↓b0,ak]));refine ix ?_;simp -dsimp only[↓WB,↓M4,WP,ae,Nat.reduceEqDiff,Nat.reduceAdd,↓e5,↓e3,↓e4,↓b0,o_];refine ig iV ha (by omega) ?_;rw[jY];(with_reducible repeat' (first|refine y8 ?_|simp -dsimp only[↓WB,↓M4,WP,ae,Nat.reduceEqDiff,Nat.reduceAdd,↓e5,↓e3,↓e4,↓b0]));refine dQ (new:=[aq ((s.drop a).take (i-a))]) O2 (by omega) (by simp) (by omega) rfl rfl (by decide) rfl fun v' h4 O4 X4 n4 _=>?_;simp -dsimp only[↓WB,↓M4,WP,ae,Nat.reduceEqDiff,Nat.reduceAdd,↓e5,↓e3,↓e4,↓b0,wi];refine⟨s.length+1-(i+1),by omega,i+1,v',ls++[(s.drop a).take (i-a)],by omega,rfl,X2.trans X4,by simp[T.ah],by simp[T.ah],?_,by simp;omega,.inr ⟨by omega,i+1,by omega,by simp[T.ah],?_,by simp⟩⟩;·rw[List.map_append,List.length_append];exact O4
   ·rw[hsp,hsa];simp
  ·have hci:¬((s[i].toNat:Int)=32):=fun e=>hc (UInt8.toNat_inj.1 (by show s[i].toNat=32;omega));have hts:=fj ha aB;generalize s[i]=x at ix hc hci hts;(with_reducible repeat' (first|refine y1 ?_|refine y2 ?_|simp -dsimp only[↓WB,↓M4,WP,ae,Nat.reduceEqDiff,Nat.reduceAdd,↓e5,↓e3,↓e4,↓b0,ak]));refine ix ?_;simp -dsimp only[↓WB,↓M4,WP,ae,Nat.reduceEqDiff,Nat.reduceAdd,↓e5,↓e3,↓e4,↓b0,hci,wi];refine⟨s.length+1-(i+1),by omega,i+1,v,ls,by omega,rfl,X2,by simp[T.ah],by simp[T.ah,f3],O2,by omega,.inr ⟨by omega,a,by omega,by simp[T.ah,f4],hsp,?_⟩⟩;rw[hts];intro hm;rcases List.mem_append.1 hm with hm|hm;·exact hno hm
   ·rw[List.mem_singleton]at hm;exact hc hm.symm
 ·have hie:i=s.length:=by omega
  subst hie;have hno':(32:UInt8)∉s.drop a:=by rw[List.take_of_length_le (by rw[List.length_drop];omega)]at hno;exact hno
  rw[lP hno']at hsp;(with_reducible repeat' (first|refine y1 ?_|simp -dsimp only[↓WB,↓M4,WP,ae,Nat.reduceEqDiff,Nat.reduceAdd,↓e5,↓e3,↓e4,↓b0,ak]));refine ig iV ha (Nat.le_refl _) ?_;rw[List.take_length];(with_reducible repeat' (first|refine y8 ?_|simp -dsimp only[↓WB,↓M4,WP,ae,Nat.reduceEqDiff,Nat.reduceAdd,↓e5,↓e3,↓e4,↓b0]));refine dQ (new:=[aq (s.drop a)]) O2 (by omega) (by simp) (by omega) rfl rfl (by decide) rfl fun v' h4 O4 X4 n4 _=>?_;simp -dsimp only[↓WB,↓M4,WP,ae,Nat.reduceEqDiff,Nat.reduceAdd,↓e5,↓e3,↓e4,↓b0,wi];refine⟨s.length+1-(s.length+1),by omega,s.length+1,v',ls++[s.drop a],by omega,rfl,X2.trans X4,by simp[T.ah],by simp[T.ah],?_,by simp;omega,.inl ⟨rfl,hsp⟩⟩;rw[List.map_append,List.length_append];exact O4
theorem HG {s:List UInt8}{h:Heap}{K:Value→Heap→Prop}(hs:s.length≤500000) (hK:∀ v h',bn h.n h' 9 v (aZ 32 s).length ((aZ 32 s).map aq)→ai h.n h h'→K v h'):bT env (.func 116) [aq s] h K:=by
 refine F116 rfl ?_;unfold aq;simp -dsimp only[↓WB,↓uJ,WP,ae,Nat.reduceEqDiff,Nat.reduceAdd];refine aE (fun m fr' h'=>∃ i v ls,i≤s.length+1∧m=s.length+1-i∧ai h.n h h'∧fr'.get 5=some (.int .i64 (i:Nat))∧fr'.get 3=some v∧bn h.n h' 9 v ls.length (ls.map aq)∧ls.length≤i∧((i=s.length+1∧aZ 32 s=ls)∨(i≤s.length∧∃ a,a≤i∧fr'.get 4=some (.int .i64 (a:Nat))∧aZ 32 s=ls++aZ 32 (s.drop a)∧(32:UInt8)∉(s.drop a).take (i-a)))) (s.length+1) ?_ (by omega) ?_;·exact⟨0,_,[],by omega,by omega,ai.refl _ _,by simp[T.ah],by simp only[T.ah];rfl,bn.nil,by simp,.inr ⟨by omega,0,by omega,by simp[T.ah],by simp,by simp⟩⟩
 rintro m fr2 h2 ⟨i,v,ls,hi,rfl,X2,f5,f3,O2,hl,hcase⟩ hag;have e5:=aj f5;have e3:=aj f3;have b0:=au (hag 0 rfl);have n2:=X2.n;have wi:IntKind.wrap .i64 ((i:Int)+1)=((i+1:Nat):Int):=by rw[wrap_i64 (by omega) (by omega)];omega
 rcases hcase with ⟨hie,hls⟩|⟨hle,a,ha,f4,hsp,hno⟩
 ·have hgt:¬((i:Int)≤(s.length:Int)):=by omega
  subst hls;simp -dsimp only[↓WB,↓uJ,WP,ae,Nat.reduceEqDiff,Nat.reduceAdd,↓e5,↓e3,↓b0,ak,hgt];exact hK _ _ O2 X2
 have e4:=aj f4;by_cases aB:i<s.length
 ·have ix:∀ {J:Value→Prop},J (.int .u8 (s[i].toNat:Int))→Ah env 9 (.string ⟨s.toArray⟩) (.int .i64 (i:Int)) J:=fun q=>iO iV aB q;by_cases hc:s[i]=32
  ·have hsa:=zK ha aB hc hno;rw[hc]at ix;have o_:((32:UInt8).toNat:Int)=32:=rfl;(with_reducible repeat' (first|refine y1 ?_|refine y2 ?_|simp -dsimp only[↓WB,↓uJ,WP,ae,Nat.reduceEqDiff,Nat.reduceAdd,↓e5,↓e3,↓e4,↓b0,ak]));refine ix ?_;simp -dsimp only[↓WB,↓uJ,WP,ae,Nat.reduceEqDiff,Nat.reduceAdd,↓e5,↓e3,↓e4,↓b0,o_];refine ig iV ha (by omega) ?_;rw[jY];(with_reducible repeat' (first|refine y8 ?_|simp -dsimp only[↓WB,↓uJ,WP,ae,Nat.reduceEqDiff,Nat.reduceAdd,↓e5,↓e3,↓e4,↓b0]));refine dQ (new:=[aq ((s.drop a).take (i-a))]) O2 (by omega) (by simp) (by omega) rfl rfl (by decide) rfl fun v' h4 O4 X4 n4 _=>?_;simp -dsimp only[↓WB,↓uJ,WP,ae,Nat.reduceEqDiff,Nat.reduceAdd,↓e5,↓e3,↓e4,↓b0,wi];refine⟨s.length+1-(i+1),by omega,i+1,v',ls++[(s.drop a).take (i-a)],by omega,rfl,X2.trans X4,by simp[T.ah],by simp[T.ah],?_,by simp;omega,.inr ⟨by omega,i+1,by omega,by simp[T.ah],?_,by simp⟩⟩;·rw[List.map_append,List.length_append];exact O4
   ·rw[hsp,hsa];simp
  ·have hci:¬((s[i].toNat:Int)=32):=fun e=>hc (UInt8.toNat_inj.1 (by show s[i].toNat=32;omega));have hts:=fj ha aB;generalize s[i]=x at ix hc hci hts;(with_reducible repeat' (first|refine y1 ?_|refine y2 ?_|simp -dsimp only[↓WB,↓uJ,WP,ae,Nat.reduceEqDiff,Nat.reduceAdd,↓e5,↓e3,↓e4,↓b0,ak]));refine ix ?_;simp -dsimp only[↓WB,↓uJ,WP,ae,Nat.reduceEqDiff,Nat.reduceAdd,↓e5,↓e3,↓e4,↓b0,hci,wi];refine⟨s.length+1-(i+1),by omega,i+1,v,ls,by omega,rfl,X2,by simp[T.ah],by simp[T.ah,f3],O2,by omega,.inr ⟨by omega,a,by omega,by simp[T.ah,f4],hsp,?_⟩⟩;rw[hts];intro hm;rcases List.mem_append.1 hm with hm|hm;·exact hno hm
   ·rw[List.mem_singleton]at hm;exact hc hm.symm
 ·have hie:i=s.length:=by omega
  subst hie;have hno':(32:UInt8)∉s.drop a:=by rw[List.take_of_length_le (by rw[List.length_drop];omega)]at hno;exact hno
  rw[lP hno']at hsp;(with_reducible repeat' (first|refine y1 ?_|simp -dsimp only[↓WB,↓uJ,WP,ae,Nat.reduceEqDiff,Nat.reduceAdd,↓e5,↓e3,↓e4,↓b0,ak]));refine ig iV ha (Nat.le_refl _) ?_;rw[List.take_length];(with_reducible repeat' (first|refine y8 ?_|simp -dsimp only[↓WB,↓uJ,WP,ae,Nat.reduceEqDiff,Nat.reduceAdd,↓e5,↓e3,↓e4,↓b0]));refine dQ (new:=[aq (s.drop a)]) O2 (by omega) (by simp) (by omega) rfl rfl (by decide) rfl fun v' h4 O4 X4 n4 _=>?_;simp -dsimp only[↓WB,↓uJ,WP,ae,Nat.reduceEqDiff,Nat.reduceAdd,↓e5,↓e3,↓e4,↓b0,wi];refine⟨s.length+1-(s.length+1),by omega,s.length+1,v',ls++[s.drop a],by omega,rfl,X2.trans X4,by simp[T.ah],by simp[T.ah],?_,by simp;omega,.inl ⟨rfl,hsp⟩⟩;rw[List.map_append,List.length_append];exact O4
theorem Hr (l:List UInt8):(⟨l.toArray⟩:ByteArray)++⟨⟨[10]⟩⟩=⟨(l++[10]).toArray⟩:=aY l [10]
theorem TW (l:List UInt8):(⟨l.toArray⟩:ByteArray)++⟨⟨[32]⟩⟩=⟨(l++[32]).toArray⟩:=aY l [32]
theorem Ud (l:List UInt8):(⟨l.toArray⟩:ByteArray)++⟨⟨[112,114,111,103,114,97,109,10]⟩⟩=⟨(l++[112,114,111,103,114,97,109,10]).toArray⟩:=aY l _
theorem U_:(⟨⟨[10]⟩⟩:ByteArray).size=1:=rfl
theorem Yl:(⟨⟨[32]⟩⟩:ByteArray).size=1:=rfl
theorem szPr:(⟨⟨[112,114,111,103,114,97,109,10]⟩⟩:ByteArray).size=8:=rfl
theorem Vu {x:UInt8}:[x].length=1:=rfl
theorem qu (n:Nat) (s:ByteArray):aW n (.string s) (.string s)=true:=by cases n<;>simp[aW,iU]
theorem A9 {B b1:Nat}{c:Nat→Int}{pv:Value}{aa:Option Addr}{ac:Nat}{A:List ba}{l:List UInt8}{fr:Fr}{h1:Heap}{K:Value→Heap→Prop}(hB:B≤h1.n)
  (g1:fr.get 1=some (.pointer (some ⟨b1,0,none⟩))) (g3:fr.get 3=some (aq l)) (bx:dm h1 b1 (aV c pv (.slice aa A.length ac)) 28) (ra:qg B h1 (.slice aa A.length ac) A) (ok:∀ a∈A,xA a) (hA:A.length≤5000) (hl:l.length+71*A.length≤1000000)
  (hK:∀ h',ai h1.n h1 h'→K (aq (l++kH A A.length)) h'):Fm.wp env 88 none fr h1 (eY env [.tmp 2] K):=by
 have k1:=aj g1
 have k3:=aj g3
 unfold aq at k3
 simp -dsimp only[↓WB,↓W16,WP,ae,Nat.reduceEqDiff,Nat.reduceAdd,↓k1,↓k3]
 refine aE (fun m fr' h'=>∃ k:Nat,k≤A.length∧m=A.length-k∧ai h1.n h1 h'∧fr'.get 11=some (.int .i64 k)∧fr'.get 3=some (aq (l++kH A k))) A.length ?_ (by omega) ?_
 ·exact⟨0,by omega,by omega,ai.refl _ _,by simp[T.ah],by simpa[T.ah,kH]using g3⟩
 rintro m fr2 h2 ⟨k,hk,rfl,X2,f11,f3⟩ hag
 have e11:=aj f11
 have e3:=aj f3
 unfold aq at e3
 have b1':=au (hag 1 rfl)
 have n2:=X2.n
 have bx2:=bx.ext X2 bx.lt
 obtain⟨_,_,_,d15⟩:=bx2.kW
 have al:=oN ok hk
 by_cases aB:k<A.length
 ·obtain⟨i,o,rfl,hi,hc⟩:=(ra.ext (X2.mono hB)).at_ aB;have oka:=ok _ (List.getElem_mem aB);have asl:=qs oka;have hsucc:=pD aB;generalize A[k]=a at hc oka asl hsucc;(with_reducible repeat' (first|refine y1 ?_|refine y4 ?_|simp -dsimp only[↓WB,↓W16,WP,ae,Nat.reduceEqDiff,Nat.reduceAdd,↓e11,↓e3,↓b1',↓k1,d15,hc]));refine ET (a:=a) oka fun h3 X3=>?_;have n3:=X3.n;unfold aq;(with_reducible repeat' (first|refine y5 ?_|simp -dsimp only[↓WB,↓W16,WP,ae,Nat.reduceEqDiff,Nat.reduceAdd,↓e11,↓e3,↓b1',↓k1,aY,Hr,ak,U_,List.length_append,Vu]));refine⟨A.length-(k+1),by omega,k+1,by omega,by omega,X2.trans (X3.mono n2),by simp[T.ah,bf (show k≤4611686018427387904 by omega)],?_⟩;rw[hsucc];simp[T.ah,aq,cL,← aY]
 ·have hke:k=A.length:=by omega
  subst hke;unfold aq at hK;(with_reducible repeat' (first|refine y2 ?_|simp -dsimp only[↓WB,↓W16,WP,ae,Nat.reduceEqDiff,Nat.reduceAdd,↓e11,↓e3,↓b1',↓k1,d15]));exact hK _ X2
theorem xK {B b1:Nat}{c:Nat→Int}{pa aa:Option Addr}{pc ac:Nat}{P:List (List UInt8)}{A:List ba}{l:List UInt8}{fr:Fr}{h1:Heap}{K:Value→Heap→Prop}(hB:B≤h1.n)
  (g1:fr.get 1=some (.pointer (some ⟨b1,0,none⟩))) (g3:fr.get 3=some (aq l)) (bx:dm h1 b1 (aV c (.slice pa P.length pc) (.slice aa A.length ac)) 28) (r:qk B h1 (.slice pa P.length pc) P) (ra:qg B h1 (.slice aa A.length ac) A) (ok:∀ a∈A,xA a) (hA:A.length≤5000) (hP:P.length≤16) (hp:∀ p∈P,p.length≤1024) (hl:l.length≤434)
  (hK:∀ h',ai h1.n h1 h'→K (aq (l++gd P P.length++kH A A.length)) h'):Em.wp env 88 none fr h1 (eY env [.tmp 2] K):=by
 have k1:=aj g1
 have k3:=aj g3
 unfold aq at k3
 simp -dsimp only[↓WB,↓jR,↓jW,↓eh,↓eQ,↓jU,↓js,↓jT,WP,ae,Nat.reduceEqDiff,Nat.reduceAdd,↓k1,↓k3]
 refine aE (fun m fr' h'=>∃ k:Nat,k≤P.length∧m=P.length-k∧ai h1.n h1 h'∧fr'.get 7=some (.int .i64 k)∧fr'.get 3=some (aq (l++gd P k))) P.length ?_ (by omega) ?_
 ·exact⟨0,by omega,by omega,ai.refl _ _,by simp[T.ah],by simpa[T.ah,gd]using g3⟩
 rintro m fr2 h2 ⟨k,hk,rfl,X2,f7,f3⟩ hag
 have e7:=aj f7
 have e3:=aj f3
 unfold aq at e3
 have b1':=au (hag 1 rfl)
 have n2:=X2.n
 have bx2:=bx.ext X2 bx.lt
 obtain⟨_,_,d14,_⟩:=bx2.kW
 have pl:=mv hp hk
 by_cases aB:k<P.length
 ·obtain⟨i,o,ua,uc,rfl,hi,hc,hu⟩:=(r.ext (X2.mono hB)).at_ aB;have hpk:=hp _ (List.getElem_mem aB);have hsucc:=oD aB;have tl:=sY hpk;generalize hgp:P[k]=p at hc hu hpk hsucc tl;(with_reducible repeat' (first|refine y1 ?_|refine y4 ?_|refine y5 ?_|simp -dsimp only[↓WB,↓jR,↓jW,↓eh,↓jU,↓js,↓jT,WP,ae,Nat.reduceEqDiff,Nat.reduceAdd,↓e7,↓e3,↓b1',↓k1,d14,Ud,ak,szPr,List.length_append,Nat.mul_one,hc]));refine tJ (B:=B) (p:=p) hu (by omega) (by omega) fun h3 X3=>?_;have n3:=X3.n;unfold aq;simp -dsimp only[↓WB,↓jR,↓jW,↓eh,↓jU,↓js,↓jT,WP,ae,Nat.reduceEqDiff,Nat.reduceAdd,↓e7,↓e3,↓b1',↓k1];refine ti (s:=c_ p) (by omega) fun v h4 ls r4 hsp O4 X4=>?_;have n4:=X4.n;rw[iX]at hsp;obtain⟨rfl,_⟩:=List.append_inj' hsp rfl;have R4:=RdL.own O4;simp -dsimp only[↓WB,↓jR,↓jW,↓eQ,↓jU,↓js,↓jT,WP,ae,Nat.reduceEqDiff,Nat.reduceAdd,↓e7,↓e3,↓b1',↓k1];have hll:=pQ p;have X14:ai h1.n h1 h4:=(X2.trans (X3.mono n2)).trans (X4.mono (by omega));obtain⟨va,vc,rfl,q4⟩:=id R4;refine aE (fun m fr' h'=>∃ q:Nat,q≤(bp p).length∧m=(bp p).length-q∧h'=h4∧fr'.get 10=some (.int .i64 q)∧fr'.get 3=some (aq (l++gd P k++cL dM++vg p q))) (bp p).length ?_ (by omega) ?_;·exact⟨0,by omega,by omega,rfl,by simp[T.ah],by simp[T.ah,vg,aq,cL,dM,Ud]⟩
  rintro m fr3 h6 ⟨q,hq,rfl,rfl,f10,f3'⟩ hag3;have o_:=aj f10;have e3':=aj f3';unfold aq at e3';have c1':=au (hag3 1 rfl);have c7:=au (hag3 7 rfl);have c8:=au (hag3 8 rfl);have il:=qK p hq;have ep:(cL dM).length=8:=rfl;by_cases hql:q<(bp p).length;·obtain⟨i4,o4,rfl,hi4,cq⟩:=q4 q hql;have lm:=pW (List.getElem_mem hql);have his:=sH hql;generalize (bp p)[q]=w at cq lm his;unfold aq at cq;(with_reducible repeat' (first|refine y1 ?_|refine y4 ?_|refine y5 ?_|simp -dsimp only[↓WB,↓jR,↓jW,↓eh,↓eQ,↓jU,↓js,↓jT,WP,ae,Nat.reduceEqDiff,Nat.reduceAdd,↓o_,↓e3',↓c1',↓c7,↓c8,↓e7,↓b1',↓k1,Nat.mul_one,Nat.zero_add,cq,aY,Hr,TW,ak,U_,Yl,List.length_append,Vu,ep]));refine⟨(bp p).length-(q+1),by omega,q+1,by omega,by omega,by simp[T.ah,bf (show q≤4611686018427387904 by omega)],?_⟩;rw[his];simp[T.ah,aq,cL,← aY]
  ·have hqe:q=(bp p).length:=by omega
   subst hqe;(with_reducible repeat' (first|refine y2 ?_|simp -dsimp only[↓WB,↓jR,↓jW,↓eh,↓eQ,↓jU,↓js,↓jT,WP,ae,Nat.reduceEqDiff,Nat.reduceAdd,↓o_,↓e3',↓c1',↓c7,↓c8,↓e7,↓b1',↓k1]));refine⟨P.length-(k+1),by omega,k+1,by omega,by omega,X14,by simp[T.ah,bf (show k≤4611686018427387904 by omega)],?_⟩;have g:fr3.get 3=some (aq (l++gd P (k+1))):=by rw[f3',hsucc,sj];have e:cL dM=[112,114,111,103,114,97,109,10]:=rfl;rw[e];simp only[List.append_assoc]
   simp[T.ah,g,aq]
 ·have hke:k=P.length:=by omega
  subst hke;(with_reducible repeat' (first|refine y2 ?_|simp -dsimp only[↓WB,↓jR,↓jW,↓eh,↓eQ,↓jU,↓js,↓jT,WP,ae,Nat.reduceEqDiff,Nat.reduceAdd,↓e7,↓e3,↓b1',↓k1,d14]));refine A9 (B:=B) (b1:=b1) (l:=l++gd P P.length) (by omega) ?_ ?_ bx2 (ra.ext (X2.mono hB)) ok hA (by rw[List.length_append];omega) fun h' X=>hK h' (X2.trans (X.mono n2));·simp[T.ah,hag 1 rfl,g1]
  ·simp[T.ah,f3]
theorem Ap {B:Nat}{c:Nat→Int}{pv av:Value}{P:List (List UInt8)}{A:List ba}{h:Heap}{K:Value→Heap→Prop}(g:Good c P A) (r:qk B h pv P) (ra:qg B h av A) (hB:B≤h.n) (hA:A.length≤5000)
  (hK:∀ h',ai h.n h h'→K (aq (cU c P A)) h'):bT env (.func 16) [.agg ⟨aV c pv av⟩] h K:=by
 obtain⟨pa,pc,rfl,_⟩:=id r
 obtain⟨aa,ac,rfl,_⟩:=id ra
 have hbd:∀ k,k<14→0<c k∧c k≤4294967296:=fun k hk=>sf hk (g.c k hk)
 have okc:Mi c:=⟨fun k hk=>by have:=hbd k (by omega);omega,fun k h1 h2=>by have:=hbd k h2;omega⟩
 refine F16 rfl ?_
 simp -dsimp only[↓WB,↓jR,↓iA,↓jW,↓eh,↓eQ,↓jU,↓jT,WP,ae,Nat.reduceEqDiff,Nat.reduceAdd,jm]
 have V:=dm.new h (aV c (.slice pa P.length pc) (.slice aa A.length ac)) 28
 have X:ai h.n h (af h (.cells (aV c (.slice pa P.length pc) (.slice aa A.length ac)) 28 true)):=ai.new _ (Nat.le_refl _)
 have hn1:(af h (.cells (aV c (.slice pa P.length pc) (.slice aa A.length ac)) 28 true)).n=h.n+1:=rfl
 generalize af h (.cells (aV c (.slice pa P.length pc) (.slice aa A.length ac)) 28 true)=h1 at V X hn1 ⊢
 obtain⟨_,d15,_,_⟩:=V.kW
 simp -dsimp only[↓WB,↓jR,↓iA,↓jW,↓eh,↓eQ,↓jU,↓jT,WP,ae,Nat.reduceEqDiff,Nat.reduceAdd,d15]
 refine DA (c:=c) hbd fun j h2 X2 R2=>?_
 have n2:=X2.n
 simp -dsimp only[↓WB,↓jR,↓iA,↓jW,↓eh,↓eQ,↓jU,↓jT,WP,ae,Nat.reduceEqDiff,Nat.reduceAdd]
 refine so fun j3 h3 X3 lt3 ge3 c3=>?_
 have n3:=X3.n
 have R3:=R2.ext X3
 have X13:ai h1.n h1 h3:=X2.trans (X3.mono n2)
 have X03:ai h.n h h3:=X.trans (X13.mono (by omega))
 simp -dsimp only[↓WB,↓jR,↓iA,↓jW,↓eh,↓eQ,↓jU,↓jT,WP,ae,Nat.reduceEqDiff,Nat.reduceAdd]
 refine aE (fun m fr' h'=>∃ k:Nat,k≤14∧m=14-k∧ai h3.n h3 h'∧fr'.get 6=some (.int .i64 k)∧fr'.get 3=some (aq (sG c k))) 14 ?_ (by omega) ?_
 ·exact⟨0,by omega,by omega,ai.refl _ _,by simp[T.ah],by simp[T.ah,sG,aq]⟩
 rintro m fr2 h4 ⟨k,hk,rfl,X4,f6,f3⟩ hag
 have e6:=aj f6
 have e3:=aj f3
 unfold aq at e3
 have b1':=au (hag 1 rfl)
 have b4:=au (hag 4 rfl)
 have b5:=au (hag 5 rfl)
 have n4:=X4.n
 have cl:=n_ okc hk
 by_cases aB:k<14
 ·have hkn:k<dC.length:=aB;have hkw:k<aM.length:=aB;have cn:=aI X4 lt3 (c3 k hkn);have R4:=R3.ext X4;have cm:cellAt h4 ⟨j,k,none⟩=some (aq (Lib.itoa (c k))):=by
   have hkl:k<(np c).length:=by simpa[np]using aB
   have cm:=R4.at_ k hkl;have em:(np c)[k]=Lib.itoa (c k):=by simp[np]
   rw[em]at cm;exact cm
  have hlow:dC[k].map j8=aM[k]:=by have:=congrArg (fun l=>l[k]?) I9;simp only[List.getElem?_map,List.getElem?_eq_getElem hkn,List.getElem?_eq_getElem hkw,Option.map_some,Option.some.injEq]at this;exact this
  have hnl:dC[k].length≤1000:=by
   have:dC.all (fun l=>decide (l.length≤1000))=true:=by decide
   exact of_decide_eq_true (List.all_eq_true.1 this _ (List.getElem_mem hkn))
  have hcl:=sC okc aB;have hcs:=s6 c k;have hex:dh c k=aM[k]++[32]++Lib.itoa (c k):=by unfold dh;rw[ke hkw]
  have hil:=GK okc aB;have hwl:aM[k].length≤8:=by rw[← ke hkw];exact wW
  generalize dC[k]=w0 at cn hlow hnl;generalize aM[k]=w at hlow hex hwl;unfold aq at cn cm;(with_reducible repeat' (first|refine y1 ?_|refine y4 ?_|simp -dsimp only[↓WB,↓jR,↓iA,↓jW,↓eh,↓eQ,↓jU,↓jT,WP,ae,Nat.reduceEqDiff,Nat.reduceAdd,↓e6,↓e3,↓b1',↓b4,↓b5,Nat.mul_one,Nat.zero_add,cn,cm]));refine yz (s:=w0) hnl fun h5 X5=>?_;rw[hlow];have n5:=X5.n;unfold aq;refine⟨n5,?_,?_⟩;·simp -dsimp only[↓WB,↓jR,↓iA,↓jW,↓eh,↓eQ,↓jU,↓jT,WP,ae,Nat.reduceEqDiff,Nat.reduceAdd,Nat.mul_one,Nat.zero_add,aI X5 (by have:=R4.lt;omega) cm];exact qu _ _
  (with_reducible repeat' (first|refine y5 ?_|simp -dsimp only[↓WB,↓jR,↓iA,↓jW,↓eh,↓eQ,↓jU,↓jT,WP,ae,Nat.reduceEqDiff,Nat.reduceAdd,↓e6,↓e3,↓b1',↓b4,↓b5,aY,Hr,TW,ak,U_,Yl,List.length_append,Vu]));refine⟨14-(k+1),by omega,k+1,by omega,rfl,X4.trans (X5.mono n4),by simp[T.ah,bf (show k≤4611686018427387904 by omega)],?_⟩;rw[hcs,hex];simp[T.ah,aq,cL,← aY]
 ·have hke:k=14:=by omega
  subst hke;have X04:ai h.n h h4:=X03.trans (X4.mono (by omega));(with_reducible repeat' (first|refine y2 ?_|simp -dsimp only[↓WB,↓jR,↓iA,↓jW,↓eh,↓eQ,↓jU,↓jT,WP,ae,Nat.reduceEqDiff,Nat.reduceAdd,↓e6,↓e3,↓b1',↓b4,↓b5]));rw[AW]at hK;refine xK (B:=B) (b1:=h.n) (l:=sG c 14) (by omega) ?_ ?_ ((V.ext X13 V.lt).ext X4 (by omega)) (r.ext (X04.mono hB)) (ra.ext (X04.mono hB)) g.ok hA g.Y8 g.p (by omega) fun h' X'=>hK h' (X04.trans (X'.mono (by omega)));·simp[T.ah,hag 1 rfl]
  ·simp[T.ah,f3]
theorem sK {h:Heap}{K:Value→Heap→Prop}(ht:eK bz h=true) (hK:K (.bool true) h):bT env (.func 7) [] h K:=by refine bT.ext (v:=.bool true) ?_ hK;show qb bz Di 7 7 [] h=_;simp only[qb,Nat.beq_refl,cond_true,ht]
end Go.Proofs.YtohjaacnlmkhbaaGreatDoor
set_option linter.unusedSimpArgs false
set_option linter.unusedVariables false
namespace Go.Proofs.YtohjaacnlmkhbaaGreatDoor
open Go.ChangeShapes Go.WideShapes Go.ChangeAt Go.RowKit
open Go.Ev (xM Gt Gf fT jJ SlF oc)
set_option maxRecDepth 100000
theorem own:ownKnob Tryz.prog.godebug=none:=by kernel_rfl
theorem laidOut:laidOutB Tryz.prog=true:=by kernel_rfl
theorem gAsc:Tryz.prog.globalNamed "strings.asciiSpace"=some 0:=by kernel_rfl
theorem tAsc:(Tryz.prog.globals[0]?).map (·.type)=some 138:=by kernel_rfl
theorem Vc:Tryz.prog.underlying 138=some (.array 256 5):=by kernel_rfl
theorem int5:Tryz.prog.underlying 5=some (.int .u8):=by kernel_rfl
theorem XP:Tryz.prog.underlying 22=some (.int .u64):=by kernel_rfl
theorem VH:Tryz.prog.cellsOf 5=1:=by kernel_rfl
theorem SA:Tryz.prog.cellsOf 22=1:=by kernel_rfl
theorem gP10:Tryz.prog.globalNamed "internal/strconv.uint64pow10"=some 2:=by kernel_rfl
theorem tP10:(Tryz.prog.globals[2]?).map (·.type)=some 207:=by kernel_rfl
theorem WU:Tryz.prog.underlying 207=some (.array 20 22):=by kernel_rfl
abbrev pz:List (String×DataW Unit):=Rows.scriptTextsRow.laid
theorem met9 (os:Os) (args:Array Value):laidMetH Tryz.prog pz ((World.laidAll Tryz.prog os pz).forCall (fun _ _=>0) ⟨#[],args,[]⟩).memory:=by rw[MakeChecks.laidMetH_plain _ _ _ (by kernel_rfl)];exact laidMet_laidAll _ (by kernel_rfl) (by kernel_rfl)
def Wf:List Int:=Xe.map fun v=>match v with|.int _ n=>n|_=>0
def W0:List Int:=TG.map fun v=>match v with|.int _ n=>n|_=>0
theorem YZ:Xe=Wf.map fun n=>.int .u8 n:=by kernel_rfl
theorem WY:(Rows.laid_strings_asciiSpace:DataW Unit)=.agg (Wf.map fun n=>.lit (.int .u8 n)):=by kernel_rfl
theorem YM:TG=W0.map fun n=>.int .u64 n:=by kernel_rfl
theorem V8:(Rows.laid_internal_strconv_uint64pow10:DataW Unit)=.agg (W0.map fun n=>.lit (.int .u64 n)):=by kernel_rfl
theorem Ol:Wf.length=256:=by kernel_rfl
theorem MA:W0.length=20:=by kernel_rfl
theorem zx {W:World}{n:Nat}{t e:TypeId}{k:IntKind}{l:List Int}{x:DataW Unit}{cs:Array Value}{fuel:Nat}{hh:Bool}{p:List MemPlace}(ha:Tryz.prog.underlying t=some (.array n e)) (he:Tryz.prog.underlying e=some (.int k)) (hc:Tryz.prog.cellsOf e=1) (hx:x=.agg (l.map fun m=>.lit (.int k m))) (hl:l.length=n)
  (hd:DataW.trod (fun _=>()) Tryz.prog W 0 (fun _=>true) hh fuel t cs.toList=some (x,p)):∀ (i:Nat) (v:Value),(l.map fun m=>Value.int k m)[i]?=some v→cs.toList[i]?=some v:=by
 subst hx
 obtain⟨xs,m1,_,hx1,hlen,hn,hel⟩:=DataW.trod_array ha hd
 rw[hc]at hel
 have hx2:l.map (fun b=>DataW.lit (.int k b))=xs.map (·.1):=DataW.agg.inj (Prod.mk.inj hx1).1
 intro i v hv
 rw[List.getElem?_map]at hv
 obtain⟨b,hb,rfl⟩:=Option.map_eq_some_iff.1 hv
 have hi:i<n:=by have:=(List.getElem?_eq_some_iff.1 hb).1;omega
 have h1:=hel i hi
 rw[Nat.mul_one,List.getElem?_eq_getElem (by omega)]at h1
 obtain⟨s,e1,e2,_⟩:=DataW.trod_int he h1
 have h2:=congrArg (·[i]?) hx2
 simp only[List.getElem?_map,hb,Option.map_some,List.getElem?_eq_getElem (show i<xs.length by omega)]at h2
 rw[e2]at h2
 have h3:b=s:=by simpa using h2
 have:=congrArg (·[0]?) e1
 simp only[List.getElem?_take_of_lt (show 0<1 by omega),List.getElem?_drop,Nat.add_zero]at this
 rw[this,h3]
 rfl
theorem zv {W:World}{b:Nat}{l:List Value}(h0:∃ v,l[0]?=some v) (hc:l.all Go.Ev.bL=true) (h:∀ (i:Nat) (v:Value),l[i]?=some v→W.cell? ⟨b,i,none⟩=some v):Go.Ev.eK [(b,l)] (fT W)=true:=by
 simp only[Go.Ev.eK,List.all_cons,List.all_nil,Bool.and_true];obtain⟨v0,h0⟩:=h0;have c0:=h 0 _ h0;unfold World.cell? at c0;simp only at c0;rw[Go.Ev.mn];split at c0
 ·rename_i c el f hb;simp only[hb,Option.map_some,Go.Ev.Ks];refine Go.Ev.CU (i:=0) (fun v hv=>?_) (fun j v e=>?_) ?_;·unfold Go.Ev.bL at hv;split at hv<;>first|(cases hv;done)|(simp[Go.Ev.aW,Go.Ev.eqStr])
  ·have:=h j v e;rw[show j=0+j by omega,Go.Ev.cell_of hb]at this;rw[this,Option.bind_some];have hv:Go.Ev.bL v=true:=List.all_eq_true.1 hc v (List.mem_of_getElem? e);unfold Go.Ev.bL at hv;split at hv<;>first|(cases hv;done)|(simp[Go.Ev.E6,Go.Ev.xV];done)|(simp[Go.Ev.E6,Go.Ev.xV,Go.Ev.blt_eq,Go.Ev.cY])
  ·exact hc
 ·cases c0
theorem A1 {w:World}{n:Nat}{t:TypeId}{cs:List Value}{d:DataW Unit}{q:List MemPlace}{enc:TypeId×Value→Unit}(h:DataW.trod enc Tryz.prog w 0 (fun _=>true) false n t cs=some (.ptr d,q)) :
   ∃ e,Tryz.prog.underlying t=some (.pointer e):=by
 cases n with
 | zero=>simp[DataW.trod]at h
 | succ n =>
   unfold DataW.trod at h
   cases hu:Tryz.prog.underlying t with
   | none=>rw[hu]at h;simp at h
   | some k =>
     cases k with
     | pointer e=>exact⟨e,rfl⟩
     | _ =>
       exfalso
       rw[hu]at h
       split at h<;>simp_all[Option.bind_eq_some_iff,Option.map_eq_some_iff]
       all_goals (repeat' split at h)<;>simp_all[Option.bind_eq_some_iff,Option.map_eq_some_iff]
theorem vG {w:World}{n:Nat}{t:TypeId}{ms:Array (String×TypeId)}{cs:List Value}{nm:String}{d:DataW Unit}{q:List MemPlace}{enc:TypeId×Value→Unit}(ht:Tryz.prog.underlying t=some (.interface ms)) (h:DataW.trod enc Tryz.prog w 0 (fun _=>true) false n t cs=some (.iface nm (.ptr d),q)) :
   ∃ m u v q',cs=[.iface u v]∧DataW.trod enc Tryz.prog w 0 (fun _=>true) false m u v.cells.toList=some (.ptr d,q'):=by
 cases n with
 | zero=>simp[DataW.trod]at h
 | succ n =>
   unfold DataW.trod at h
   rw[ht]at h
   split at h<;>simp_all[Option.map_eq_some_iff]
   split at h
   · cases h
   · simp only[Option.map_eq_some_iff,Prod.mk.injEq]at h;obtain⟨y,hy,h1,h2⟩:=h;obtain⟨y1,y2⟩:=y;simp only[DataW.iface.injEq]at h1;obtain⟨_,rfl⟩:=h1;exact⟨_,_,_,⟨rfl,rfl⟩,_,hy⟩
   · cases h
theorem YL:∃ ms,Tryz.prog.underlying 58=some (.interface ms):=⟨_,Tryz.underlying58⟩
theorem Ca {W:World}{g n:Nat}{nm name:String}{cs:Array Value}{d:DataW Unit}{p ps:List MemPlace}(hg:Tryz.prog.globalNamed name=some g) (hv:W.var? Tryz.prog name=some cs)
   (hd:DataW.trod (fun _=>()) Tryz.prog W 0 (fun _=>true) false n 58 cs.toList=some (.iface nm (.ptr d),p)) (hsub:∀ x∈MemPlace.row ⟨g,0,none⟩ cs.size,x∈ps)
   (hok:∀ b off,MemPlace.cell b off∈ps→(∃ c t,W.heap[b]?=some (.cells c t (0,0)))∧∀ u v,W.cell? ⟨b,off,none⟩=some (.iface u v)→Value.okWide Tryz.prog W .any 0 u v) :
   g<W.heap.size∧isIf (Go.Ev.cellAt (fT W) ⟨g,0,none⟩)=true:=by
 obtain⟨ms,h58⟩:=YL
 obtain⟨m,u,v,q',hcs,hin⟩:=vG h58 hd
 obtain⟨e,hu⟩:=A1 hin
 have h0:cs[0]?=some (.iface u v):=by rw[← Array.getElem?_toList,hcs];rfl
 have hc:=World.var?_cell hg hv 0
 rw[h0]at hc
 have hsz:0<cs.size:=(Array.getElem?_eq_some_iff.1 h0).1
 have hmem:MemPlace.cell g 0∈ps:=hsub _ (by unfold MemPlace.row;exact List.mem_map.2 ⟨0,List.mem_range.2 hsz,rfl⟩)
 have ok:=(hok g 0 hmem).2 u v hc
 rcases DataW.trod_pointer hu hin with ⟨_,h2⟩|⟨a,cs',y,n',_,hva,_,hcell,_⟩
 · cases h2
 · unfold Value.okWide at ok;rw[hu]at ok;simp only[Cell.okWide,hu,Cell.ok]at ok;have hvv:v=.pointer (some a):=by
     cases v with
     | pointer o =>
       have:(Value.pointer o).cells.toList=[.pointer o]:=rfl
       rw[this]at hva
       exact(List.cons.inj hva).1
     | _=>exact absurd ok (by simp)
   subst hvv;obtain⟨_,hs,row,cells,hsh,_⟩:=ok;have aB:a.block<W.heap.size:=by
     cases hb:W.heap[a.block]? with
     | none=>simp[World.shape?,hb]at hsh
     | some o=>exact(Array.getElem?_eq_some_iff.1 hb).1
   obtain⟨ab,ao,sp⟩:=a;simp only at hs aB;subst hs;refine⟨(Go.Ev.Hb hc).1,?_⟩;rw[Go.Ev.tp hc (u:=.iface u (.pointer (some ⟨ab,ao,none⟩))) ?_];· rfl
   · simp[Go.Ev.E6,Go.Ev.xV,Go.Ev.blt_eq,aB]
theorem gRng:Tryz.prog.globalNamed "strconv.ErrRange"=some 5:=by kernel_rfl
theorem tRng:(Tryz.prog.globals[5]?).map (·.type)=some 58:=by kernel_rfl
theorem gSyn:Tryz.prog.globalNamed "strconv.ErrSyntax"=some 4:=by kernel_rfl
theorem tSyn:(Tryz.prog.globals[4]?).map (·.type)=some 58:=by kernel_rfl
theorem int3:Tryz.prog.underlying 3=some (.int .i64):=by kernel_rfl
theorem GF {W:World}(h:laidMetH Tryz.prog pz W):5<W.heap.size∧Go.Ev.eK bz (fT W)=true∧hJ (fT W)=true:=by
 rw[MakeChecks.laidMetH_plain _ _ _ (by kernel_rfl)]at h;obtain⟨ps,⟨_,_,_,_,_,_,_,_,_,_,⟨_,_,_,_,_,_,_,_,_,_,⟨g1,t1,cs1,f1,p1,q1,hg1,ht1,hv1,hd1,⟨_,_,_,_,_,_,_,_,_,_,⟨g2,t2,cs2,f2,p2,q2,hg2,ht2,hv2,hd2,⟨g3,t3,cs3,f3,p3,q3,hg3,ht3,hv3,hd3,⟨_,_,_,_,_,_,_,_,_,_,⟨g0,t0,cs0,f0,p0,q0,hg0,ht0,hv0,hd0,_,_⟩,e6⟩,e5⟩,e4⟩,e3⟩,e2⟩,e1⟩,e0⟩,_,hokk⟩:=h;obtain rfl:=Option.some.inj (gAsc.symm.trans hg0);obtain rfl:=Option.some.inj (tAsc.symm.trans ht0);obtain rfl:=Option.some.inj (gP10.symm.trans hg1);obtain rfl:=Option.some.inj (tP10.symm.trans ht1);have key:=zx Vc int5 VH WY Ol hd0;have key2:=zx WU XP SA V8 MA hd1;rw[← YZ]at key;rw[← YM]at key2;have cell:∀ (i:Nat) (v:Value),Xe[i]?=some v→W.cell? ⟨0,i,none⟩=some v:=by intro i v hv;rw[World.var?_cell hg0 hv0 i,← Array.getElem?_toList];exact key i v hv
 have cell2:∀ (i:Nat) (v:Value),TG[i]?=some v→W.cell? ⟨2,i,none⟩=some v:=by intro i v hv;rw[World.var?_cell hg1 hv1 i,← Array.getElem?_toList];exact key2 i v hv
 obtain rfl:=Option.some.inj (gRng.symm.trans hg2);obtain rfl:=Option.some.inj (tRng.symm.trans ht2);obtain rfl:=Option.some.inj (gSyn.symm.trans hg3);obtain rfl:=Option.some.inj (tSyn.symm.trans ht3);have s2:∀ x∈MemPlace.row ⟨5,0,none⟩ cs2.size,x∈ps:=fun x hx=>by rw[e0,e1,e2,e3,e4];simp[hx]
 have s3:∀ x∈MemPlace.row ⟨4,0,none⟩ cs3.size,x∈ps:=fun x hx=>by rw[e0,e1,e2,e3,e4,e5];simp[hx]
 obtain⟨l5,i5⟩:=Ca hg2 hv2 hd2 s2 hokk;obtain⟨l4,i4⟩:=Ca hg3 hv3 hd3 s3 hokk;refine⟨l5,?_,by unfold hJ;rw[i4,i5];rfl⟩;have a:=zv (b:=0) (l:=Xe) ⟨_,rfl⟩ (ko (0,Xe) (by simp[bz])) cell;have b:=zv (b:=2) (l:=TG) ⟨_,rfl⟩ (ko (2,TG) (by simp[bz])) cell2;simp only[Go.Ev.eK,bz,List.all_cons,List.all_nil,Bool.and_true,Bool.and_eq_true]at a b ⊢;exact⟨a,b⟩
theorem NF {W:World}(h:W.ShapedOpen Tryz.prog):3<W.heap.size∧U' (Go.Ev.cellAt (fT W) ⟨3,0,none⟩)=true:=by obtain⟨m,hm⟩:=cell_of_shapedOpen_int (P:=Tryz.prog) (g:=3) (t:=3) (zero:=#[.int .i64 0]) (k:=.i64) h (of_decide_eq_true (by kernel_rfl)) (by kernel_rfl) rfl (by kernel_rfl) (by kernel_rfl) int3;refine⟨(Go.Ev.Hb hm).1,?_⟩;rw[Go.Ev.tp hm (u:=.int .i64 m) rfl];rfl
theorem xE {H:Type}{enc:TypeId×Value→H}{C:Checked}{os:Os}{f:FuncId}{fn:Func}{s:ChangeSpec}{X:World→Array Value→Prop}(hX:∀ (w w':World) (args:Array Value),w.heap=w'.heap→X w args→X w' args)
  (own:ownKnob C.prog.godebug=none) (started:os.Started) (noInit:C.prog.inits.idxOf? f=none) (hfn:C.prog.funcs[f]?=some fn)
  (wit:∃ (w:World) (tape:Tape) (i:Input),w.os=os∧(w.forCall tape i).Shaped C.prog∧i.vars=[]∧Input.okWide C.prog (w.forCall tape i) .any w.heap.size f i ∧
   ((s.pre enc C.prog fn [] false (w.forCall tape i).memory i.args∧X (w.forCall tape i).memory i.args)∧sizedMet enc C.prog fn (OpenSpec.ofChange s) false (w.forCall tape i).memory i.args)∧({}:Assume).holds C.prog (lone (Frame.enter C.prog f i.args .normal) [] (w.forCall tape i)))
  (law:∀ (W:World) (base:Nat) (args:Array Value) (ds gs:List (DataW H)) (before:List MemPlace),W.ShapedOpen C.prog→X W args→(DataW.weightsEach C.prog (fn.params.toList++s.plain.varTypes C.prog) (ds++gs)).all (·≤reachBytes)=true →
   (∀ (j:Nat) t v,fn.params[j]?=some t→args[j]?=some v→Value.okWide C.prog W .any base t v)→DataW.Whole enc C.prog fn.params.toList s.vars false W args.toList ds gs before →
   Calls C.prog f args W fun e W'=>∃ v,e=.returned v∧s.post enc C.prog fn false true false false W args v W') :
  ReturnsInHanded {} C os f .any (fun w args=>(s.pre enc C.prog fn [] false w args∧X w args)∧sizedMet enc C.prog fn (OpenSpec.ofChange s) false w args) (s.post enc C.prog fn false true false false) :=
 returnsInHanded_of_calls own started noInit wit fun w tape i _ shaped _ ok pre _=>by obtain⟨_,_,_,f',hf',_,_,_,_,hv⟩:=ok;cases hf'.symm.trans hfn;obtain⟨⟨⟨ds,gs,b,whole,_⟩,x⟩,hz⟩:=pre;exact(law (w.forCall tape i) w.heap.size i.args ds gs b shaped (hX _ _ _ (by rfl) x) (hz.weights whole) hv (DataW.Whole.of_heap (w':=w.forCall tape i) (by rfl) whole)).mono fun e W' ⟨v,h1,h2⟩=>by subst h1;exact ChangeSpec.post_blind h2
theorem Wb {W:World}(hL:laidMetH Tryz.prog pz W) (hS:W.ShapedOpen Tryz.prog):rW (fT W):=by obtain⟨h5,ht,he⟩:=GF hL;exact⟨h5,ht,(NF hS).2,he⟩
end Go.Proofs.YtohjaacnlmkhbaaGreatDoor
set_option linter.unusedSimpArgs false
set_option linter.unusedVariables false
namespace Go.Proofs.YtohjaacnlmkhbaaGreatDoor
open Go.ChangeShapes Go.WideShapes Go.ChangeAt Go.RowKit
open Go.Ev (xM Gt Gf fT jJ SlF oc)
set_option maxRecDepth 100000
theorem Xw:Tryz.f7.body.isSome=true:=by kernel_rfl
theorem okX:Go.Ev.cf Tryz.prog (Go.Ev.bP Tryz.prog 6 (Go.Ev.qb bz Di 7)):=by obtain⟨c,hc⟩:=Option.isSome_iff_exists.1 Xw;exact Go.Ev.Jf ok14 rfl ko Tryz.func7 hc (Go.Ev.dI cP) fun w ht=>Db w (Yc ht)
theorem Rc:Go.Ev.aH Tryz.prog XB :=
 let e:=Go.Ev.yX Tryz.prog 6 (Go.Ev.qb bz Di 7) mixed
 ⟨e.l9,e.nK,e.mixed,e.RH,e.qc⟩
theorem Rs:Go.Ev.cf Tryz.prog Ii:=Go.Ev.FY Tryz.prog 0
theorem WT:Go.Ev.aH Tryz.prog env:=Go.Ev.HI Rc (Go.Ev.yX Tryz.prog 0 EG mixed) Rs (Go.Ev.dI cP) rfl Ay
theorem Wm:Go.Ev.cf Tryz.prog env:=okX
end Go.Proofs.YtohjaacnlmkhbaaGreatDoor
