/- THE DOCUMENT's Text, walked. Conditions: none beyond each theorem's own. -/
import Derived.Test.YtohjaacnlmkhbaaGreatDoorYF
import Derived.Test.YtohjaacnlmkhbaaGreatDoorPU
import Derived.Test.YtohjaacnlmkhbaaGreatDoorYQ
import Derived.Test.YtohjaacnlmkhbaaGreatDoorXT
import Derived.Test.YtohjaacnlmkhbaaGreatDoorTA
set_option linter.unusedSimpArgs false
set_option linter.unusedVariables false
namespace Go.Proofs.YtohjaacnlmkhbaaGreatDoor
open Go.Ev
set_option maxRecDepth 100000
set_option maxHeartbeats 1000000
def RdL (B:Nat) (h:Heap) (v:Value) (ls:List (List UInt8)):Prop :=
 ∃ a c,v=.slice a ls.length c∧∀ k (hk:k<ls.length),∃ i o,a=some ⟨i,o,none⟩∧i<B∧cellAt h ⟨i,o+k,none⟩=some (strV ls[k])
theorem RdL.own {B:Nat}{h:Heap}{v:Value}{ls:List (List UInt8)}(o:OwnS B h 9 v ls.length (ls.map strV)):RdL h.n h v ls:=by
 generalize hn:ls.length=n at o
 generalize hc:ls.map strV=cs at o
 cases o with
 | nil=>exact⟨_,_,by rw[hn],fun k hk=>by omega⟩
 | emp i hi=>exact⟨_,_,by rw[hn],fun k hk=>by omega⟩
 | row i n cs h1 h2 h3 =>
   refine⟨_,_,by rw[hn],fun k hk=>⟨i,0,rfl,h2,cellAt_blk h2 h3 ?_⟩⟩
   rw[Nat.zero_add,← hc,List.getElem?_map,List.getElem?_eq_getElem hk];rfl
def numsL (c:Nat→Int):List (List UInt8):=(List.range 14).map fun k=>Lib.itoa (c k)
theorem numbers_ret {c:Nat→Int}{pa:Option Addr}{pn pc:Nat}{h:Heap}{K:Value→Heap→Prop}(hb:∀ k,k<14→0<c k∧c k≤4294967296)
   (hK:∀ j h',ExtB h.n h h'→RdT h' j (numsL c)→K (.slice (some ⟨j,0,none⟩) 14 14) h'):Ret env (.func 45) [.agg ⟨cfgL c (.slice pa pn pc)⟩] h K:=by
 refine F45 rfl ?_
 simp -dsimp only[↓WB,↓W45_0,↓W45_2,WP,newBlk_n,Nat.reduceEqDiff,Nat.reduceAdd,cfg_one]
 have V:=Box.new h (cfgL c (.slice pa pn pc)) 25
 have X:ExtB h.n h (newBlk h (.cells (cfgL c (.slice pa pn pc)) 25 true)):=ExtB.new _ (Nat.le_refl _)
 have hn1:(newBlk h (.cells (cfgL c (.slice pa pn pc)) 25 true)).n=h.n+1:=rfl
 generalize newBlk h (.cells (cfgL c (.slice pa pn pc)) 25 true)=h0 at V X hn1 ⊢
 have nm:numsL c=[Lib.itoa (c 0),Lib.itoa (c 1),Lib.itoa (c 2),Lib.itoa (c 3),Lib.itoa (c 4),Lib.itoa (c 5),Lib.itoa (c 6),Lib.itoa (c 7),Lib.itoa (c 8),Lib.itoa (c 9),Lib.itoa (c 10),Lib.itoa (c 11),Lib.itoa (c 12),Lib.itoa (c 13)]:=rfl
 obtain⟨u10,hu10⟩:=Int.eq_ofNat_of_zero_le (Int.le_of_lt (hb 10 (by omega)).1)
 have l10:=(hb 10 (by omega)).2
 obtain⟨u11,hu11⟩:=Int.eq_ofNat_of_zero_le (Int.le_of_lt (hb 11 (by omega)).1)
 have l11:=(hb 11 (by omega)).2
 obtain⟨u12,hu12⟩:=Int.eq_ofNat_of_zero_le (Int.le_of_lt (hb 12 (by omega)).1)
 have l12:=(hb 12 (by omega)).2
 obtain⟨u13,hu13⟩:=Int.eq_ofNat_of_zero_le (Int.le_of_lt (hb 13 (by omega)).1)
 have l13:=(hb 13 (by omega)).2
 have b0:=hb 0 (by omega)
 have b1:=hb 1 (by omega)
 have b2:=hb 2 (by omega)
 have b3:=hb 3 (by omega)
 have b4:=hb 4 (by omega)
 have b5:=hb 5 (by omega)
 have b6:=hb 6 (by omega)
 have b7:=hb 7 (by omega)
 have b8:=hb 8 (by omega)
 have b9:=hb 9 (by omega)
 clear hb
 have Y:=X
 simp -dsimp only[↓WB,↓W45,WP,newBlk_n,Nat.reduceEqDiff,Nat.reduceAdd,V.all10,V.all4,hu10,hu11,hu12,hu13]
 iterate 10
   (refine num26_ret (by omega) (by omega) fun h' X=>?_
    have n:=X.n
    replace V:=V.ext X V.lt
    replace Y:=Y.trans (X.mono (by omega))
    refine⟨n,?_,?_⟩
    · repeat' simp -dsimp only[↓WB,↓W45,WP,newBlk_n,Nat.reduceEqDiff,Nat.reduceAdd,V.all10,V.all4,hu10,hu11,hu12,hu13]
      all_goals (repeat' (first|exact same_int _ _ _|(with_reducible refine And.intro ?_ ?_)))
    repeat' simp -dsimp only[↓WB,↓W45,WP,newBlk_n,Nat.reduceEqDiff,Nat.reduceAdd,V.all10,V.all4,hu10,hu11,hu12,hu13])
 iterate 4
   (refine big26_ret _ (Nat.le_refl _) (by omega) fun h' X=>?_
    have n:=X.n
    replace V:=V.ext X V.lt
    replace Y:=Y.trans (X.mono (by omega))
    refine⟨n,?_,?_⟩
    · repeat' simp -dsimp only[↓WB,↓W45,WP,newBlk_n,Nat.reduceEqDiff,Nat.reduceAdd,V.all10,V.all4,hu10,hu11,hu12,hu13]
      all_goals (repeat' (first|exact same_int _ _ _|(with_reducible refine And.intro ?_ ?_)))
    repeat' simp -dsimp only[↓WB,↓W45,WP,newBlk_n,Nat.reduceEqDiff,Nat.reduceAdd,V.all10,V.all4,hu10,hu11,hu12,hu13])
 refine bs_of (l:=(numsL c).map strV) ?_ ?_
 · rw[nm,hu10,hu11,hu12,hu13];rfl
 have R:RdT (newBlk h' (.cells ((numsL c).map strV) 9 true)) h'.n (numsL c):=⟨Nat.lt_succ_self _,fun k hk=>cellAt_blk (Nat.lt_succ_self _) (newBlk_same _ _) (by rw[List.getElem?_map,List.getElem?_eq_getElem hk];rfl)⟩
 have Z:ExtB h.n h (newBlk h' (.cells ((numsL c).map strV) 9 true)):=Y.trans (ExtB.new _ (by omega))
 have n15:h'.n≤(newBlk h' (.cells ((numsL c).map strV) 9 true)).n:=Nat.le_succ _
 generalize newBlk h' (.cells ((numsL c).map strV) 9 true)=h15 at R Z n15 ⊢
 refine⟨n15,?_,?_⟩
 · simp -dsimp only[↓WB,↓W45,WP,newBlk_n,Nat.reduceEqDiff,Nat.reduceAdd]
 simp -dsimp only[↓WB,↓W45,WP,newBlk_n,Nat.reduceEqDiff,Nat.reduceAdd]
 exact hK _ _ Z R
def lowB (x:UInt8):UInt8:=if 65≤x∧x≤90 then x+32 else x
theorem low_int {x:UInt8}(h:65≤x.toNat∧x.toNat≤90):IntKind.wrap .u8 (IntKind.wrap .u8 ((x.toNat:Int)-65)+97)=((lowB x).toNat:Int):=by
 have h1:lowB x=x+32:=by unfold lowB;rw[if_pos ⟨UInt8.le_iff_toNat_le.2 h.1,UInt8.le_iff_toNat_le.2 h.2⟩]
 have h2:(x+32).toNat=x.toNat+32:=by rw[UInt8.toNat_add];show (x.toNat+32)%256=_;omega
 have h3:IntKind.wrap .u8 ((x.toNat:Int)-65)=(x.toNat:Int)-65:=wrap_u8 (by omega) (by omega)
 rw[h1,h2,h3,wrap_u8 (by omega) (by omega)];omega
theorem low_no {x:UInt8}(h:¬(65≤x.toNat∧x.toNat≤90)):lowB x=x:=by
 unfold lowB;rw[if_neg (fun e=>h ⟨by simpa using UInt8.le_iff_toNat_le.1 e.1,by simpa using UInt8.le_iff_toNat_le.1 e.2⟩)]
theorem low26_ret {s:List UInt8}{h:Heap}{K:Value→Heap→Prop}(hs:s.length≤1000) (hK:∀ h',ExtB h.n h h'→K (strV (s.map lowB)) h'):Ret env (.func 47) [strV s] h K:=by
 refine F47 rfl ?_
 unfold strV
 simp -dsimp only[↓WB,↓W47,WP,newBlk_n,Nat.reduceEqDiff,Nat.reduceAdd]
 refine cw_loopI (fun m fr' h'=>∃ k v,k≤s.length∧m=s.length-k∧ExtB h.n h h'∧fr'.get 4=some (.int .i64 k)∧fr'.get 3=some v∧OwnS h.n h' 5 v ((s.take k).map lowB).length (((s.take k).map lowB).map byteV)) s.length ?_ (by omega) ?_
 ·exact⟨0,_,by omega,by omega,ExtB.refl _ _,by simp[T.get_set],by simp only[T.get_set];rfl,by simpa using OwnS.nil⟩
 rintro m fr2 h2 ⟨k,v,hk,rfl,X2,f4,f3,O2⟩ hag
 have e4:=getK_of f4
 have e3:=getK_of f3
 have b0:=getK_eq (hag 0 rfl)
 have n2:=X2.n
 by_cases hlt:k<s.length
 ·have ix:∀ {J:Value→Prop},J (.int .u8 (s[k].toNat:Int))→ixK env 9 (.string ⟨s.toArray⟩) (.int .i64 (k:Int)) J:=fun q=>ix_str str9 hlt q
  have hsuc:(s.take (k+1)).map lowB=(s.take k).map lowB++[lowB s[k]]:=by rw[← List.take_append_getElem hlt,List.map_append];rfl
  have hl:((s.take k).map lowB).length=k:=by simp;omega
  generalize s[k]=x at ix hsuc
  have fin:∀ (fr':Fr) (v':Value) (h4:Heap),OwnS h.n h4 5 v' (((s.take k).map lowB).length+1) (((s.take k).map lowB).map byteV++[byteV (lowB x)])→ExtB h.n h2 h4→fr'.get 4=some (.int .i64 (IntKind.wrap .i64 ((k:Int)+1)))→fr'.get 3=some v' →
    ∃ m',m'<s.length-k∧∃ k' v'',k'≤s.length∧m'=s.length-k'∧ExtB h.n h h4∧fr'.get 4=some (.int .i64 k')∧fr'.get 3=some v''∧OwnS h.n h4 5 v'' ((s.take k').map lowB).length (((s.take k').map lowB).map byteV) :=
   fun fr' v' h4 O X g4 g3=>⟨s.length-(k+1),by omega,k+1,v',by omega,rfl,X2.trans X,by rw[g4,wrap_succ (show k≤4611686018427387904 by omega)],g3,by rw[hsuc,List.map_append,List.length_append];exact O⟩
  by_cases hx:65≤x.toNat∧x.toNat≤90
  ·obtain⟨x1,x2⟩:=hx
   have hw:=low_int ⟨x1,x2⟩
   (with_reducible repeat' (first|refine y1 ?_ (by omega)|simp -dsimp only[↓WB,↓W47,WP,newBlk_n,Nat.reduceEqDiff,Nat.reduceAdd,↓e4,↓e3,↓b0,str_size]))
   refine ix ?_
   (with_reducible repeat' (first|refine y1 ?_ (by omega)|refine y8 ?_ (by with_unfolding_all rfl)|simp -dsimp only[↓WB,↓W47,WP,newBlk_n,Nat.reduceEqDiff,Nat.reduceAdd,↓e4,↓e3,↓b0,hw]))
   refine app_oneN (new:=[byteV (lowB x)]) O2 (by omega) (by simp) (by omega) rfl rfl (by decide) rfl fun v' h4 O4 X4 n4 _=>?_
   simp -dsimp only[↓WB,↓W47,WP,newBlk_n,Nat.reduceEqDiff,Nat.reduceAdd,↓e4,↓e3,↓b0]
   exact fin _ v' h4 O4 X4 (by simp[T.get_set]) (by simp[T.get_set])
  ·have hw:=low_no hx
   rw[hw]at fin
   have hx2:¬65≤x.toNat∨(65≤x.toNat∧¬x.toNat≤90):=by omega
   rcases hx2 with hx2|⟨hx1,hx2⟩
   all_goals
    (with_reducible repeat' (first|refine y1 ?_ (by omega)|simp -dsimp only[↓WB,↓W47,WP,newBlk_n,Nat.reduceEqDiff,Nat.reduceAdd,↓e4,↓e3,↓b0,str_size]))
    refine ix ?_
    (with_reducible repeat' (first|refine y1 ?_ (by omega)|refine y2 ?_ (by omega)|refine y8 ?_ (by with_unfolding_all rfl)|simp -dsimp only[↓WB,↓W47,WP,newBlk_n,Nat.reduceEqDiff,Nat.reduceAdd,↓e4,↓e3,↓b0]))
    refine app_oneN (new:=[byteV x]) O2 (by omega) (by simp) (by omega) rfl rfl (by decide) rfl fun v' h4 O4 X4 n4 _=>?_
    repeat' simp -dsimp only[↓WB,↓W47,WP,newBlk_n,Nat.reduceEqDiff,Nat.reduceAdd,↓e4,↓e3,↓b0]
    exact fin _ v' h4 O4 X4 (by simp[T.get_set]) (by simp[T.get_set])
 ·have hke:k=s.length:=by omega
  subst hke
  rw[List.take_length]at O2
  (with_reducible repeat' (first|refine y2 ?_ (by omega)|simp -dsimp only[↓WB,↓W47,WP,newBlk_n,Nat.reduceEqDiff,Nat.reduceAdd,↓e4,↓e3,↓b0,str_size]))
  refine bstr_rd (l:=s.map lowB) (RdB.own O2) ?_
  simp -dsimp only[↓WB,↓W47,WP,newBlk_n,Nat.reduceEqDiff,Nat.reduceAdd,↓e4,↓e3,↓b0]
  exact hK _ X2
theorem names_low:namesB.map (fun s=>s.map lowB)=wordsP:=by decide
theorem drop_take_succ {s:List UInt8}{a i:Nat}(ha:a≤i) (hi:i<s.length):(s.drop a).take (i+1-a)=(s.drop a).take (i-a)++[s[i]]:=by
 rw[show i+1-a=(i-a)+1 by omega,← List.take_append_getElem (by rw[List.length_drop];omega),List.getElem_drop]
 congr 3;omega
theorem spl_at {c:UInt8}{s:List UInt8}{a i:Nat}(ha:a≤i) (hi:i<s.length) (hc:s[i]=c) (hno:c∉(s.drop a).take (i-a)):spl c (s.drop a)=(s.drop a).take (i-a)::spl c (s.drop (i+1)):=by
 have e:s.drop a=(s.drop a).take (i-a)++c::s.drop (i+1):=by
  conv=>lhs;rw[← List.take_append_drop (i-a) (s.drop a)]
  rw[List.drop_drop,show a+(i-a)=i by omega,List.drop_eq_getElem_cons hi,hc]
 conv=>lhs;rw[e]
 rw[spl_app _ hno]
theorem take_drop_eq {s:List UInt8}{a i:Nat}:(s.take i).drop a=(s.drop a).take (i-a):=by rw[List.drop_take]
theorem lines26_ret {s:List UInt8}{h:Heap}{K:Value→Heap→Prop}(hs:s.length≤500000) (hK:∀ v h' ls r,spl 10 s=ls++[r]→OwnS h.n h' 9 v ls.length (ls.map strV)→ExtB h.n h h'→K (.tuple #[v,strV r]) h'):Ret env (.func 48) [strV s] h K:=by
 refine F48 rfl ?_
 unfold strV
 simp -dsimp only[↓WB,↓W48,WP,newBlk_n,Nat.reduceEqDiff,Nat.reduceAdd]
 refine cw_loopI (fun m fr' h'=>∃ i a v ls,i≤s.length∧a≤i∧m=s.length-i∧ExtB h.n h h'∧fr'.get 6=some (.int .i64 (i:Nat))∧fr'.get 5=some (.int .i64 (a:Nat))∧fr'.get 4=some v∧OwnS h.n h' 9 v ls.length (ls.map strV)∧ls.length≤i∧spl 10 s=ls++spl 10 (s.drop a)∧(10:UInt8)∉(s.drop a).take (i-a)) s.length ?_ (by omega) ?_
 ·exact⟨0,0,_,[],by omega,by omega,by omega,ExtB.refl _ _,by simp[T.get_set],by simp[T.get_set],by simp only[T.get_set];rfl,OwnS.nil,by simp,by simp,by simp⟩
 rintro m fr2 h2 ⟨i,a,v,ls,hi,ha,rfl,X2,f6,f5,f4,O2,hl,hsp,hno⟩ hag
 have e6:=getK_of f6
 have e5:=getK_of f5
 have e4:=getK_of f4
 have b0:=getK_eq (hag 0 rfl)
 have n2:=X2.n
 have wi:IntKind.wrap .i64 ((i:Int)+1)=((i+1:Nat):Int):=by rw[wrap_i64 (by omega) (by omega)];omega
 by_cases hlt:i<s.length
 ·have ix:∀ {J:Value→Prop},J (.int .u8 (s[i].toNat:Int))→ixK env 9 (.string ⟨s.toArray⟩) (.int .i64 (i:Int)) J:=fun q=>ix_str str9 hlt q
  by_cases hc:s[i]=10
  ·have hsa:=spl_at ha hlt hc hno
   rw[hc]at ix
   have e10:((10:UInt8).toNat:Int)=10:=rfl
   (with_reducible repeat' (first|refine y1 ?_ (by omega)|simp -dsimp only[↓WB,↓W48,WP,newBlk_n,Nat.reduceEqDiff,Nat.reduceAdd,↓e6,↓e5,↓e4,↓b0,str_size]))
   refine ix ?_
   simp -dsimp only[↓WB,↓W48,WP,newBlk_n,Nat.reduceEqDiff,Nat.reduceAdd,↓e6,↓e5,↓e4,↓b0,e10]
   refine slice_strLH str9 ha (by omega) ?_
   rw[take_drop_eq]
   (with_reducible repeat' (first|refine y8 ?_ (by with_unfolding_all rfl)|simp -dsimp only[↓WB,↓W48,WP,newBlk_n,Nat.reduceEqDiff,Nat.reduceAdd,↓e6,↓e5,↓e4,↓b0]))
   refine app_oneN (new:=[strV ((s.drop a).take (i-a))]) O2 (by omega) (by simp) (by omega) rfl rfl (by decide) rfl fun v' h4 O4 X4 n4 _=>?_
   simp -dsimp only[↓WB,↓W48,WP,newBlk_n,Nat.reduceEqDiff,Nat.reduceAdd,↓e6,↓e5,↓e4,↓b0,wi]
   refine⟨s.length-(i+1),by omega,i+1,i+1,v',ls++[(s.drop a).take (i-a)],by omega,by omega,rfl,X2.trans X4,by simp[T.get_set],by simp[T.get_set],by simp[T.get_set],?_,by simp;omega,?_,by simp⟩
   ·rw[List.map_append,List.length_append];exact O4
   ·rw[hsp,hsa];simp
  ·have hci:¬((s[i].toNat:Int)=10):=fun e=>hc (UInt8.toNat_inj.1 (by show s[i].toNat=10;omega))
   have hts:=drop_take_succ ha hlt
   generalize s[i]=x at ix hc hci hts
   (with_reducible repeat' (first|refine y1 ?_ (by omega)|simp -dsimp only[↓WB,↓W48,WP,newBlk_n,Nat.reduceEqDiff,Nat.reduceAdd,↓e6,↓e5,↓e4,↓b0,str_size]))
   refine ix ?_
   simp -dsimp only[↓WB,↓W48,WP,newBlk_n,Nat.reduceEqDiff,Nat.reduceAdd,↓e6,↓e5,↓e4,↓b0,hci,wi]
   refine⟨s.length-(i+1),by omega,i+1,a,v,ls,by omega,by omega,rfl,X2,by simp[T.get_set],by simp[T.get_set,f5],by simp[T.get_set,f4],O2,by omega,hsp,?_⟩
   rw[hts]
   intro hm
   rcases List.mem_append.1 hm with hm|hm
   ·exact hno hm
   ·rw[List.mem_singleton]at hm;exact hc hm.symm
 ·have hie:i=s.length:=by omega
  subst hie
  have hno':(10:UInt8)∉s.drop a:=by rw[List.take_of_length_le (by rw[List.length_drop];omega)]at hno;exact hno
  rw[spl_no hno']at hsp
  (with_reducible repeat' (first|refine y2 ?_ (by omega)|simp -dsimp only[↓WB,↓W48,WP,newBlk_n,Nat.reduceEqDiff,Nat.reduceAdd,↓e6,↓e5,↓e4,↓b0,str_size]))
  refine slice_strL str9 ha ?_
  (with_reducible repeat' (first|(refine And.intro ?_ ?_;(· omega))|simp -dsimp only[↓WB,↓W48,WP,newBlk_n,Nat.reduceEqDiff,Nat.reduceAdd,↓e6,↓e5,↓e4,↓b0]))
  exact hK v h2 ls _ hsp O2 X2
theorem app10 (l:List UInt8):(⟨l.toArray⟩:ByteArray)++⟨⟨[10]⟩⟩=⟨(l++[10]).toArray⟩:=app_str l [10]
theorem app32 (l:List UInt8):(⟨l.toArray⟩:ByteArray)++⟨⟨[32]⟩⟩=⟨(l++[32]).toArray⟩:=app_str l [32]
theorem appPr (l:List UInt8):(⟨l.toArray⟩:ByteArray)++⟨⟨[112,114,111,103,114,97,109,10]⟩⟩=⟨(l++[112,114,111,103,114,97,109,10]).toArray⟩:=app_str l _
theorem sz10:(⟨⟨[10]⟩⟩:ByteArray).size=1:=rfl
theorem sz32:(⟨⟨[32]⟩⟩:ByteArray).size=1:=rfl
theorem szPr:(⟨⟨[112,114,111,103,114,97,109,10]⟩⟩:ByteArray).size=8:=rfl
theorem len1 {x:UInt8}:[x].length=1:=rfl
theorem same_str (n:Nat) (s:ByteArray):sameV n (.string s) (.string s)=true:=by cases n<;>simp[sameV,eqStr_dec]
theorem refText_acts {B b1:Nat}{c:Nat→Int}{pv:Value}{aa:Option Addr}{ac:Nat}{A:List ActD}{l:List UInt8}{fr:Fr}{h1:Heap}{K:Value→Heap→Prop}(hB:B≤h1.n)
  (g1:fr.get 1=some (.pointer (some ⟨b1,0,none⟩))) (g3:fr.get 3=some (strV l)) (bx:Box h1 b1 (scrL c pv (.slice aa A.length ac)) 28) (ra:RdA B h1 (.slice aa A.length ac) A) (ok:∀ a∈A,okA a) (hA:A.length≤5000) (hl:l.length+71*A.length≤1000000)
  (hK:∀ h',ExtB h1.n h1 h'→K (strV (l++actsK A A.length)) h'):s16_15.wp env 88 none fr h1 (resK env [.tmp 2] K):=by
 have k1:=getK_of g1
 have k3:=getK_of g3
 unfold strV at k3
 simp -dsimp only[↓WB,↓W16,WP,newBlk_n,Nat.reduceEqDiff,Nat.reduceAdd,↓k1,↓k3]
 refine cw_loopI (fun m fr' h'=>∃ k:Nat,k≤A.length∧m=A.length-k∧ExtB h1.n h1 h'∧fr'.get 11=some (.int .i64 k)∧fr'.get 3=some (strV (l++actsK A k))) A.length ?_ (by omega) ?_
 ·exact⟨0,by omega,by omega,ExtB.refl _ _,by simp[T.get_set],by simpa[T.get_set,actsK]using g3⟩
 rintro m fr2 h2 ⟨k,hk,rfl,X2,f11,f3⟩ hag
 have e11:=getK_of f11
 have e3:=getK_of f3
 unfold strV at e3
 have b1':=getK_eq (hag 1 rfl)
 have n2:=X2.n
 have bx2:=bx.ext X2 bx.lt
 obtain⟨_,_,_,d15⟩:=bx2.scr
 have al:=actsK_len ok hk
 by_cases hlt:k<A.length
 ·obtain⟨i,o,rfl,hi,hc⟩:=(ra.ext (X2.mono hB)).at_ hlt
  have oka:=ok _ (List.getElem_mem hlt)
  have asl:=actS_len oka
  have hsucc:=actsK_succ hlt
  generalize A[k]=a at hc oka asl hsucc
  (with_reducible repeat' (first|refine y1 ?_ (by omega)|refine y4 ?_ (by omega) (by omega)|simp -dsimp only[↓WB,↓W16,WP,newBlk_n,Nat.reduceEqDiff,Nat.reduceAdd,↓e11,↓e3,↓b1',↓k1,d15,hc]))
  refine refAct_ret (a:=a) oka fun h3 X3=>?_
  have n3:=X3.n
  unfold strV
  (with_reducible repeat' (first|(refine And.intro ?_ ?_;(· omega))|simp -dsimp only[↓WB,↓W16,WP,newBlk_n,Nat.reduceEqDiff,Nat.reduceAdd,↓e11,↓e3,↓b1',↓k1,app_str,app10,str_size,sz10,List.length_append,len1]))
  refine⟨A.length-(k+1),by omega,k+1,by omega,by omega,X2.trans (X3.mono n2),by simp[T.get_set,wrap_succ (show k≤4611686018427387904 by omega)],?_⟩
  rw[hsucc]
  simp[T.get_set,strV,endL,← app_str]
 ·have hke:k=A.length:=by omega
  subst hke
  unfold strV at hK
  (with_reducible repeat' (first|refine y2 ?_ (by omega)|simp -dsimp only[↓WB,↓W16,WP,newBlk_n,Nat.reduceEqDiff,Nat.reduceAdd,↓e11,↓e3,↓b1',↓k1,d15]))
  exact hK _ X2
theorem refText_progs {B b1:Nat}{c:Nat→Int}{pa aa:Option Addr}{pc ac:Nat}{P:List (List UInt8)}{A:List ActD}{l:List UInt8}{fr:Fr}{h1:Heap}{K:Value→Heap→Prop}(hB:B≤h1.n)
  (g1:fr.get 1=some (.pointer (some ⟨b1,0,none⟩))) (g3:fr.get 3=some (strV l)) (bx:Box h1 b1 (scrL c (.slice pa P.length pc) (.slice aa A.length ac)) 28) (r:RdP B h1 (.slice pa P.length pc) P) (ra:RdA B h1 (.slice aa A.length ac) A) (ok:∀ a∈A,okA a) (hA:A.length≤5000) (hP:P.length≤16) (hp:∀ p∈P,p.length≤1024) (hl:l.length≤434)
  (hK:∀ h',ExtB h1.n h1 h'→K (strV (l++progsK P P.length++actsK A A.length)) h'):s16_44.wp env 88 none fr h1 (resK env [.tmp 2] K):=by
 have k1:=getK_of g1
 have k3:=getK_of g3
 unfold strV at k3
 simp -dsimp only[↓WB,↓W16_0,↓W16_2,↓s16_27_w,↓s16_28_w,↓W16_5,↓s16_44_w,↓W16_7,WP,newBlk_n,Nat.reduceEqDiff,Nat.reduceAdd,↓k1,↓k3]
 refine cw_loopI (fun m fr' h'=>∃ k:Nat,k≤P.length∧m=P.length-k∧ExtB h1.n h1 h'∧fr'.get 7=some (.int .i64 k)∧fr'.get 3=some (strV (l++progsK P k))) P.length ?_ (by omega) ?_
 ·exact⟨0,by omega,by omega,ExtB.refl _ _,by simp[T.get_set],by simpa[T.get_set,progsK]using g3⟩
 rintro m fr2 h2 ⟨k,hk,rfl,X2,f7,f3⟩ hag
 have e7:=getK_of f7
 have e3:=getK_of f3
 unfold strV at e3
 have b1':=getK_eq (hag 1 rfl)
 have n2:=X2.n
 have bx2:=bx.ext X2 bx.lt
 obtain⟨_,_,d14,_⟩:=bx2.scr
 have pl:=progsK_len hp hk
 by_cases hlt:k<P.length
 ·obtain⟨i,o,ua,uc,rfl,hi,hc,hu⟩:=(r.ext (X2.mono hB)).at_ hlt
  have hpk:=hp _ (List.getElem_mem hlt)
  have hsucc:=progsK_succ hlt
  have tl:=textP_len hpk
  generalize hgp:P[k]=p at hc hu hpk hsucc tl
  (with_reducible repeat' (first|refine y1 ?_ (by omega)|refine y4 ?_ (by omega) (by omega)|(refine And.intro ?_ ?_;(· omega))|simp -dsimp only[↓WB,↓W16_0,↓W16_2,↓s16_27_w,↓W16_5,↓s16_44_w,↓W16_7,WP,newBlk_n,Nat.reduceEqDiff,Nat.reduceAdd,↓e7,↓e3,↓b1',↓k1,d14,appPr,str_size,szPr,List.length_append,Nat.mul_one,hc]))
  refine refText_ret (B:=B) (p:=p) hu (by omega) (by omega) fun h3 X3=>?_
  have n3:=X3.n
  unfold strV
  simp -dsimp only[↓WB,↓W16_0,↓W16_2,↓s16_27_w,↓W16_5,↓s16_44_w,↓W16_7,WP,newBlk_n,Nat.reduceEqDiff,Nat.reduceAdd,↓e7,↓e3,↓b1',↓k1]
  refine lines26_ret (s:=textP p) (by omega) fun v h4 ls r4 hsp O4 X4=>?_
  have n4:=X4.n
  rw[spl_textP]at hsp
  obtain⟨rfl,_⟩:=List.append_inj' hsp rfl
  have R4:=RdL.own O4
  simp -dsimp only[↓WB,↓W16_0,↓W16_2,↓s16_28_w,↓W16_5,↓s16_44_w,↓W16_7,WP,newBlk_n,Nat.reduceEqDiff,Nat.reduceAdd,↓e7,↓e3,↓b1',↓k1]
  have hll:=linesP_len p
  have X14:ExtB h1.n h1 h4:=(X2.trans (X3.mono n2)).trans (X4.mono (by omega))
  obtain⟨va,vc,rfl,q4⟩:=id R4
  refine cw_loopI (fun m fr' h'=>∃ q:Nat,q≤(linesP p).length∧m=(linesP p).length-q∧h'=h4∧fr'.get 10=some (.int .i64 q)∧fr'.get 3=some (strV (l++progsK P k++endL progW++indK p q))) (linesP p).length ?_ (by omega) ?_
  ·exact⟨0,by omega,by omega,rfl,by simp[T.get_set],by simp[T.get_set,indK,strV,endL,progW,appPr]⟩
  rintro m fr3 h6 ⟨q,hq,rfl,rfl,f10,f3'⟩ hag3
  have e10:=getK_of f10
  have e3':=getK_of f3'
  unfold strV at e3'
  have c1':=getK_eq (hag3 1 rfl)
  have c7:=getK_eq (hag3 7 rfl)
  have c8:=getK_eq (hag3 8 rfl)
  have il:=indK_len p hq
  have ep:(endL progW).length=8:=rfl
  by_cases hql:q<(linesP p).length
  ·obtain⟨i4,o4,rfl,hi4,cq⟩:=q4 q hql
   have lm:=linesP_mem (List.getElem_mem hql)
   have his:=indK_succ hql
   generalize (linesP p)[q]=w at cq lm his
   unfold strV at cq
   (with_reducible repeat' (first|refine y1 ?_ (by omega)|refine y4 ?_ (by omega) (by omega)|(refine And.intro ?_ ?_;(· omega))|simp -dsimp only[↓WB,↓W16_0,↓W16_2,↓s16_27_w,↓s16_28_w,↓W16_5,↓s16_44_w,↓W16_7,WP,newBlk_n,Nat.reduceEqDiff,Nat.reduceAdd,↓e10,↓e3',↓c1',↓c7,↓c8,↓e7,↓b1',↓k1,Nat.mul_one,Nat.zero_add,cq,app_str,app10,app32,str_size,sz10,sz32,List.length_append,len1,ep]))
   refine⟨(linesP p).length-(q+1),by omega,q+1,by omega,by omega,by simp[T.get_set,wrap_succ (show q≤4611686018427387904 by omega)],?_⟩
   rw[his]
   simp[T.get_set,strV,endL,← app_str]
  ·have hqe:q=(linesP p).length:=by omega
   subst hqe
   (with_reducible repeat' (first|refine y2 ?_ (by omega)|simp -dsimp only[↓WB,↓W16_0,↓W16_2,↓s16_27_w,↓s16_28_w,↓W16_5,↓s16_44_w,↓W16_7,WP,newBlk_n,Nat.reduceEqDiff,Nat.reduceAdd,↓e10,↓e3',↓c1',↓c7,↓c8,↓e7,↓b1',↓k1]))
   refine⟨P.length-(k+1),by omega,k+1,by omega,by omega,X14,by simp[T.get_set,wrap_succ (show k≤4611686018427387904 by omega)],?_⟩
   have g:fr3.get 3=some (strV (l++progsK P (k+1))):=by
    rw[f3',hsucc,progL_ind]
    have e:endL progW=[112,114,111,103,114,97,109,10]:=rfl
    rw[e]
    simp only[List.append_assoc]
   simp[T.get_set,g,strV]
 ·have hke:k=P.length:=by omega
  subst hke
  (with_reducible repeat' (first|refine y2 ?_ (by omega)|simp -dsimp only[↓WB,↓W16_0,↓W16_2,↓s16_27_w,↓s16_28_w,↓W16_5,↓s16_44_w,↓W16_7,WP,newBlk_n,Nat.reduceEqDiff,Nat.reduceAdd,↓e7,↓e3,↓b1',↓k1,d14]))
  refine refText_acts (B:=B) (b1:=b1) (l:=l++progsK P P.length) (by omega) ?_ ?_ bx2 (ra.ext (X2.mono hB)) ok hA (by rw[List.length_append];omega) fun h' X=>hK h' (X2.trans (X.mono n2))
  ·simp[T.get_set,hag 1 rfl,g1]
  ·simp[T.get_set,f3]
theorem refTextS_ret {B:Nat}{c:Nat→Int}{pv av:Value}{P:List (List UInt8)}{A:List ActD}{h:Heap}{K:Value→Heap→Prop}(g:Good c P A) (r:RdP B h pv P) (ra:RdA B h av A) (hB:B≤h.n) (hA:A.length≤5000)
  (hK:∀ h',ExtB h.n h h'→K (strV (TextL c P A)) h'):Ret env (.func 16) [.agg ⟨scrL c pv av⟩] h K:=by
 obtain⟨pa,pc,rfl,_⟩:=id r
 obtain⟨aa,ac,rfl,_⟩:=id ra
 have hbd:∀ k,k<14→0<c k∧c k≤4294967296:=fun k hk=>inB_bd hk (g.c k hk)
 have okc:okC c:=⟨fun k hk=>by have:=hbd k (by omega);omega,fun k h1 h2=>by have:=hbd k h2;omega⟩
 refine F16 rfl ?_
 simp -dsimp only[↓WB,↓W16_0,↓s16_15_w,↓W16_2,↓s16_27_w,↓s16_28_w,↓W16_5,↓W16_7,WP,newBlk_n,Nat.reduceEqDiff,Nat.reduceAdd,scr_one]
 have V:=Box.new h (scrL c (.slice pa P.length pc) (.slice aa A.length ac)) 28
 have X:ExtB h.n h (newBlk h (.cells (scrL c (.slice pa P.length pc) (.slice aa A.length ac)) 28 true)):=ExtB.new _ (Nat.le_refl _)
 have hn1:(newBlk h (.cells (scrL c (.slice pa P.length pc) (.slice aa A.length ac)) 28 true)).n=h.n+1:=rfl
 generalize newBlk h (.cells (scrL c (.slice pa P.length pc) (.slice aa A.length ac)) 28 true)=h1 at V X hn1 ⊢
 obtain⟨_,d15,_,_⟩:=V.scr
 simp -dsimp only[↓WB,↓W16_0,↓s16_15_w,↓W16_2,↓s16_27_w,↓s16_28_w,↓W16_5,↓W16_7,WP,newBlk_n,Nat.reduceEqDiff,Nat.reduceAdd,d15]
 refine numbers_ret (c:=c) hbd fun j h2 X2 R2=>?_
 have n2:=X2.n
 simp -dsimp only[↓WB,↓W16_0,↓s16_15_w,↓W16_2,↓s16_27_w,↓s16_28_w,↓W16_5,↓W16_7,WP,newBlk_n,Nat.reduceEqDiff,Nat.reduceAdd]
 refine names_ret fun j3 h3 X3 lt3 ge3 c3=>?_
 have n3:=X3.n
 have R3:=R2.ext X3
 have X13:ExtB h1.n h1 h3:=X2.trans (X3.mono n2)
 have X03:ExtB h.n h h3:=X.trans (X13.mono (by omega))
 simp -dsimp only[↓WB,↓W16_0,↓s16_15_w,↓W16_2,↓s16_27_w,↓s16_28_w,↓W16_5,↓W16_7,WP,newBlk_n,Nat.reduceEqDiff,Nat.reduceAdd]
 refine cw_loopI (fun m fr' h'=>∃ k:Nat,k≤14∧m=14-k∧ExtB h3.n h3 h'∧fr'.get 6=some (.int .i64 k)∧fr'.get 3=some (strV (cfgK c k))) 14 ?_ (by omega) ?_
 ·exact⟨0,by omega,by omega,ExtB.refl _ _,by simp[T.get_set],by simp[T.get_set,cfgK,strV]⟩
 rintro m fr2 h4 ⟨k,hk,rfl,X4,f6,f3⟩ hag
 have e6:=getK_of f6
 have e3:=getK_of f3
 unfold strV at e3
 have b1':=getK_eq (hag 1 rfl)
 have b4:=getK_eq (hag 4 rfl)
 have b5:=getK_eq (hag 5 rfl)
 have n4:=X4.n
 have cl:=cfgK_len okc hk
 by_cases hlt:k<14
 ·have hkn:k<namesB.length:=hlt
  have hkw:k<wordsP.length:=hlt
  have cn:=cellAt_ext X4 lt3 (c3 k hkn)
  have R4:=R3.ext X4
  have cm:cellAt h4 ⟨j,k,none⟩=some (strV (Lib.itoa (c k))):=by
   have hkl:k<(numsL c).length:=by simpa[numsL]using hlt
   have cm:=R4.at_ k hkl
   have em:(numsL c)[k]=Lib.itoa (c k):=by simp[numsL]
   rw[em]at cm
   exact cm
  have hlow:namesB[k].map lowB=wordsP[k]:=by
   have:=congrArg (fun l=>l[k]?) names_low
   simp only[List.getElem?_map,List.getElem?_eq_getElem hkn,List.getElem?_eq_getElem hkw,Option.map_some,Option.some.injEq]at this
   exact this
  have hnl:namesB[k].length≤1000:=by
   have:namesB.all (fun l=>decide (l.length≤1000))=true:=by decide
   exact of_decide_eq_true (List.all_eq_true.1 this _ (List.getElem_mem hkn))
  have hcl:=cfgLn_len okc hlt
  have hcs:=cfgK_succ c k
  have hex:cfgLn c k=wordsP[k]++[32]++Lib.itoa (c k):=by unfold cfgLn;rw[getD_word hkw]
  have hil:=okC_len okc hlt
  have hwl:wordsP[k].length≤8:=by rw[← getD_word hkw];exact wordsP_len
  generalize namesB[k]=w0 at cn hlow hnl
  generalize wordsP[k]=w at hlow hex hwl
  unfold strV at cn cm
  (with_reducible repeat' (first|refine y1 ?_ (by omega)|refine y4 ?_ (by omega) (by omega)|simp -dsimp only[↓WB,↓W16_0,↓s16_15_w,↓W16_2,↓s16_27_w,↓s16_28_w,↓W16_5,↓W16_7,WP,newBlk_n,Nat.reduceEqDiff,Nat.reduceAdd,↓e6,↓e3,↓b1',↓b4,↓b5,Nat.mul_one,Nat.zero_add,cn,cm]))
  refine low26_ret (s:=w0) hnl fun h5 X5=>?_
  rw[hlow]
  have n5:=X5.n
  unfold strV
  refine⟨n5,?_,?_⟩
  ·simp -dsimp only[↓WB,↓W16_0,↓s16_15_w,↓W16_2,↓s16_27_w,↓s16_28_w,↓W16_5,↓W16_7,WP,newBlk_n,Nat.reduceEqDiff,Nat.reduceAdd,Nat.mul_one,Nat.zero_add,cellAt_ext X5 (by have:=R4.lt;omega) cm]
   exact same_str _ _
  (with_reducible repeat' (first|(refine And.intro ?_ ?_;(· omega))|simp -dsimp only[↓WB,↓W16_0,↓s16_15_w,↓W16_2,↓s16_27_w,↓s16_28_w,↓W16_5,↓W16_7,WP,newBlk_n,Nat.reduceEqDiff,Nat.reduceAdd,↓e6,↓e3,↓b1',↓b4,↓b5,app_str,app10,app32,str_size,sz10,sz32,List.length_append,len1]))
  refine⟨14-(k+1),by omega,k+1,by omega,rfl,X4.trans (X5.mono n4),by simp[T.get_set,wrap_succ (show k≤4611686018427387904 by omega)],?_⟩
  rw[hcs,hex]
  simp[T.get_set,strV,endL,← app_str]
 ·have hke:k=14:=by omega
  subst hke
  have X04:ExtB h.n h h4:=X03.trans (X4.mono (by omega))
  (with_reducible repeat' (first|refine y2 ?_ (by omega)|simp -dsimp only[↓WB,↓W16_0,↓s16_15_w,↓W16_2,↓s16_27_w,↓s16_28_w,↓W16_5,↓W16_7,WP,newBlk_n,Nat.reduceEqDiff,Nat.reduceAdd,↓e6,↓e3,↓b1',↓b4,↓b5]))
  rw[TextL_K]at hK
  refine refText_progs (B:=B) (b1:=h.n) (l:=cfgK c 14) (by omega) ?_ ?_ ((V.ext X13 V.lt).ext X4 (by omega)) (r.ext (X04.mono hB)) (ra.ext (X04.mono hB)) g.ok hA g.p16 g.p (by omega) fun h' X'=>hK h' (X04.trans (X'.mono (by omega)))
  ·simp[T.get_set,hag 1 rfl]
  ·simp[T.get_set,f3]
end Go.Proofs.YtohjaacnlmkhbaaGreatDoor
