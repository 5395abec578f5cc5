/- AN INSTRUCTION's FOUR PARTS READ, the document's side, walked. Conditions: none beyond each theorem's own. -/
import Derived.Test.YtohjaacnlmkhbaaGreatDoorIA
import Derived.Test.YtohjaacnlmkhbaaGreatDoorJA
import Derived.Test.YtohjaacnlmkhbaaGreatDoorYQ
set_option linter.unusedSimpArgs false
set_option linter.unusedVariables false
namespace Go.Proofs.YtohjaacnlmkhbaaGreatDoor
open Go.Ev
set_option maxRecDepth 100000
set_option maxHeartbeats 1000000
theorem mi (n:Nat) (s:ByteArray):aW n (.string s) (.string s)=true:=by cases n<;>simp[aW,iU]
theorem wL {c:UInt8}{h:Heap}{K:Value→Heap→Prop}(hK:∀ n:Int,((n<0∧∀ x:UInt8,x.toNat<16→cW x≠c)∨n=(fy c:Nat))→-1≤n→n<16→K (.int .i64 n) h):bT env (.func 117) [.int .u8 (c.toNat:Int)] h K :=
 DU (fun x hx e=>hK _ (.inr (by rw[← e,An hx])) (by omega) (by omega)) (fun hn=>hK _ (.inl ⟨by decide,hn⟩) (by omega) (by omega))
theorem Cm {w:List UInt8}:∀ {i:Nat}(hi:i<(gP w).length),∃ x:UInt8,x.toNat<16∧cW x=(gP w)[i]:=by
 intro i hi;have hm:=List.getElem_mem hi;obtain⟨y,_,hy⟩:=List.mem_flatMap.1 hm;simp only[List.mem_cons,List.not_mem_nil,or_false]at hy;rcases hy with hy|hy;·exact⟨y / 16,vO y,hy.symm⟩
 ·exact⟨y%16,mod_lt y,hy.symm⟩
theorem NX {x1:List UInt8}{wi wo wc k:Nat}{fr:Fr}{h:Heap}{K:Value→Heap→Prop}(hx:x1.length=2*k) (hk:k≤4) (g4:fr.get 4=some (.slice (some ⟨wi,wo,none⟩) 2 wc)) (hwi:wi<h.n) (d1:cellAt h ⟨wi,wo+1,none⟩=some (.string ⟨x1.toArray⟩))
  (hK1:∀ v h',nu h'.n h' v (cD x1)→ai h.n h h'→K (.tuple #[v,.bool true]) h')
  (hK2:∀ h',(∀ w,x1≠gP w)→ai h.n h h'→K (.tuple #[.slice none 0 0,.bool false]) h'):Fs.wp env 256 none fr h (ue (GC.wp env 256 none vQ) (eY env [.tmp 2,.tmp 3] K)):=by
 have e4:=aj g4
 have tn1:Int.toNat 1=1:=rfl
 simp -dsimp only[↓WB,↓wA,WP,ae,Nat.reduceEqDiff,Nat.reduceAdd,↓e4]
 refine aE (fun m fr' h'=>∃ j u,j≤k∧m=k-j∧ai h.n h h'∧fr'.get 6=some (.int .i64 ((2*j:Nat):Int))∧fr'.get 5=some u∧(cD (x1.take (2*j))).length=j∧bn h.n h' 5 u (cD (x1.take (2*j))).length ((cD (x1.take (2*j))).map aw)) k ?_ (by omega) ?_
 ·exact⟨0,_,by omega,rfl,ai.refl _ _,by simp[T.ah],by simp only[T.ah];rfl,by simp[cD],by simpa[cD]using bn.nil⟩
 rintro m fr2 h2 ⟨j,u,hj,rfl,X2,f6,f5,hbl,O2⟩ hag
 have e6:=aj f6
 have e5:=aj f5
 have b4:=au (hag 4 rfl)
 have n2:=X2.n
 replace d1:=aI X2 hwi d1
 by_cases aB:j<k
 ·have h1:2*j<x1.length:=by omega
  have h2':2*j+1<x1.length:=by omega
  have ix1:∀ {J:Value→Prop},J (.int .u8 (x1[2*j].toNat:Int))→Ah env 9 (.string ⟨x1.toArray⟩) (.int .i64 ((2*j:Nat):Int)) J:=fun q=>iO iV h1 q;have ix2:∀ {J:Value→Prop},J (.int .u8 (x1[2*j+1].toNat:Int))→Ah env 9 (.string ⟨x1.toArray⟩) (.int .i64 ((2*j+1:Nat):Int)) J:=fun q=>iO iV h2' q;have bt:=nH x1 j h2';have bad1:(∀ x:UInt8,x.toNat<16→cW x≠x1[2*j])→∀ w,x1≠gP w:=by intro hn w e;subst e;obtain⟨x,hx1,hx2⟩:=Cm h1;exact hn x hx1 hx2
  have bad2:(∀ x:UInt8,x.toNat<16→cW x≠x1[2*j+1])→∀ w,x1≠gP w:=by intro hn w e;subst e;obtain⟨x,hx1,hx2⟩:=Cm h2';exact hn x hx1 hx2
  generalize x1[2*j]=ca at ix1 bt bad1;generalize x1[2*j+1]=cb at ix2 bt bad2;have w1:IntKind.wrap .i64 (((2*j:Nat):Int)+1)=((2*j+1:Nat):Int):=by rw[wrap_i64 (by omega) (by omega)];omega
  (with_reducible repeat' (first|refine y1 ?_|refine y4 ?_|simp -dsimp only[↓WB,↓wA,WP,ae,Nat.reduceEqDiff,Nat.reduceAdd,↓e6,↓e5,↓b4,↓e4,tn1,Nat.mul_one,d1,ak]));refine ix1 ?_;(with_reducible repeat' (first|refine y4 ?_|refine y5 ?_|simp -dsimp only[↓WB,↓wA,WP,ae,Nat.reduceEqDiff,Nat.reduceAdd,↓e6,↓e5,↓b4,↓e4,tn1,Nat.mul_one,d1,ak]));rw[w1];refine ix2 ?_;(with_reducible repeat' (first|refine y5 ?_|simp -dsimp only[↓WB,↓wA,WP,ae,Nat.reduceEqDiff,Nat.reduceAdd,↓e6,↓e5,↓b4,↓e4,tn1,Nat.mul_one,d1,ak]));refine wL fun na ha ha0 ha1=>?_;(with_reducible repeat' (first|refine y5 ?_|simp -dsimp only[↓WB,↓wA,WP,ae,Nat.reduceEqDiff,Nat.reduceAdd,↓e6,↓e5,↓b4,↓e4,tn1,Nat.mul_one,d1,ak,w1]));refine⟨mi _ _,?_⟩;refine wL fun nb hb hb0 hb1=>?_;have no:(∀ w,x1≠gP w)→K (.tuple #[.slice none 0 0,.bool false]) h2:=fun hh=>hK2 h2 hh X2;by_cases na0:na<0;·(with_reducible repeat' (first|refine y1 ?_|refine y5 ?_|simp -dsimp only[↓WB,↓wA,WP,ae,Nat.reduceEqDiff,Nat.reduceAdd,↓e6,↓e5,↓b4,↓e4,tn1,Nat.mul_one,d1,ak,w1,mi]));exact no (bad1 (by rcases ha with ha|ha;exact ha.2;omega))
  by_cases nb0:nb<0;·(with_reducible repeat' (first|refine y1 ?_|refine y2 ?_|refine y5 ?_|simp -dsimp only[↓WB,↓wA,WP,ae,Nat.reduceEqDiff,Nat.reduceAdd,↓e6,↓e5,↓b4,↓e4,tn1,Nat.mul_one,d1,ak,w1,mi]));exact no (bad2 (by rcases hb with hb|hb;exact hb.2;omega))
  have va:na=(fy ca:Nat):=by rcases ha with ha|ha;omega;exact ha
  have vb:nb=(fy cb:Nat):=by rcases hb with hb|hb;omega;exact hb
  have la:=Au ca;have lb:=Au cb;subst va vb;have w2:IntKind.wrap .i64 (16*((fy ca:Nat):Int))=((16*fy ca:Nat):Int):=by rw[wrap_i64 (by omega) (by omega)];omega
  have w3:IntKind.wrap .i64 (((16*fy ca:Nat):Int)+((fy cb:Nat):Int))=((16*fy ca+fy cb:Nat):Int):=by rw[wrap_i64 (by omega) (by omega)];omega
  have w4:IntKind.wrap .u8 ((16*fy ca+fy cb:Nat):Int)=((UInt8.ofNat (16*fy ca+fy cb)).toNat:Int):=by
   have:(UInt8.ofNat (16*fy ca+fy cb)).toNat=16*fy ca+fy cb:=by simp;omega
   rw[this];exact wrap_u8 (by omega) (by omega)
  have w5:IntKind.wrap .i64 (((2*j:Nat):Int)+2)=((2*(j+1):Nat):Int):=by rw[wrap_i64 (by omega) (by omega)];omega
  (with_reducible repeat' (first|refine y2 ?_|refine y5 ?_|refine y8 ?_|simp -dsimp only[↓WB,↓wA,WP,ae,Nat.reduceEqDiff,Nat.reduceAdd,↓e6,↓e5,↓b4,↓e4,tn1,Nat.mul_one,d1,ak,w1,mi,w2,w3,w4]));refine dQ (new:=[aw (UInt8.ofNat (16*fy ca+fy cb))]) O2 (by omega) (by simp) (by omega) rfl rfl (by decide) rfl fun v' h4 O4 X4 n4 _=>?_;simp -dsimp only[↓WB,↓wA,WP,ae,Nat.reduceEqDiff,Nat.reduceAdd,↓e6,↓e5,↓b4,↓e4,w5];refine⟨k-(j+1),by omega,j+1,v',by omega,rfl,X2.trans X4,by simp[T.ah],by simp[T.ah],?_,?_⟩;·rw[bt,List.length_append,hbl];rfl
  ·rw[bt,List.length_append,List.map_append];exact O4
 ·(with_reducible repeat' (first|refine y2 ?_|refine y4 ?_|simp -dsimp only[↓WB,↓wA,WP,ae,Nat.reduceEqDiff,Nat.reduceAdd,↓e6,↓e5,↓b4,↓e4,tn1,Nat.mul_one,d1,ak]));obtain rfl:j=k:=by omega
  rw[List.take_of_length_le (by omega)]at O2;exact hK1 _ _ (nu.own O2) X2
abbrev Vv:=UInt8×UInt8×UInt8×UInt8
def Yh (n:Int):UInt8:=bu (((n+131072).tmod 65536).tdiv 256)
def XE (n:Int):UInt8:=bu (((n+131072).tmod 65536).tmod 256)
def iQ (n1 n2 n3:Int):List Vv :=
 [(0,0,0,0),(1,bu n1,Yh n2,XE n2),(2,bu n1,bu n2,bu n3),(3,bu n1,bu n2,bu n3),(4,bu n1,bu n2,bu n3),(5,0,Yh n1,XE n1),(6,bu n1,Yh n2,XE n2),(7,bu n1,0,0)]
def pV (n1:Int):List Vv:=if 1≤n1∧n1≤22 then [(bu (16+n1),0,0,0)] else []
theorem yw {n1 n2 n3:Int}{o a b c:UInt8}(h:(o,a,b,c)∈iQ n1 n2 n3++pV n1):bZ o a b c=true:=by
 rcases List.mem_append.1 h with h|h;·simp only[iQ,List.mem_cons,List.not_mem_nil,or_false,Prod.mk.injEq]at h;rcases h with ⟨rfl,rfl,rfl,rfl⟩|⟨rfl,rfl,rfl,rfl⟩|⟨rfl,rfl,rfl,rfl⟩|⟨rfl,rfl,rfl,rfl⟩|⟨rfl,rfl,rfl,rfl⟩|⟨rfl,rfl,rfl,rfl⟩|⟨rfl,rfl,rfl,rfl⟩|⟨rfl,rfl,rfl,rfl⟩;all_goals simp[bZ,dF,bR,eF]
 ·unfold pV at h;split at h
  ·rename_i h1;simp only[List.mem_singleton,Prod.mk.injEq]at h;obtain⟨rfl,rfl,rfl,rfl⟩:=h;have e:=ju (16+n1);have:dF (bu (16+n1)).toNat=([99,97,108,108],[107],true):=by rcases eM (bu (16+n1)).toNat with ⟨e0,_⟩|⟨e0,_⟩|⟨e0,_⟩|⟨e0,_⟩|⟨e0,_⟩|⟨e0,_⟩|⟨e0,_⟩|⟨e0,_⟩|⟨_,e1⟩|⟨e0,_⟩;all_goals first
     | exact e1
     | (exfalso;omega)
   simp[bZ,this,bR,eF]
  ·cases h
theorem kj (x:UInt8):bu (x.toNat:Int)=x:=gr (by have:=x.toNat_lt;omega)
theorem Wr {n N:Int}(h:(n+131072)%65536=N) (h0 : -131072≤n):(n+131072).tmod 65536=N:=by rw[Int.tmod_eq_emod_of_nonneg (by omega)];exact h
theorem Fl {n:Int}{b c:UInt8}(h:(n+131072)%65536=((256*b.toNat+c.toNat:Nat):Int)) (h0 : -131072≤n):Yh n=b∧XE n=c:=by
 have hb:=b.toNat_lt;have hc:=c.toNat_lt;unfold Yh XE;rw[Wr h h0];constructor;·rw[Int.tdiv_eq_ediv_of_nonneg (by omega)];exact gr (by omega)
 ·rw[Int.tmod_eq_emod_of_nonneg (by omega)];exact gr (by omega)
theorem C4 (b c:UInt8):(bS (256*b.toNat+c.toNat)+131072)%65536=((256*b.toNat+c.toNat:Nat):Int):=by have hb:=b.toNat_lt;have hc:=c.toNat_lt;unfold bS;split<;>omega
theorem SC (b c:UInt8):(((256*b.toNat+c.toNat:Nat):Int)+131072)%65536=((256*b.toNat+c.toNat:Nat):Int):=by have hb:=b.toNat_lt;have hc:=c.toNat_lt;omega
theorem nL {m n:Int}(h:Lib.itoa m=Lib.itoa n) (m0 : -9223372036854775808≤m) (m1:m≤9223372036854775807) (n0 : -9223372036854775808≤n) (n1:n≤9223372036854775807):m=n:=by rw[← ja m0 m1,h,ja n0 n1]
def FT (f:List (List UInt8)) (n:Nat→Int):Prop:=∀ i,1≤i→(f.length≤i→n i=0)∧∀ hi:i<f.length,f[i]=Lib.itoa (n i)∧-100000000≤n i∧n i≤100000000
theorem Ch (b c:UInt8) : -32768≤bS (256*b.toNat+c.toNat)∧bS (256*b.toNat+c.toNat)≤32767:=by have hb:=b.toNat_lt;have hc:=c.toNat_lt;unfold bS;split<;>omega
theorem Sd {o a b c:UInt8}{n:Nat→Int}(hd:eE o a b c=true) (hp:bZ o a b c=true) (hv:FT (aZ 32 (e_ o a b c)) n):(o,a,b,c)∈iQ (n 1) (n 2) (n 3)++pV (n 1)∧(-32768≤n 1∧n 1≤65535)∧-32768≤n 2∧n 2≤65535:=by
 have ho:=o.toNat_lt;have ha:=a.toNat_lt;have hb:=b.toNat_lt;have hc:=c.toNat_lt;rw[mc]at hv;unfold bZ at hp;have hp:=of_decide_eq_true hp;have vb:=oT o a b c;have get:∀ {l:List UInt8}{k:Nat},(dF o.toNat).2.1=l→∀ hk:k<l.length,n (k+1)=gV o a b c l[k]:=by intro l k e hk;have:=(hv (k+1) (by omega)).2 (by simp[e];omega);have e1:=this.1;simp only[List.getElem_cons_succ,List.getElem_map,e]at e1;have vk:=vb l[k];exact(nL e1 (by omega) (by omega) (by omega) (by omega)).symm
 have zero:∀ {l:List UInt8}{k:Nat},(dF o.toNat).2.1=l→l.length<k→n k=0:=by intro l k e hk;exact(hv k (by omega)).1 (by simp[e];omega)
 have oeq:∀ {k:Nat},k<8→o.toNat=k→o=UInt8.ofNat k:=fun {k} hk e=>UInt8.toNat_inj.1 (by rw[e];simp;omega);rcases eM o.toNat with ⟨e0,e⟩|⟨e0,e⟩|⟨e0,e⟩|⟨e0,e⟩|⟨e0,e⟩|⟨e0,e⟩|⟨e0,e⟩|⟨e0,e⟩|⟨e0,e⟩|⟨e0,e⟩;·rw[e]at hp;simp only[bR,List.foldl_nil,Prod.mk.injEq]at hp;obtain⟨rfl,rfl,rfl⟩:=hp;have z1:=zero (k:=1) (by rw[e]) (by simp);have z2:=zero (k:=2) (by rw[e]) (by simp);rw[z1,z2,oeq (by decide) e0];exact⟨by simp[iQ],by omega⟩
 ·have g1:=get (l:=[97,110]) (k:=0) (by rw[e]) (by simp);have g2:=get (l:=[97,110]) (k:=1) (by rw[e]) (by simp);simp only[List.getElem_cons_zero,List.getElem_cons_succ]at g1 g2;have g1':n 1=(a.toNat:Int):=by rw[g1];rfl
  have g2':n 2=((256*b.toNat+c.toNat:Nat):Int):=by rw[g2];rfl
  obtain⟨q1,q2⟩:=Fl (n:=n 2) (b:=b) (c:=c) (by rw[g2'];exact SC b c) (by omega);refine⟨?_,by omega⟩;simp only[iQ,q1,q2,g1',kj,oeq (by decide) e0];simp
 ·have g1:=get (l:=[97,98,99]) (k:=0) (by rw[e]) (by simp);have g2:=get (l:=[97,98,99]) (k:=1) (by rw[e]) (by simp);have g3:=get (l:=[97,98,99]) (k:=2) (by rw[e]) (by simp);simp only[List.getElem_cons_zero,List.getElem_cons_succ]at g1 g2 g3;have g1':n 1=(a.toNat:Int):=by rw[g1];rfl
  have g2':n 2=(b.toNat:Int):=by rw[g2];rfl
  have g3':n 3=(c.toNat:Int):=by rw[g3];rfl
  refine⟨?_,by omega⟩;simp only[iQ,g1',g2',g3',kj,oeq (by decide) e0];simp
 ·have g1:=get (l:=[97,98,99]) (k:=0) (by rw[e]) (by simp);have g2:=get (l:=[97,98,99]) (k:=1) (by rw[e]) (by simp);have g3:=get (l:=[97,98,99]) (k:=2) (by rw[e]) (by simp);simp only[List.getElem_cons_zero,List.getElem_cons_succ]at g1 g2 g3;have g1':n 1=(a.toNat:Int):=by rw[g1];rfl
  have g2':n 2=(b.toNat:Int):=by rw[g2];rfl
  have g3':n 3=(c.toNat:Int):=by rw[g3];rfl
  refine⟨?_,by omega⟩;simp only[iQ,g1',g2',g3',kj,oeq (by decide) e0];simp
 ·have g1:=get (l:=[97,98,99]) (k:=0) (by rw[e]) (by simp);have g2:=get (l:=[97,98,99]) (k:=1) (by rw[e]) (by simp);have g3:=get (l:=[97,98,99]) (k:=2) (by rw[e]) (by simp);simp only[List.getElem_cons_zero,List.getElem_cons_succ]at g1 g2 g3;have g1':n 1=(a.toNat:Int):=by rw[g1];rfl
  have g2':n 2=(b.toNat:Int):=by rw[g2];rfl
  have g3':n 3=(c.toNat:Int):=by rw[g3];rfl
  refine⟨?_,by omega⟩;simp only[iQ,g1',g2',g3',kj,oeq (by decide) e0];simp
 ·rw[e]at hp;simp[bR,eF]at hp;subst hp;have g1:=get (l:=[100]) (k:=0) (by rw[e]) (by simp);have z2:=zero (k:=2) (by rw[e]) (by simp);simp only[List.getElem_cons_zero]at g1;have g1':n 1=bS (256*b.toNat+c.toNat):=by rw[g1];rfl
  have jb:=Ch b c;obtain⟨q1,q2⟩:=Fl (n:=n 1) (b:=b) (c:=c) (by rw[g1'];exact C4 b c) (by omega);refine⟨?_,by omega⟩;simp only[iQ,q1,q2,oeq (by decide) e0];simp
 ·have g1:=get (l:=[97,100]) (k:=0) (by rw[e]) (by simp);have g2:=get (l:=[97,100]) (k:=1) (by rw[e]) (by simp);simp only[List.getElem_cons_zero,List.getElem_cons_succ]at g1 g2;have g1':n 1=(a.toNat:Int):=by rw[g1];rfl
  have g2':n 2=bS (256*b.toNat+c.toNat):=by rw[g2];rfl
  have jb:=Ch b c;obtain⟨q1,q2⟩:=Fl (n:=n 2) (b:=b) (c:=c) (by rw[g2'];exact C4 b c) (by omega);refine⟨?_,by omega⟩;simp only[iQ,q1,q2,g1',kj,oeq (by decide) e0];simp
 ·rw[e]at hp;simp[bR,eF]at hp;obtain⟨rfl,rfl⟩:=hp;have g1:=get (l:=[97]) (k:=0) (by rw[e]) (by simp);have z2:=zero (k:=2) (by rw[e]) (by simp);simp only[List.getElem_cons_zero]at g1;have g1':n 1=(a.toNat:Int):=by rw[g1];rfl
  refine⟨?_,by omega⟩;simp only[iQ,g1',kj,oeq (by decide) e0];simp
 ·rw[e]at hp;simp[bR,eF]at hp;obtain⟨rfl,rfl,rfl⟩:=hp;have g1:=get (l:=[107]) (k:=0) (by rw[e]) (by simp);have z2:=zero (k:=2) (by rw[e]) (by simp);simp only[List.getElem_cons_zero]at g1;have g1':n 1=((o-16).toNat:Nat):=by rw[g1];rfl
  have om:(o-16).toNat=o.toNat-16:=by rw[UInt8.toNat_sub];have:(16:UInt8).toNat=16:=rfl;omega
  have hc1:1≤n 1∧n 1≤22:=by omega
  refine⟨List.mem_append_right _ ?_,by omega⟩;unfold pV;rw[if_pos hc1];have:bu (16+n 1)=o:=gr (by omega);rw[this];simp
 ·have:(dF o.toNat).2.2=true:=by unfold eE at hd;simp only[Bool.and_eq_true]at hd;exact hd.1
  rw[e]at this;cases this
theorem Lb {n1 n2 n3:Int}{o a b c:UInt8}{l:List UInt8}(h:(o,a,b,c)∈iQ n1 n2 n3++pV n1) (hd:eE o a b c=true) (hl:dA o a b c=l):bw l=[o,a,b,c]:=by
 have hp:=yw h;have h2:(dF o.toNat).2.2=true:=by unfold eE at hd;simp only[Bool.and_eq_true]at hd;exact hd.1
 have:=nO [o,a,b,c];unfold fk at this;simp only[hd,hp,Bool.and_self,if_true]at this;rw[← hl];unfold dA;rw[h2,hp];exact this
open Qq (fD)
def kD (e:Vv):List Value:=[.int .u8 (e.1.toNat:Int),.int .u8 (e.2.1.toNat:Int),.int .u8 (e.2.2.1.toNat:Int),.int .u8 (e.2.2.2.toNat:Int)]
structure TL (h:Heap) (i:Nat) (E:List Vv):Prop where
 lt:i<h.n
 at_:∀ k (hk:k<E.length),ax h ⟨i,k*4,none⟩ 4=some (kD E[k])
theorem TL.ext {h h':Heap}{i:Nat}{E:List Vv}(r:TL h i E) (x:ai h.n h h'):TL h' i E:=⟨Nat.lt_of_lt_of_le r.lt x.n,fun k hk=>cJ x r.lt (r.at_ k hk)⟩
theorem ze {l:List UInt8}{n1 n2 n3:Int}{E:List Vv}{ri rc:Nat}{fr:Fr}{h:Heap}{K:Value→Heap→Prop}(hE:E=iQ n1 n2 n3++pV n1) (r:TL h ri E) (g0:fr.get 0=some (.string ⟨l.toArray⟩)) (g15:fr.get 15=some (.slice (some ⟨ri,0,none⟩) E.length rc))
   (hK1:∀ v h',nu h'.n h' v (bw l)→(bw l).length=4→ai h.n h h'→K (.tuple #[v,.bool true]) h')
   (hK2:∀ h',(∀ o a b c,(o,a,b,c)∈E→eE o a b c=true→e_ o a b c≠l)→ai h.n h h'→K (.tuple #[.slice none 0 0,.bool false]) h'):E4.wp env 256 none fr h (eY env [.tmp 2,.tmp 3] K):=by
 have e0:=aj g0
 have Se:=aj g15
 have hlen:E.length≤9:=by rw[hE];unfold pV iQ;split<;>simp
 simp -dsimp only[↓WB,↓wA,WP,ae,Nat.reduceEqDiff,Nat.reduceAdd,↓e0,↓Se]
 refine aE (fun m fr' h'=>∃ i,i≤E.length∧m=E.length-i∧ai h.n h h'∧fr'.get 16=some (.int .i64 (i:Nat))∧∀ k (hk:k<E.length),k<i→eE E[k].1 E[k].2.1 E[k].2.2.1 E[k].2.2.2=true→e_ E[k].1 E[k].2.1 E[k].2.2.1 E[k].2.2.2≠l) E.length ?_ (by omega) ?_
 · exact⟨0,by omega,rfl,ai.refl _ _,by simp[T.ah],fun k hk h0=>by omega⟩
 rintro m fr2 h2 ⟨i,hi,rfl,X2,f16,hno⟩ hag
 have Us:=aj f16
 have b0:=au (hag 0 rfl)
 have b15:=au (hag 15 rfl)
 have n2:=X2.n
 have w1:IntKind.wrap .i64 ((i:Int)+1)=((i+1:Nat):Int):=by rw[wrap_i64 (by omega) (by omega)];omega
 by_cases aB:i<E.length
 · have r2:=r.ext X2;have d:=r2.at_ i aB;have hmem:E[i]∈E:=List.getElem_mem aB;have nxt:(eE E[i].1 E[i].2.1 E[i].2.2.1 E[i].2.2.2=true→e_ E[i].1 E[i].2.1 E[i].2.2.1 E[i].2.2.2≠l)→∀ k (hk:k<E.length),k<i+1→eE E[k].1 E[k].2.1 E[k].2.2.1 E[k].2.2.2=true→e_ E[k].1 E[k].2.1 E[k].2.2.1 E[k].2.2.2≠l:=by
     intro q k hk h1;by_cases hki:k=i;· subst hki;exact q
     · exact hno k hk (by omega)
   generalize E[i]=e at d hmem nxt;obtain⟨o,a,b,c⟩:=e;simp only[kD]at d;simp only at nxt;rw[hE]at hmem;have hp:=yw hmem;have si:=fun (n:Nat) (x:UInt8)=>cZ n .u8 (x.toNat:Int);(with_reducible repeat' (first|refine y1 ?_|refine y4 ?_|simp -dsimp only[↓WB,↓wA,WP,ae,Nat.reduceEqDiff,Nat.reduceAdd,↓Us,↓b0,↓b15,↓e0,↓Se,Nat.zero_add,d]));refine Lc (o:=o) (a:=a) (b:=b) (c:=c) fun h3 X3=>?_;have n3:=X3.n;have d3:=cJ X3 r2.lt d;cases hok:eE o a b c with
   | false =>
     simp -dsimp only[↓WB,↓wA,WP,ae,Nat.reduceEqDiff,Nat.reduceAdd,↓Us,↓b0,↓b15,↓e0,↓Se,w1]
     exact⟨E.length-(i+1),by omega,i+1,by omega,rfl,X2.trans (X3.mono n2),by simp[T.ah],nxt (by rw[hok];simp)⟩
   | true =>
     have h22:(dF o.toNat).2.2=true:=by unfold eE at hok;simp only[Bool.and_eq_true]at hok;exact hok.1
     have hlr:dA o a b c=e_ o a b c:=by unfold dA;rw[h22,hp];rfl
     (with_reducible repeat' (first|refine y4 ?_|simp -dsimp only[↓WB,↓wA,WP,ae,Nat.reduceEqDiff,Nat.reduceAdd,↓Us,↓b0,↓b15,↓e0,↓Se,Nat.zero_add,d3]))
     refine pM (o:=o) (a:=a) (b:=b) (c:=c) fun h4 X4=>?_
     have n4:=X4.n
     have d4:=cJ X4 (Nat.lt_of_lt_of_le r2.lt n3) d3
     rw[hlr]
     unfold aq
     by_cases hq:e_ o a b c=l
     · have q:((⟨(e_ o a b c).toArray⟩:ByteArray)=⟨l.toArray⟩)=True:=eq_true (by rw[hq]);have c0:cellAt h4 ⟨ri,i*4,none⟩=_:=fO d4 (j:=0) rfl;have c1:=fO d4 (j:=1) rfl;have c2:=fO d4 (j:=2) rfl;have c3:=fO d4 (j:=3) rfl;have hlb:=Lb hmem hok (hlr.trans hq);(with_reducible repeat' (first|refine y4 ?_|simp -dsimp only[↓WB,↓wA,WP,ae,Nat.reduceEqDiff,Nat.reduceAdd,↓Us,↓b0,↓b15,↓e0,↓Se,Nat.zero_add,q,c0,c1,c2,c3,aW]));refine lf (l:=[.int .u8 (o.toNat:Int),.int .u8 (a.toNat:Int),.int .u8 (b.toNat:Int),.int .u8 (c.toNat:Int)]) rfl ?_;have X5:ai h4.n h4 (af h4 (.cells [.int .u8 (o.toNat:Int),.int .u8 (a.toNat:Int),.int .u8 (b.toNat:Int),.int .u8 (c.toNat:Int)] 5 true)):=ai.new _ (Nat.le_refl _);have Bx:=dm.new h4 [.int .u8 (o.toNat:Int),.int .u8 (a.toNat:Int),.int .u8 (b.toNat:Int),.int .u8 (c.toNat:Int)] 5;generalize af h4 (.cells [.int .u8 (o.toNat:Int),.int .u8 (a.toNat:Int),.int .u8 (b.toNat:Int),.int .u8 (c.toNat:Int)] 5 true)=h5 at X5 Bx ⊢;have n5:=X5.n;have cx:=aJ (off:=0) (n:=4) Bx.lt Bx.get rfl rfl;replace c0:cellAt h5 ⟨ri,i*4,none⟩=_:=aI X5 (by have:=r2.lt;omega) c0;replace c1:=aI X5 (by have:=r2.lt;omega) c1;replace c2:=aI X5 (by have:=r2.lt;omega) c2;replace c3:=aI X5 (by have:=r2.lt;omega) c3;refine⟨n5,?_,?_⟩;· simp -dsimp only[↓WB,↓wA,WP,ae,Nat.reduceEqDiff,Nat.reduceAdd,↓Us,↓b0,↓b15,↓e0,↓Se,Nat.zero_add,c0,c1,c2,c3,aW]
       simp -dsimp only[↓WB,↓wA,WP,ae,Nat.reduceEqDiff,Nat.reduceAdd,↓Us,↓b0,↓b15,↓e0,↓Se,Nat.zero_add,c0,c1,c2,c3,aW];refine hK1 _ _ ?_ (by rw[hlb];rfl) (((X2.trans (X3.mono n2)).trans (X4.mono (by omega))).trans (X5.mono (by omega)));rw[hlb];exact⟨_,_,rfl,fun _=>⟨_,_,rfl,Bx.lt,cx⟩⟩
     · have q:((⟨(e_ o a b c).toArray⟩:ByteArray)=⟨l.toArray⟩)=False:=eq_false fun e=>hq (str_inj.1 e);simp -dsimp only[↓WB,↓wA,WP,ae,Nat.reduceEqDiff,Nat.reduceAdd,↓Us,↓b0,↓b15,↓e0,↓Se,w1,q];exact⟨E.length-(i+1),by omega,i+1,by omega,rfl,(X2.trans (X3.mono n2)).trans (X4.mono (by omega)),by simp[T.ah],nxt (fun _=>hq)⟩
 · obtain rfl:i=E.length:=by omega
   (with_reducible repeat' (first|refine y2 ?_|simp -dsimp only[↓WB,↓wA,WP,ae,Nat.reduceEqDiff,Nat.reduceAdd,↓Us,↓b0,↓b15,↓e0,↓Se]));refine hK2 _ (fun o a b c hm hd=>?_) X2;obtain⟨k,hk,e⟩:=List.getElem_of_mem hm;have:=hno k hk hk;rw[e]at this;exact this hd
theorem TL.own {B:Nat}{h:Heap}{v:Value}{E:List Vv}(o:bn B h 125 v E.length (E.map kD).flatten) (hne:0<E.length):∃ ri,v=.slice (some ⟨ri,0,none⟩) E.length cY∧TL h ri E:=by
 have hl:∀ r∈E.map kD,r.length=4:=by intro r hr;obtain⟨e,_,rfl⟩:=List.mem_map.1 hr;rfl
 obtain⟨a,c,e,ra⟩:=o.rowAt (sz:=4) hl (by simp);generalize hn:E.length=n at o hne;generalize (E.map kD).flatten=cs at o;cases o with
 | nil=>omega
 | emp i hi=>omega
 | row i n cs h1 h2 h3 =>
   cases e
   refine⟨i,rfl,h2,fun k hk=>?_⟩
   obtain⟨b,off,e1,_,e3⟩:=ra k (by simpa using hk)
   cases e1
   rw[Nat.zero_add,List.getElem_map]at e3
   exact e3
def vC (n:Nat→Int):List Value:=[.int .i64 0,.int .i64 (n 1),.int .i64 (n 2),.int .i64 (n 3)]
theorem DK {h:Heap}{b:Nat}{n:Nat→Int}(B:dm h b (vC n) 163):cellAt h ⟨b,1,none⟩=some (.int .i64 (n 1))∧cellAt h ⟨b,2,none⟩=some (.int .i64 (n 2))∧cellAt h ⟨b,3,none⟩=some (.int .i64 (n 3)) :=
 ⟨B.at_ (j:=1) rfl,B.at_ (j:=2) rfl,B.at_ (j:=3) rfl⟩
theorem U6 {x:Int}(h : -131072≤x):0≤(x+Int.ofNat 131072).tmod (Int.ofNat 65536)∧(x+Int.ofNat 131072).tmod (Int.ofNat 65536)<65536:=by have:(x+Int.ofNat 131072).tmod (Int.ofNat 65536)=(x+131072)%65536:=Int.tmod_eq_emod_of_nonneg (by show 0≤x+131072;omega);rw[this];omega
theorem Uw {y:Int}(h:0≤y∧y<65536):IntKind.wrap .i64 (y.tdiv (Int.ofNat 256))=y.tdiv (Int.ofNat 256):=by have:y.tdiv (Int.ofNat 256)=y / 256:=Int.tdiv_eq_ediv_of_nonneg h.1;rw[this];exact wrap_i64 (by omega) (by omega)
theorem I_ {l:List UInt8}{n:Nat→Int}{b:Nat}{fr:Fr}{h:Heap}{K:Value→Heap→Prop}(B:dm h b (vC n) 163) (bd:∀ i,-100000000≤n i∧n i≤100000000) (g0:fr.get 0=some (.string ⟨l.toArray⟩)) (g9:fr.get 9=some (.pointer (some ⟨b,0,none⟩)))
  (hK1:∀ v h',nu h'.n h' v (bw l)→(bw l).length=4→ai h.n h h'→K (.tuple #[v,.bool true]) h')
  (hK2:∀ h',(∀ o a b c,eE o a b c=true→bZ o a b c=true→e_ o a b c=l→((o,a,b,c)∈iQ (n 1) (n 2) (n 3)++pV (n 1)∧(-32768≤n 1∧n 1≤65535)∧-32768≤n 2∧n 2≤65535)→False)→ai h.n h h'→K (.tuple #[.slice none 0 0,.bool false]) h'):Ei.wp env 256 none fr h (eY env [.tmp 2,.tmp 3] K):=by
 have e0:=aj g0
 have e9:=aj g9
 have b1:=bd 1
 have b2:=bd 2
 have b3:=bd 3
 have vc:=DK B
 have tn1:Int.toNat 1=1:=rfl
 have tn2:Int.toNat 2=2:=rfl
 have tn3:Int.toNat 3=3:=rfl
 have w1:IntKind.wrap .i64 (n 1+131072)=n 1+131072:=wrap_i64 (by omega) (by omega)
 have w2:IntKind.wrap .i64 (n 2+131072)=n 2+131072:=wrap_i64 (by omega) (by omega)
 by_cases hb:(-40000≤n 1∧n 1≤70000)∧-40000≤n 2∧n 2≤70000
 ·obtain⟨⟨q1,q2⟩,q3,q4⟩:=hb;generalize hn1:n 1=x1 at *
  generalize hn2:n 2=x2 at *
  generalize hn3:n 3=x3 at *
  (with_reducible repeat' (first|refine y2 ?_|refine y4 ?_|refine y5 ?_|refine y9 ?_|simp -dsimp only[↓WB,↓wA,WP,ae,Nat.reduceEqDiff,Nat.reduceAdd,↓e0,↓e9,tn1,tn2,tn3,Nat.zero_add,Nat.mul_one,vc.1,vc.2.1,vc.2.2,w1,w2]));have r1:0≤(x1+Int.ofNat 131072).tmod (Int.ofNat 65536)∧(x1+Int.ofNat 131072).tmod (Int.ofNat 65536)<65536:=U6 (by omega);have r2:0≤(x2+Int.ofNat 131072).tmod (Int.ofNat 65536)∧(x2+Int.ofNat 131072).tmod (Int.ofNat 65536)<65536:=U6 (by omega);have k1:=Uw r1;have k2:=Uw r2;simp only[k1,k2,kB];refine lf (l:=((iQ x1 x2 x3).map kD).flatten) rfl ?_;have X3:ai h.n h (af h (.cells ((iQ x1 x2 x3).map kD).flatten 125 true)):=ai.new _ (Nat.le_refl _);have m3:(af h (.cells ((iQ x1 x2 x3).map kD).flatten 125 true)).n=h.n+1:=rfl;have c3:ax (af h (.cells ((iQ x1 x2 x3).map kD).flatten 125 true)) ⟨h.n,0,none⟩ 32=some ((iQ x1 x2 x3).map kD).flatten:=bA rfl;generalize af h (.cells ((iQ x1 x2 x3).map kD).flatten 125 true)=h3 at X3 m3 c3 ⊢;simp -dsimp only[↓WB,↓wA,WP,ae,Nat.reduceEqDiff,Nat.reduceAdd,↓e0,↓e9];refine ve (B:=h3.n) (m:=8) (new:=((iQ x1 x2 x3).map kD).flatten) bn.nil (Nat.le_refl _) rfl rfl (by decide) (by decide) (by simp only[firstCells];exact c3) rfl rfl (by decide) fun v4 h4 O4 X4 _=>?_;have m4:=X4.n;have B4:=(B.ext X3 B.lt).ext X4 (by have:=B.lt;omega);have vc4:=DK B4;rw[hn1]at vc4;by_cases hc:1≤x1∧x1≤22
  ·obtain⟨c1,c2⟩:=hc;have w5:IntKind.wrap .i64 (16+x1)=16+x1:=wrap_i64 (by omega) (by omega);(with_reducible repeat' (first|refine y1 ?_|refine y4 ?_|refine y8 ?_|refine y9 ?_|simp -dsimp only[↓WB,↓jF,↓jE,↓gp,↓jw,↓gZ,↓jI,↓hC,↓jA,WP,ae,Nat.reduceEqDiff,Nat.reduceAdd,↓e0,↓e9,tn1,tn2,tn3,Nat.zero_add,Nat.mul_one,vc4.1,vc4.2.1,vc4.2.2,w5,kB]));refine dQ (new:=kD (bu (16+x1),0,0,0)) O4 (by omega) rfl (by decide) rfl rfl (by decide) rfl fun v5 h5 O5 X5 m5 _=>?_;have O6:bn h3.n h5 125 v5 (iQ x1 x2 x3++pV x1).length ((iQ x1 x2 x3++pV x1).map kD).flatten:=by unfold pV;rw[if_pos ⟨c1,c2⟩,List.map_append,List.flatten_append,List.length_append];show bn h3.n h5 125 v5 9 _;simpa using O5
   obtain⟨ri,rfl,RI⟩:=TL.own O6 (by simp[iQ]);simp -dsimp only[↓WB,↓jF,↓jE,↓gp,↓jw,↓gZ,↓jI,↓hC,↓jA,WP,ae,Nat.reduceEqDiff,Nat.reduceAdd,↓e0,↓e9];have Xh:ai h.n h h5:=(X3.trans (X4.mono (by omega))).trans (X5.mono (by omega));refine ze (l:=l) (rc:=cY) rfl RI (by simp[T.ah,g0]) (by simp[T.ah]) (fun v h' a b X=>hK1 v h' a b (Xh.trans (X.mono Xh.n))) (fun h' q X=>hK2 h' (fun o a b c q1 q2 q3 q4=>q o a b c q4.1 q1 q3) (Xh.trans (X.mono Xh.n)))
  ·have O5:bn h3.n h4 125 v4 (iQ x1 x2 x3++pV x1).length ((iQ x1 x2 x3++pV x1).map kD).flatten:=by unfold pV;rw[if_neg hc,List.append_nil];exact O4
   obtain⟨ri,rfl,RI⟩:=TL.own O5 (by simp[iQ]);have Xh:ai h.n h h4:=X3.trans (X4.mono (by omega));have hc2:¬1≤x1∨(1≤x1∧¬x1≤22):=by omega
   rcases hc2 with hc2|⟨hc2,hc3⟩;all_goals
    (with_reducible repeat' (first|refine y1 ?_|refine y2 ?_|refine y4 ?_|simp -dsimp only[↓WB,↓jF,↓jE,↓gp,↓jw,↓gZ,↓jI,↓hC,↓jA,WP,ae,Nat.reduceEqDiff,Nat.reduceAdd,↓e0,↓e9,tn1,tn2,tn3,Nat.zero_add,Nat.mul_one,vc4.1,vc4.2.1,vc4.2.2]))
    refine ze (l:=l) (rc:=cY) rfl RI (by simp[T.ah,g0]) (by simp[T.ah]) (fun v h' a b X=>hK1 v h' a b (Xh.trans (X.mono Xh.n))) (fun h' q X=>hK2 h' (fun o a b c q1 q2 q3 q4=>q o a b c q4.1 q1 q3) (Xh.trans (X.mono Xh.n)))
 ·have no:K (.tuple #[.slice none 0 0,.bool false]) h:=hK2 h (fun o a b c _ _ _ hm=>hb (by omega)) (ai.refl _ _);have hb2:n 1 < -40000∨(-40000≤n 1∧70000<n 1)∨((-40000≤n 1∧n 1≤70000)∧n 2 < -40000)∨((-40000≤n 1∧n 1≤70000)∧-40000≤n 2∧70000<n 2):=by omega
  generalize hn1:n 1=x1 at *
  generalize hn2:n 2=x2 at *
  generalize hn3:n 3=x3 at *
  rcases hb2 with hq|⟨hq,hq2⟩|⟨⟨hq,hq2⟩,hq3⟩|⟨⟨hq,hq2⟩,hq3,hq4⟩;all_goals
   (with_reducible repeat' (first|refine y1 ?_|refine y2 ?_|refine y4 ?_|refine y5 ?_|simp -dsimp only[↓WB,↓wA,WP,ae,Nat.reduceEqDiff,Nat.reduceAdd,↓e0,↓e9,tn1,tn2,tn3,Nat.zero_add,Nat.mul_one,vc.1,vc.2.1,vc.2.2,w1,w2]))
   exact no
theorem L9 (o:Nat):(dF o).2.1.length≤3:=by rcases eM o with ⟨_,e⟩|⟨_,e⟩|⟨_,e⟩|⟨_,e⟩|⟨_,e⟩|⟨_,e⟩|⟨_,e⟩|⟨_,e⟩|⟨_,e⟩|⟨_,e⟩<;>rw[e]<;>decide
theorem SE {o a b c:UInt8}{i:Nat}(h1:1≤i) (hi:i<(aZ 32 (e_ o a b c)).length):∃ m:Int,-99999≤m∧m≤99999∧(aZ 32 (e_ o a b c))[i]=Lib.itoa m:=by
 have e:=mc (o:=o) (a:=a) (b:=b) (c:=c);obtain⟨k,rfl⟩:∃ k,i=k+1:=⟨i-1,by omega⟩;have hk:k<(dF o.toNat).2.1.length:=by rw[e]at hi;simpa using hi
 refine⟨gV o a b c (dF o.toNat).2.1[k],?_,?_,?_⟩;·have:=oT o a b c (dF o.toNat).2.1[k];omega
 ·have:=oT o a b c (dF o.toNat).2.1[k];omega
 ·simp only[e,List.getElem_cons_succ,List.getElem_map]
theorem V0 {n:Nat→Int}{j:Nat}{m:Int}(h1:1≤j) (h3:j≤3):over (vC n) j [.int .i64 m]=some (vC fun i=>if i=j then m else n i):=by
 have:j=1∨j=2∨j=3:=by omega
 rcases this with rfl|rfl|rfl<;>rfl
theorem LP {l:List UInt8}{wa:Option Addr}{wc:Nat}{fr:Fr}{h:Heap}{K:Value→Heap→Prop}(hl:l.length≤500000) (R:ph h.n h (.slice wa (aZ 32 l).length wc) (aZ 32 l)) (g0:fr.get 0=some (.string ⟨l.toArray⟩)) (g4:fr.get 4=some (.slice wa (aZ 32 l).length wc))
   (hK1:∀ v h',nu h'.n h' v (bw l)→(bw l).length=4→ai h.n h h'→K (.tuple #[v,.bool true]) h')
   (hK2:∀ h',(∀ o a b c,eE o a b c=true→bZ o a b c=true→l≠e_ o a b c)→ai h.n h h'→K (.tuple #[.slice none 0 0,.bool false]) h'):vQ.wp env 256 none fr h (eY env [.tmp 2,.tmp 3] K):=by
 have e0:=aj g0
 have e4:=aj g4
 have X1:ai h.n h (af h (.cells (vC fun _=>0) 163 true)):=ai.new _ (Nat.le_refl _)
 by_cases h4:4<(aZ 32 l).length
 · have h4':(4:Int)<((aZ 32 l).length:Int):=by omega
   simp -dsimp only[↓WB,↓wA,WP,ae,Nat.reduceEqDiff,Nat.reduceAdd,↓e0,↓e4,h4'];refine hK2 _ (fun o a b c _ _ e=>?_) X1;subst e;rw[mc,List.length_cons,List.length_map]at h4;have:=L9 o.toNat;omega
 have h4':¬(4:Int)<((aZ 32 l).length:Int):=by omega
 have hpos:0<(aZ 32 l).length:=List.length_pos_iff.2 (lT 32 l)
 have hf:∀ w∈aZ 32 l,w.length≤500000:=fun w hw=>by have:=fv hw;omega
 have mem:∀ i (hi:i<(aZ 32 l).length),(aZ 32 l)[i].length≤500000:=fun i hi=>hf _ (List.getElem_mem hi)
 have num:∀ {i},1≤i→∀ hi:i<(aZ 32 l).length,∀ o a b c,l=e_ o a b c→∃ m:Int,-99999≤m∧m≤99999∧(aZ 32 l)[i]=Lib.itoa m:=by intro i h1 hi o a b c e;subst e;exact SE h1 hi
 have ent:∀ {o a b c n},eE o a b c=true→bZ o a b c=true→e_ o a b c=l→FT (aZ 32 l) n→(o,a,b,c)∈iQ (n 1) (n 2) (n 3)++pV (n 1)∧(-32768≤n 1∧n 1≤65535)∧-32768≤n 2∧n 2≤65535:=by intro o a b c n hd hp e hv;rw[← e]at hv;exact Sd hd hp hv
 clear hf
 generalize aZ 32 l=f at *
 have B1:=dm.new h (vC fun _=>0) 163
 have m1:(af h (.cells (vC fun _=>0) 163 true)).n=h.n+1:=rfl
 simp -dsimp only[↓WB,↓jF,↓eS,↓jE,↓jw,↓gZ,↓jI,↓hC,↓jA,WP,ae,Nat.reduceEqDiff,Nat.reduceAdd,↓e0,↓e4,h4']
 rw[show [Value.int .i64 0,.int .i64 0,.int .i64 0,.int .i64 0]=vC fun _=>0 from rfl]
 generalize af h (.cells (vC fun _=>0) 163 true)=h1 at X1 B1 m1 ⊢
 refine aE (fun m fr' h'=>∃ j n,1≤j∧j≤f.length∧m=f.length-j∧ai h.n h h'∧fr'.get 10=some (.int .i64 (j:Nat))∧dm h' h.n (vC n) 163∧(∀ i,-100000000≤n i∧n i≤100000000)∧(∀ i,j≤i→n i=0)∧∀ i,1≤i→i<j→∀ hi:i<f.length,f[i]=Lib.itoa (n i)) (f.length-1) ?_ (by omega) ?_
 · exact⟨1,fun _=>0,by omega,by omega,rfl,X1,by simp[T.ah],B1,fun i=>⟨by show (-100000000:Int)≤0;decide,by show (0:Int)≤100000000;decide⟩,fun i _=>rfl,fun i h1 h2=>by omega⟩
 rintro m fr2 h2 ⟨j,n,hj1,hj,rfl,X2,f10,B2,bd,z,hv⟩ hag
 have o_:=aj f10
 have b0:=au (hag 0 rfl)
 have b4:=au (hag 4 rfl)
 have b9:=au (hag 9 rfl)
 have n2:=X2.n
 have w1:IntKind.wrap .i64 ((j:Int)+1)=((j+1:Nat):Int):=by rw[wrap_i64 (by omega) (by omega)];omega
 by_cases aB:j<f.length
 · obtain⟨_,ri,ro,rfl,dc⟩:=(R.ext X2).at_ aB;have hm:=mem j aB;have nm:=fun o a b c e=>num hj1 aB o a b c e;have hvj:=fun (i:Nat) (h:i=j) (hi:i<f.length)=>(show f[i]=f[j] by subst h;rfl);generalize f[j]=w at dc hm nm hvj;unfold aq at dc;(with_reducible repeat' (first|refine y1 ?_|refine y4 ?_|simp -dsimp only[↓WB,↓jF,↓eS,↓jE,↓jw,↓gZ,↓jI,↓hC,↓jA,WP,ae,Nat.reduceEqDiff,Nat.reduceAdd,↓o_,↓b0,↓b4,↓b9,↓e0,↓e4,Nat.mul_one,dc]));refine Dr (s:=w) hm fun m p h3 X3 g1 g2 t u=>?_;have n3:=X3.n;have B3:=B2.ext X3 B2.lt;cases p with
   | false =>simp -dsimp only[↓WB,↓jF,↓eS,↓jE,↓jw,↓gZ,↓jI,↓hC,↓jA,WP,ae,Nat.reduceEqDiff,Nat.reduceAdd,↓o_,↓b0,↓b4,↓b9,↓e0,↓e4];refine hK2 _ (fun o a b c _ _ e=>?_) (X2.trans (X3.mono n2));obtain⟨m',q1,q2,q3⟩:=nm o a b c e;have:=(u m' q1 q2 q3).2;cases this
   | true =>
     (with_reducible repeat' (first|refine y4 ?_|simp -dsimp only[↓WB,↓jF,↓eS,↓jE,↓jw,↓gZ,↓jI,↓hC,↓jA,WP,ae,Nat.reduceEqDiff,Nat.reduceAdd,↓o_,↓b0,↓b4,↓b9,↓e0,↓e4,Nat.zero_add,Nat.mul_one]));refine bN (off:=j) (cs':=vC fun i=>if i=j then m else n i) B3.get rfl rfl (V0 hj1 (by omega)) rfl (by decide) ?_;have B4:dm { h3 with b:=h3.b.set h.n (.cells (vC fun i=>if i=j then m else n i) 163 true) } h.n (vC fun i=>if i=j then m else n i) 163:=B3.set;have X4:ai h.n h { h3 with b:=h3.b.set h.n (.cells (vC fun i=>if i=j then m else n i) 163 true) }:=(X2.trans (X3.mono n2)).trans (ai.set _ (Nat.le_refl _));generalize ({ h3 with b:=h3.b.set h.n (.cells (vC fun i=>if i=j then m else n i) 163 true) }:Heap)=h4 at B4 X4 ⊢;simp -dsimp only[↓WB,↓jF,↓eS,↓jE,↓jw,↓gZ,↓jI,↓hC,↓jA,WP,ae,Nat.reduceEqDiff,Nat.reduceAdd,↓o_,↓b0,↓b4,↓b9,↓e0,↓e4,w1];refine⟨f.length-(j+1),by omega,j+1,fun i=>if i=j then m else n i,by omega,by omega,rfl,X4,by simp[T.ah],B4,fun i=>?_,fun i hi=>?_,fun i h1 h2 hi=>?_⟩
     · simp only;split;· exact⟨g1,g2⟩
       · exact bd i
     · simp only;rw[if_neg (by omega)];exact z i (by omega)
     · simp only;by_cases hij:i=j;· rw[if_pos hij,hvj i hij hi];exact t rfl
       · rw[if_neg hij];exact hv i h1 (by omega) hi
 · obtain rfl:j=f.length:=by omega
   have vo:FT f n:=fun i h1=>⟨z i,fun hi=>⟨hv i h1 hi hi,bd i⟩⟩;(with_reducible repeat' (first|refine y2 ?_|simp -dsimp only[↓WB,↓jF,↓eS,↓jE,↓jw,↓gZ,↓jI,↓hC,↓jA,WP,ae,Nat.reduceEqDiff,Nat.reduceAdd,↓o_,↓b0,↓b4,↓b9,↓e0,↓e4]));refine I_ (l:=l) B2 bd (by simp[T.ah,hag 0 rfl,g0]) (by simp[T.ah,hag 9 rfl]) (fun v h' a b X=>hK1 v h' a b (X2.trans (X.mono n2))) (fun h' q X=>hK2 h' (fun o a b c q1 q2 q3=>q o a b c q1 q2 q3.symm (ent q1 q2 q3.symm vo)) (X2.trans (X.mono n2)))
set_option maxHeartbeats 4000000
theorem QH (w:List UInt8):aZ 32 (lH w)=[r7,gP w]:=by have e:lH w=r7++32::gP w:=rfl;rw[e,jq _ (by decide),lP (zF w)]
theorem Ov {l:List UInt8}{h:Heap}{K:Value→Heap→Prop}(hl:l.length≤500000)
   (hK1:∀ v h',nu h'.n h' v (bw l)→(bw l).length≤4→ai h.n h h'→K (.tuple #[v,.bool true]) h')
   (hK2:∀ h',(∀ w,1≤w.length→w.length≤4→l≠fk w)→ai h.n h h'→K (.tuple #[.slice none 0 0,.bool false]) h'):bT env (.func 86) [aq l] h K:=by
 refine F86 rfl ?_
 unfold aq
 simp -dsimp only[↓WB,↓jF,↓eS,↓jE,↓gp,↓jw,↓jI,↓jA,WP,ae,Nat.reduceEqDiff,Nat.reduceAdd]
 refine HG (s:=l) hl fun v h1 O1 X1=>?_
 have n1:=X1.n
 have R:=ph.own O1
 obtain⟨wa,wc,rfl⟩:=R.val
 have hpos:0<(aZ 32 l).length:=List.length_pos_iff.2 (lT 32 l)
 obtain⟨_,ri,ro,rfl,d0⟩:=R.at_ hpos
 have tm:∀ n:Nat,((n:Int)).tmod 2=((n%2:Nat):Int):=fun n=>rfl
 have tn1:Int.toNat 1=1:=rfl
 have ins:(∀ w,1≤w.length→w.length≤4→l≠lH w)→∀ fr:Fr,fr.get 0=some (.string ⟨l.toArray⟩)→fr.get 4=some (.slice (some ⟨ri,ro,none⟩) (aZ 32 l).length wc)→vQ.wp env 256 none fr h1 (eY env [.tmp 2,.tmp 3] K):=by
   intro hnr fr g0 g4;refine LP (l:=l) hl R g0 g4 (fun v h' a b X=>hK1 v h' a (by omega) (X1.trans (X.mono n1))) (fun h' q X=>hK2 h' (fun w w1 w2 e=>?_) (X1.trans (X.mono n1)));unfold fk at e;split at e
   · rename_i o a b c;split at e;· rename_i hq;rw[Bool.and_eq_true]at hq;exact q o a b c hq.1 hq.2 e
     · exact hnr _ w1 w2 e
   · exact hnr _ w1 w2 e
 have hw:=fun w (e:l=lH w)=>(show aZ 32 l=[r7,gP w] by rw[e];exact QH w)
 have hlb:=fun (x:List UInt8) (e:aZ 32 l=[r7,x])=>(show bw l=cD x by unfold bw;rw[e,if_neg (by rintro rfl;simp[aZ]at e),if_pos ⟨rfl,rfl⟩];rfl)
 have hun:=fun (x:List UInt8) (e:aZ 32 l=[r7,x]) (w:List UInt8) (hl:l=fk w) (ex:∀ w,x≠gP w)=>(show False by
   unfold fk at hl;split at hl
   · split at hl;· rw[hl,mc]at e;exact qV (List.cons.inj e).1
     · have:=hw _ hl;rw[e]at this;exact ex _ (List.cons.inj (List.cons.inj this).2).1
   · have:=hw _ hl;rw[e]at this;exact ex _ (List.cons.inj (List.cons.inj this).2).1)
 cases hf:aZ 32 l with
 | nil=>exact absurd hf (lT 32 l)
 | cons x0 f' =>
   have d0':cellAt h1 ⟨ri,ro,none⟩=some (.string ⟨x0.toArray⟩):=by have:=d0;simp only[hf,List.getElem_cons_zero,Nat.add_zero]at this;exact this
   rw[← hf]
   by_cases h0:x0=r7
   · have q0:((⟨x0.toArray⟩:ByteArray)=⟨⟨[114,97,119]⟩⟩)=True:=eq_true (by rw[h0];rfl);by_cases h2:(aZ 32 l).length=2
     · obtain⟨x1,rfl⟩:∃ x1,f'=[x1]:=by
         rw[hf]at h2;match f',h2 with
         | [x1],_=>exact⟨x1,rfl⟩
       have h2':((aZ 32 l).length:Int)=2:=by omega
       have d1:cellAt h1 ⟨ri,ro+1,none⟩=some (.string ⟨x1.toArray⟩):=by obtain⟨_,ri',ro',e,d1⟩:=R.at_ (k:=1) (by omega);cases e;simp only[hf,List.getElem_cons_zero,List.getElem_cons_succ]at d1;exact d1
       subst h0;have hxl:=fun w (e:x1=gP w)=>(show x1.length=2*w.length by rw[e];exact n9 w);have hnr:¬(x1.length%2=0∧2≤x1.length∧x1.length≤8)→∀ w,1≤w.length→w.length≤4→l≠lH w:=by intro hn w w1 w2 e;have:=hw w e;rw[hf]at this;have hx:=hxl w (List.cons.inj (List.cons.inj this).2).1;omega
       by_cases p1:x1.length%2=0
       · by_cases p2:2≤x1.length
         · by_cases p3:x1.length≤8
           · have p1':((x1.length%2:Nat):Int)=0:=by omega
             have p2':(2:Int)≤(x1.length:Int):=by omega
             have p3':(x1.length:Int)≤8:=by omega
             (with_reducible repeat' (first|refine y4 ?_|refine y5 ?_|simp -dsimp only[↓WB,↓jF,↓eS,↓jE,↓gp,↓jw,↓jI,↓jA,WP,ae,Nat.reduceEqDiff,Nat.reduceAdd,d0',q0,h2',Nat.add_zero,Nat.mul_one,Nat.zero_mul,tn1,d1,ak,tm,p1',p2',p3',eq_self]));refine NX (x1:=x1) (wi:=ri) (wo:=ro) (wc:=wc) (k:=x1.length / 2) (by omega) (by omega) ?_ (R.lt0 hpos) d1 (fun v h' r X=>hK1 v h' (by rw[hlb x1 hf];exact r) (by rw[hlb x1 hf];have:=ku x1;omega) (X1.trans (X.mono n1))) (fun h' ex X=>hK2 h' (fun w w1 w2 e=>hun x1 hf w e ex) (X1.trans (X.mono n1)));simp[T.ah,h2]
           · have p1':((x1.length%2:Nat):Int)=0:=by omega
             have p2':(2:Int)≤(x1.length:Int):=by omega
             have p3':¬(x1.length:Int)≤8:=by omega
             (with_reducible repeat' (first|refine y4 ?_|refine y5 ?_|simp -dsimp only[↓WB,↓jF,↓eS,↓jE,↓gp,↓jw,↓jI,↓jA,WP,ae,Nat.reduceEqDiff,Nat.reduceAdd,d0',q0,h2',Nat.add_zero,Nat.mul_one,Nat.zero_mul,tn1,d1,ak,tm,p1',p2',p3',eq_self]));exact ins (hnr (by omega)) _ (by simp[T.ah]) (by simp[T.ah])
         · have p1':((x1.length%2:Nat):Int)=0:=by omega
           have p2':¬(2:Int)≤(x1.length:Int):=by omega
           (with_reducible repeat' (first|refine y4 ?_|refine y5 ?_|simp -dsimp only[↓WB,↓jF,↓eS,↓jE,↓gp,↓jw,↓jI,↓jA,WP,ae,Nat.reduceEqDiff,Nat.reduceAdd,d0',q0,h2',Nat.add_zero,Nat.mul_one,Nat.zero_mul,tn1,d1,ak,tm,p1',p2',eq_self]));exact ins (hnr (by omega)) _ (by simp[T.ah]) (by simp[T.ah])
       · have p1':¬((x1.length%2:Nat):Int)=0:=by omega
         (with_reducible repeat' (first|refine y4 ?_|refine y5 ?_|simp -dsimp only[↓WB,↓jF,↓eS,↓jE,↓gp,↓jw,↓jI,↓jA,WP,ae,Nat.reduceEqDiff,Nat.reduceAdd,d0',q0,h2',Nat.add_zero,Nat.mul_one,Nat.zero_mul,tn1,d1,ak,tm,p1',eq_self]));exact ins (hnr (by omega)) _ (by simp[T.ah]) (by simp[T.ah])
     · have h2':¬((aZ 32 l).length:Int)=2:=by omega
       (with_reducible repeat' (first|refine y4 ?_|simp -dsimp only[↓WB,↓jF,↓eS,↓jE,↓gp,↓jw,↓jI,↓jA,WP,ae,Nat.reduceEqDiff,Nat.reduceAdd,d0',q0,h2',Nat.add_zero,Nat.mul_one,Nat.zero_mul]));exact ins (fun w w1 w2 e=>h2 (by rw[hw w e];rfl)) _ (by simp[T.ah]) (by simp[T.ah])
   · have q0:((⟨x0.toArray⟩:ByteArray)=⟨⟨[114,97,119]⟩⟩)=False:=eq_false fun e=>h0 (str_inj.1 e);(with_reducible repeat' (first|refine y4 ?_|simp -dsimp only[↓WB,↓jF,↓eS,↓jE,↓gp,↓jw,↓jI,↓jA,WP,ae,Nat.reduceEqDiff,Nat.reduceAdd,d0',q0,Nat.add_zero,Nat.mul_one,Nat.zero_mul]));exact ins (fun w w1 w2 e=>h0 (by have:=hw w e;rw[hf]at this;exact(List.cons.inj this).1)) _ (by simp[T.ah]) (by simp[T.ah])
end Go.Proofs.YtohjaacnlmkhbaaGreatDoor
