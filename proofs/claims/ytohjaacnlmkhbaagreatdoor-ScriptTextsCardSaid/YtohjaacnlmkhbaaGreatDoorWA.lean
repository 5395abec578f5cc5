/- SCRIPTS AS THEY ARE READ; copies of rows; how much there is. Conditions: none beyond each theorem's own. -/
import Derived.Test.YtohjaacnlmkhbaaGreatDoorKT
import Derived.Test.YtohjaacnlmkhbaaGreatDoorKW
set_option linter.unusedSimpArgs false
set_option linter.unusedVariables false
namespace Go.Proofs.YtohjaacnlmkhbaaGreatDoor
open Go.Ev
set_option maxRecDepth 1000000
set_option maxHeartbeats 400000
structure ActD where
 k:Int
 p:Int
 v:Int
 c:Int
deriving DecidableEq
def ActD.cells (x:ActD):List Value:=[.int .i64 x.k,.int .i64 x.p,.int .i64 x.v,.int .i64 x.c]
def RdB (B:Nat) (h:Heap) (v:Value) (l:List UInt8):Prop :=
 ∃ a c,v=.slice a l.length c∧(l≠[]→∃ i o,a=some ⟨i,o,none⟩∧i<B∧cellsAt h ⟨i,o,none⟩ l.length=some (l.map byteV))
def RdP (B:Nat) (h:Heap) (v:Value) (P:List (List UInt8)):Prop :=
 ∃ a c,v=.slice a P.length c∧∀ (k:Nat) l,P[k]?=some l→∃ i o u,a=some ⟨i,o,none⟩∧i<B∧cellAt h ⟨i,o+k,none⟩=some u∧RdB B h u l
def RdA (B:Nat) (h:Heap) (v:Value) (A:List ActD):Prop:=∃ a c,v=.slice a A.length c∧RowAt B h a 4 (A.map ActD.cells)
theorem RdB.ext {B:Nat}{h h':Heap}{v:Value}{l:List UInt8}(r:RdB B h v l) (x:ExtB B h h'):RdB B h' v l:=by
 obtain⟨a,c,e,q⟩:=r
 exact⟨a,c,e,fun hl=>let ⟨i,o,e1,e2,e3⟩:=q hl;⟨i,o,e1,e2,cellsAt_ext x e2 e3⟩⟩
theorem RdB.mono {B B':Nat}{h:Heap}{v:Value}{l:List UInt8}(r:RdB B h v l) (hb:B≤B'):RdB B' h v l:=by
 obtain⟨a,c,e,q⟩:=r
 exact⟨a,c,e,fun hl=>let ⟨i,o,e1,e2,e3⟩:=q hl;⟨i,o,e1,by omega,e3⟩⟩
theorem RdP.ext {B:Nat}{h h':Heap}{v:Value}{l:List (List UInt8)}(r:RdP B h v l) (x:ExtB B h h'):RdP B h' v l:=by
 obtain⟨a,c,e,q⟩:=r
 exact⟨a,c,e,fun k y hy=>let ⟨i,o,u,e1,e2,e3,e4⟩:=q k y hy;⟨i,o,u,e1,e2,cellAt_ext x e2 e3,e4.ext x⟩⟩
theorem RdP.mono {B B':Nat}{h:Heap}{v:Value}{l:List (List UInt8)}(r:RdP B h v l) (hb:B≤B'):RdP B' h v l:=by
 obtain⟨a,c,e,q⟩:=r
 exact⟨a,c,e,fun k y hy=>let ⟨i,o,u,e1,e2,e3,e4⟩:=q k y hy;⟨i,o,u,e1,by omega,e3,e4.mono hb⟩⟩
theorem RdA.ext {B:Nat}{h h':Heap}{v:Value}{l:List ActD}(r:RdA B h v l) (x:ExtB B h h'):RdA B h' v l:=by
 obtain⟨a,c,e,q⟩:=r;exact⟨a,c,e,q.ext x⟩
theorem RdA.mono {B B':Nat}{h:Heap}{v:Value}{l:List ActD}(r:RdA B h v l) (hb:B≤B'):RdA B' h v l:=by
 obtain⟨a,c,e,q⟩:=r;exact⟨a,c,e,q.mono hb⟩
theorem bytes_one (l:List UInt8):(l.map byteV).all oneCell=true:=by simp[List.all_eq_true,byteV,oneCell]
theorem RdB.own {B:Nat}{h:Heap}{v:Value}{l:List UInt8}(o:OwnS B h 5 v l.length (l.map byteV)):RdB h.n h v l:=by
 generalize hc:l.map byteV=cs at o
 generalize hn:l.length=n at o
 cases o with
 | nil=>exact⟨_,_,by rw[hn],fun hl=>absurd (List.length_eq_zero_iff.1 hn) hl⟩
 | emp i hi=>exact⟨_,_,by rw[hn],fun hl=>absurd (List.length_eq_zero_iff.1 hn) hl⟩
 | row i n cs h1 h2 h3=>exact⟨_,_,by rw[hn],fun hl=>⟨i,0,rfl,h2,cellsAt_blk h2 h3 (by rw[← hc,← List.length_map (f:=byteV),List.drop_zero,List.take_length]) (by simp)⟩⟩
theorem RdB.first {B:Nat}{h:Heap}{v:Value}{l:List UInt8}(r:RdB B h v l) (h0:l.length≠0):firstCells h 1 l.length v=some (l.map byteV):=by
 obtain⟨a,c,rfl,q⟩:=r
 obtain⟨i,o,rfl,_,q⟩:=q fun e=>h0 (by rw[e];rfl)
 simp only[firstCells,Nat.mul_one]
 exact q
theorem acts_len (A:List ActD):(A.map ActD.cells).flatten.length=A.length*4:=by rw[flat_len (sz:=4) _ (by simp[ActD.cells])];simp
theorem acts_one (A:List ActD):(A.map ActD.cells).flatten.all oneCell=true:=by
 rw[List.all_eq_true]
 intro x hx
 obtain⟨l,hl,hx⟩:=List.mem_flatten.1 hx
 obtain⟨y,_,rfl⟩:=List.mem_map.1 hl
 simp only[ActD.cells,List.mem_cons,List.not_mem_nil,or_false]at hx
 rcases hx with rfl|rfl|rfl|rfl<;>rfl
theorem RdA.first {B:Nat}{h:Heap}{v:Value}{A:List ActD}(r:RdA B h v A) (h0:A.length≠0):firstCells h 4 A.length v=some (A.map ActD.cells).flatten:=by
 obtain⟨a,c,rfl,q⟩:=r
 obtain⟨b,off,rfl,_,e⟩:=RowAt.cells q (by simp[ActD.cells]) (by decide) (by simpa using fun e=>h0 (by rw[e];rfl))
 simp only[firstCells]
 rw[List.length_map]at e
 exact e
theorem RdA.own {B:Nat}{h:Heap}{v:Value}{A:List ActD}(o:OwnS B h 35 v A.length (A.map ActD.cells).flatten):RdA h.n h v A:=by
 obtain⟨a,c,e,r⟩:=OwnS.rowAt (sz:=4) o (by simp[ActD.cells]) (by simp)
 rw[List.length_map]at e
 exact⟨a,c,e,r⟩
def cfgL (c:Nat→Int) (pv:Value):List Value:=[.int .i64 (c 0),.int .i64 (c 1),.int .i64 (c 2),.int .i64 (c 3),.int .i64 (c 4),.int .i64 (c 5),.int .i64 (c 6),.int .i64 (c 7),.int .i64 (c 8),.int .i64 (c 9),.int .u64 (c 10),.int .u64 (c 11),.int .u64 (c 12),.int .u64 (c 13),pv]
def scrL (c:Nat→Int) (pv av:Value):List Value:=cfgL c pv++[av]
structure Box (h:Heap) (i:Nat) (cs:List Value) (e:TypeId):Prop where
 lt:i<h.n
 get:h.b.get i=some (.cells cs e true)
theorem Box.new (h:Heap) (cs:List Value) (e:TypeId):Box (newBlk h (.cells cs e true)) h.n cs e:=⟨Nat.lt_succ_self _,newBlk_same _ _⟩
theorem Box.ext {B:Nat}{h h':Heap}{i:Nat}{cs:List Value}{e:TypeId}(b:Box h i cs e) (x:ExtB B h h') (hi:i<B):Box h' i cs e:=⟨Nat.lt_of_lt_of_le b.lt x.n,by rw[x.get i hi];exact b.get⟩
theorem Box.cfg {h:Heap}{i:Nat}{c:Nat→Int}{pv:Value}(b:Box h i (cfgL c pv) 25):cellsAt h ⟨i,0,none⟩ 15=some (cfgL c pv)∧cellAt h ⟨i,14,none⟩=some pv:=⟨cellsAt_blk b.lt b.get rfl rfl,cellAt_blk b.lt b.get rfl⟩
theorem Box.scr {h:Heap}{i:Nat}{c:Nat→Int}{pv av:Value}(b:Box h i (scrL c pv av) 28):cellsAt h ⟨i,0,none⟩ 16=some (scrL c pv av)∧cellsAt h ⟨i,0,none⟩ 15=some (cfgL c pv)∧cellAt h ⟨i,14,none⟩=some pv∧cellAt h ⟨i,15,none⟩=some av :=
 ⟨cellsAt_blk b.lt b.get rfl rfl,cellsAt_blk b.lt b.get rfl rfl,cellAt_blk b.lt b.get rfl,cellAt_blk b.lt b.get rfl⟩
theorem cfg_one {c:Nat→Int}{a:Option Addr}{n cc:Nat}:(cfgL c (.slice a n cc)).all oneCell=true:=rfl
theorem scr_one {c:Nat→Int}{a a':Option Addr}{n cc n' cc':Nat}:(scrL c (.slice a n cc) (.slice a' n' cc')).all oneCell=true:=rfl
def sumL (P:List (List UInt8)) (k:Nat):Nat:=((P.take k).map List.length).sum
theorem sumL_succ {P:List (List UInt8)}{k:Nat}(hk:k<P.length):sumL P (k+1)=sumL P k+P[k].length:=by
 unfold sumL
 rw[List.take_add_one,List.getElem?_eq_getElem hk,List.map_append,List.sum_append]
 simp only[Option.toList_some,List.map_cons,List.map_nil,List.sum_cons,List.sum_nil,Nat.add_zero]
theorem sumL_le {P:List (List UInt8)}(k:Nat) (hs:∀ l∈P,l.length≤281474976710656):sumL P k≤k*281474976710656:=by
 induction k with
 | zero=>simp[sumL]
 | succ k ih =>
   by_cases hk:k<P.length
   · rw[sumL_succ hk];have:=hs P[k] (List.getElem_mem _);omega
   · have:sumL P (k+1)=sumL P k:=by unfold sumL;rw[List.take_of_length_le (by omega),List.take_of_length_le (by omega)]
     omega
theorem sumL_ge {P:List (List UInt8)}{k:Nat}:∀ {j:Nat}(hj:j<P.length),j<k→P[j].length≤sumL P k:=by
 induction k with
 | zero=>intro j _ h;omega
 | succ k ih =>
   intro j hj hk
   by_cases hkl:k<P.length
   · rw[sumL_succ hkl]
     by_cases e:j=k
     · subst e;omega
     · have:=ih hj (by omega);omega
   · have:sumL P (k+1)=sumL P k:=by unfold sumL;rw[List.take_of_length_le (by omega),List.take_of_length_le (by omega)]
     have:=ih hj (by omega);omega
theorem RdP.at_ {B:Nat}{h:Heap}{a:Option Addr}{n c:Nat}{P:List (List UInt8)}(r:RdP B h (.slice a n c) P) {k:Nat}(hk:k<P.length) :
  ∃ i o ua uc,a=some ⟨i,o,none⟩∧i<B∧cellAt h ⟨i,o+k,none⟩=some (.slice ua P[k].length uc)∧RdB B h (.slice ua P[k].length uc) P[k]:=by
 obtain⟨a',c',e,q⟩:=r
 cases e
 obtain⟨i,o,u,e1,hi,hc,hb⟩:=q k _ (List.getElem?_eq_getElem hk)
 obtain⟨ua,uc,rfl,_⟩:=id hb
 exact⟨i,o,ua,uc,e1,hi,hc,hb⟩
theorem refMuch_ret {B:Nat}{c:Nat→Int}{pv:Value}{P:List (List UInt8)}{h:Heap}{K:Value→Heap→Prop}(r:RdP B h pv P) (hB:B≤h.n) (hs:P.length≤281474976710656∧∀ l∈P,l.length≤281474976710656)
  (hK:∀ b h',ExtB h.n h h'→(b=false→P.length≤40∧∀ l∈P,l.length≤40000)→K (.bool b) h'):Ret env (.func 18) [.agg ⟨cfgL c pv⟩] h K:=by
 obtain⟨pa,pc,rfl,q⟩:=id r
 refine F18 rfl ?_
 simp -dsimp only[↓WB,↓W18,WP,newBlk_n,Nat.reduceEqDiff,Nat.reduceAdd,cfg_one]
 have V:=Box.new h (cfgL c (.slice pa P.length pc)) 25
 have X:ExtB h.n h (newBlk h (.cells (cfgL c (.slice pa P.length pc)) 25 true)):=ExtB.new _ (Nat.le_refl _)
 have hn1:(newBlk h (.cells (cfgL c (.slice pa P.length pc)) 25 true)).n=h.n+1:=rfl
 generalize newBlk h (.cells (cfgL c (.slice pa P.length pc)) 25 true)=h1 at V X hn1 ⊢
 have r1:=r.ext (X.mono hB)
 have dv:=V.cfg
 obtain⟨hs1,hs2⟩:=hs
 refine cw_loopI (fun m fr' h'=>∃ k:Nat,k≤P.length∧k≤41∧m=41-k∧h'=h1∧fr'.get 4=some (.int .i64 k)∧fr'.get 3=some (.int .i64 (sumL P k))) 41 ?_ (by omega) ?_
 ·exact⟨0,by omega,by omega,by omega,rfl,by simp[T.get_set],by simp[T.get_set,sumL]⟩
 rintro m fr2 h' ⟨k,hk,hk41,rfl,rfl,f4,f3⟩ hag
 have e4:=getK_of f4
 have e3:=getK_of f3
 have a1:=getK_eq (hag 1 rfl)
 have fin:P.length≤40→k=P.length→sumL P k≤40000→∀ l∈P,l.length≤40000:=fun h40 hkl hsum l hl=>by
  obtain⟨j,hj,rfl⟩:=List.getElem_of_mem hl
  have:=sumL_ge hj (show j<k by omega)
  omega
 by_cases hlt:k<P.length∧k≤40
 ·obtain⟨l1,l2⟩:=hlt
  obtain⟨i,o,ua,uc,rfl,hi,hc,_⟩:=r1.at_ l1
  have hsm:=sumL_le (P:=P) k hs2
  have hlk:=hs2 P[k] (List.getElem_mem _)
  have w1:IntKind.i64.wrap (((sumL P k:Nat):Int)+(P[k].length:Int))=((sumL P (k+1):Nat):Int):=by rw[sumL_succ l1,wrap_i64 (by omega) (by omega)];omega
  clear fin hs2 q
  generalize P[k].length=L at hc hlk w1
  (with_reducible repeat' (first|refine y1 ?_ (by omega)|refine y4 ?_ (by omega) (by omega)|simp -dsimp only[↓WB,↓W18,WP,newBlk_n,Nat.reduceEqDiff,Nat.reduceAdd,↓e4,↓e3,↓a1,dv,Nat.mul_one,hc,w1]))
  exact⟨41-(k+1),by omega,k+1,by omega,by omega,rfl,by simp[T.get_set,wrap_succ (show k≤4611686018427387904 by omega)],by simp[T.get_set]⟩
 ·by_cases l1:k<P.length
  ·have l2:k=41:=by omega
   subst l2
   (with_reducible repeat' (first|refine y1 ?_ (by omega)|refine y2 ?_ (by omega)|simp -dsimp only[↓WB,↓W18,WP,newBlk_n,Nat.reduceEqDiff,Nat.reduceAdd,↓e4,↓e3,↓a1,dv]))
   exact hK _ _ X (by simp)
  ·have hkl:k=P.length:=by omega
   by_cases h40:40<P.length
   ·(with_reducible repeat' (first|refine y1 ?_ (by omega)|refine y2 ?_ (by omega)|simp -dsimp only[↓WB,↓W18,WP,newBlk_n,Nat.reduceEqDiff,Nat.reduceAdd,↓e4,↓e3,↓a1,dv]))
    all_goals exact hK _ _ X (by simp)
   ·by_cases hsum:40000<sumL P k
    ·(with_reducible repeat' (first|refine y1 ?_ (by omega)|refine y2 ?_ (by omega)|simp -dsimp only[↓WB,↓W18,WP,newBlk_n,Nat.reduceEqDiff,Nat.reduceAdd,↓e4,↓e3,↓a1,dv]))
     exact hK _ _ X (by simp)
    ·(with_reducible repeat' (first|refine y2 ?_ (by omega)|simp -dsimp only[↓WB,↓W18,WP,newBlk_n,Nat.reduceEqDiff,Nat.reduceAdd,↓e4,↓e3,↓a1,dv]))
     exact hK _ _ X fun _=>⟨by omega,fin (by omega) hkl (by omega)⟩
theorem ownS_setLow {B i:Nat}{h:Heap}{e:TypeId}{v:Value}{n:Nat}{cs:List Value}{k:Blk}(o:OwnS B h e v n cs) (hi:i<B):OwnS B { h with b:=h.b.set i k } e v n cs:=by
 cases o with
 | nil=>exact .nil
 | emp j hj=>exact .emp j hj
 | row j n cs h1 h2 h3=>exact .row j n cs h1 h2 (by show T.get (T.set h.b i k) j=_;rw[T.get_set_ne _ _ (by omega)];exact h3)
theorem ownS_fr {B B0:Nat}{h h':Heap}{e e':TypeId}{v s:Value}{n m:Nat}{cs ds:List Value}(o:OwnS B h e' v n cs) (os:OwnS B0 h e s m ds) (hne:e≠e') (h0:m=0→s=.slice none 0 0) (hn:h.n≤h'.n) (hf:∀ j,j<h.n→notIn s j→h'.b.get j=h.b.get j):OwnS B h' e' v n cs:=by
 cases o with
 | nil=>exact .nil
 | emp j hj=>exact .emp j (by omega)
 | row j n cs h1 h2 h3 =>
   refine .row j n cs h1 (by omega) ?_
   rw[hf j h2 ?_,h3]
   intro a n' c' e1 e2
   cases os with
   | nil=>cases e1
   | emp i hi=>exact absurd (h0 rfl) (by simp)
   | row i n2 cs2 g1 g2 g3 =>
     cases e1
     simp only at e2
     subst e2
     rw[h3]at g3
     simp only[Option.some.injEq,Blk.cells.injEq]at g3
     exact hne g3.2.1.symm
theorem ownS_old {B i:Nat}{h:Heap}{e:TypeId}{s:Value}{n:Nat}{cs:List Value}(o:OwnS B h e s n cs) (h0:n=0→s=.slice none 0 0) (hi:i<B):notIn s i:=by
 intro a n' c' e1 e2
 cases o with
 | nil=>cases e1
 | emp j hj=>exact absurd (h0 rfl) (by simp)
 | row j n cs g1 g2 g3=>cases e1;simp only at e2;omega
theorem Box.set {h:Heap}{i:Nat}{cs cs':List Value}{e:TypeId}(b:Box h i cs e):Box { h with b:=h.b.set i (.cells cs' e true) } i cs' e:=⟨b.lt,T.get_set_same _ _ _⟩
def OwnP (B:Nat) (h:Heap) (v:Value) (P:List (List UInt8)):Prop :=
 ∃ us:List Value,us.length=P.length∧OwnS B h 36 v P.length us∧(P.length=0→v=.slice none 0 0)∧∀ (k:Nat) u l,us[k]?=some u→P[k]?=some l→OwnS B h 5 u l.length (l.map byteV)
theorem OwnP.nil (B:Nat) (h:Heap):OwnP B h (.slice none 0 0) []:=⟨[],rfl,.nil,fun _=>rfl,fun k u l e=>by simp at e⟩
theorem OwnP.setLow {B i:Nat}{h:Heap}{v:Value}{P:List (List UInt8)}{k:Blk}(o:OwnP B h v P) (hi:i<B):OwnP B { h with b:=h.b.set i k } v P:=by
 obtain⟨us,e1,e2,e3,e4⟩:=o
 exact⟨us,e1,ownS_setLow e2 hi,e3,fun k u l h1 h2=>ownS_setLow (e4 k u l h1 h2) hi⟩
theorem OwnP.ext {B B':Nat}{h h':Heap}{v:Value}{P:List (List UInt8)}(o:OwnP B h v P) (x:ExtB B' h h') (hB:h.n≤B'):OwnP B h' v P:=by
 obtain⟨us,e1,e2,e3,e4⟩:=o
 exact⟨us,e1,e2.ext x hB,e3,fun k u l h1 h2=>(e4 k u l h1 h2).ext x hB⟩
theorem OwnP.rd {B:Nat}{h:Heap}{v:Value}{P:List (List UInt8)}(o:OwnP B h v P):RdP h.n h v P:=by
 obtain⟨us,e1,e2,e3,e4⟩:=o
 generalize hn:P.length=n at e2 e1
 cases e2 with
 | nil=>exact⟨_,_,by rw[hn],fun k l e=>by have:=(List.getElem?_eq_some_iff.1 e).1;omega⟩
 | emp i hi=>exact⟨_,_,by rw[hn],fun k l e=>by have:=(List.getElem?_eq_some_iff.1 e).1;omega⟩
 | row i n us g1 g2 g3 =>
   refine⟨_,_,by rw[hn],fun k l e=>?_⟩
   have hk:=(List.getElem?_eq_some_iff.1 e).1
   have hu:us[k]?=some (us[k]'(by omega)):=List.getElem?_eq_getElem _
   exact⟨i,0,_,rfl,g2,cellAt_blk g2 g3 (by rw[Nat.zero_add];exact hu),RdB.own (e4 k _ l hu e)⟩
theorem OwnP.val {B:Nat}{h:Heap}{v:Value}{P:List (List UInt8)}(o:OwnP B h v P):∃ a c,v=.slice a P.length c:=by
 obtain⟨a,c,e,_⟩:=o.rd;exact⟨a,c,e⟩
theorem app_oneN {B:Nat}{e:TypeId}{sz n j:Nat}{s:Value}{cs new:List Value}{h1:Heap}{K:Value→Heap→Prop}(o:OwnS B h1 e s n cs) (hB:B≤h1.n) (hlen:cs.length=n*sz) (hsz:n+1≤1000000)
  (hnl:new.length=sz) (hone:new.all oneCell=true) (hpos:sz≠0) (hj:j=h1.n)
  (k:∀ v' h',OwnS B h' e v' (n+1) (cs++new)→ExtB B h1 h'→h1.n+1≤h'.n→(∀ j,j<h1.n→notIn s j→h'.b.get j=h1.b.get j)→K v' h'):appK e sz s (.slice (some ⟨j,0,none⟩) 1 1) (newBlk h1 (.cells new e true)) K:=by
 subst hj
 refine app_ownF (o.new _) (Nat.le_trans hB (Nat.le_succ _)) hlen (m:=1) rfl (by decide) hsz (new:=new) ?_ (by omega) hone hpos fun v' h' o' x' f'=>k v' h' o' ((ExtB.new _ hB).trans x') x'.n fun j hj hno=>by rw[f' j (Nat.lt_succ_of_lt hj) hno,newBlk_old _ hj]
 simp only[firstCells,Nat.one_mul]
 exact cellsAt_newE hnl
theorem OwnP.app {B j:Nat}{h:Heap}{v u:Value}{P:List (List UInt8)}{l:List UInt8}{K:Value→Heap→Prop}(o:OwnP B h v P) (ou:OwnS B h 5 u l.length (l.map byteV)) (hB:B≤h.n) (hP:P.length+1≤1000000) (hone:oneCell u=true) (hj:j=h.n)
  (k:∀ v' h',OwnP B h' v' (P++[l])→ExtB B h h'→h.n+1≤h'.n→K v' h'):appK 36 1 v (.slice (some ⟨j,0,none⟩) 1 1) (newBlk h (.cells [u] 36 true)) K:=by
 obtain⟨us,e1,e2,e3,e4⟩:=o
 refine app_oneN e2 hB (by rw[Nat.mul_one];exact e1) hP rfl (by simp[hone]) (by decide) hj fun v' h' o' x xn f=>k v' h' ⟨us++[u],by simp[e1],by simpa using o',fun h0=>by simp at h0,fun i w m h1 h2=>?_⟩ x xn
 rw[List.getElem?_append]at h1 h2
 have nn:=x.n
 by_cases hi:i<us.length
 ·rw[if_pos hi]at h1
  rw[if_pos (by omega)]at h2
  exact ownS_fr (e4 i w m h1 h2) e2 (by decide) e3 nn f
 ·rw[if_neg hi]at h1
  rw[if_neg (by omega)]at h2
  have hz:i-us.length=0:=by
   rcases Nat.eq_zero_or_pos (i-us.length) with h0|h0
   ·exact h0
   ·rw[List.getElem?_eq_none (by simp;omega)]at h1;cases h1
  rw[hz]at h1
  rw[show i-P.length=0 by omega]at h2
  cases h1;cases h2
  exact ownS_fr ou e2 (by decide) e3 nn f
theorem ownS_mono {B B':Nat}{h:Heap}{e:TypeId}{v:Value}{n:Nat}{cs:List Value}(o:OwnS B' h e v n cs) (hb:B≤B'):OwnS B h e v n cs:=by
 cases o with
 | nil=>exact .nil
 | emp j hj=>exact .emp j hj
 | row j n cs h1 h2 h3=>exact .row j n cs (by omega) h2 h3
theorem ownS_val {B:Nat}{h:Heap}{e:TypeId}{v:Value}{n:Nat}{cs:List Value}(o:OwnS B h e v n cs):∃ a c,v=.slice a n c:=by
 cases o with
 | nil=>exact⟨_,_,rfl⟩
 | emp j hj=>exact⟨_,_,rfl⟩
 | row j n cs h1 h2 h3=>exact⟨_,_,rfl⟩
theorem OwnP.mono {B B':Nat}{h:Heap}{v:Value}{P:List (List UInt8)}(o:OwnP B' h v P) (hb:B≤B'):OwnP B h v P:=by
 obtain⟨us,e1,e2,e3,e4⟩:=o
 exact⟨us,e1,ownS_mono e2 hb,e3,fun k u l h1 h2=>ownS_mono (e4 k u l h1 h2) hb⟩
theorem Box.setOther {h:Heap}{i j:Nat}{cs:List Value}{e:TypeId}{k:Blk}(b:Box h i cs e) (hj:j≠i):Box { h with b:=h.b.set j k } i cs e:=⟨b.lt,by show T.get (T.set h.b j k) i=_;rw[T.get_set_ne _ _ hj];exact b.get⟩
theorem much_ret {B:Nat}{c:Nat→Int}{pv av:Value}{P:List (List UInt8)}{A:List ActD}{h:Heap}{K:Value→Heap→Prop}(r:RdP B h pv P) (ra:RdA B h av A) (hB:B≤h.n) (hs:P.length≤281474976710656∧∀ l∈P,l.length≤281474976710656) (hsa:A.length≤281474976710656)
   (hK:∀ b h',ExtB h.n h h'→(b=false→(P.length≤40∧∀ l∈P,l.length≤40000)∧A.length≤300)→K (.bool b) h'):Ret env (.func 6) [.agg ⟨scrL c pv av⟩] h K:=by
 obtain⟨pa,pc,rfl,_⟩:=id r
 obtain⟨aa,ac,rfl,_⟩:=id ra
 refine F6 rfl ?_
 simp -dsimp only[↓WB,↓W6,WP,newBlk_n,Nat.reduceEqDiff,Nat.reduceAdd,scr_one]
 have V:=Box.new h (scrL c (.slice pa P.length pc) (.slice aa A.length ac)) 28
 have X:ExtB h.n h (newBlk h (.cells (scrL c (.slice pa P.length pc) (.slice aa A.length ac)) 28 true)):=ExtB.new _ (Nat.le_refl _)
 have hn1:(newBlk h (.cells (scrL c (.slice pa P.length pc) (.slice aa A.length ac)) 28 true)).n=h.n+1:=rfl
 generalize newBlk h (.cells (scrL c (.slice pa P.length pc) (.slice aa A.length ac)) 28 true)=h1 at V X hn1 ⊢
 have dv:=V.scr
 simp -dsimp only[↓WB,↓W6,WP,newBlk_n,Nat.reduceEqDiff,Nat.reduceAdd,dv]
 refine refMuch_ret (r.ext (X.mono hB)) (by omega) hs fun b h' X2 hb=>?_
 have dv2:=(V.ext X2 (by omega)).scr
 have XX:ExtB h.n h h':=X.trans (X2.mono (by omega))
 cases b with
 | true =>
   simp -dsimp only[↓WB,↓W6,WP,newBlk_n,Nat.reduceEqDiff,Nat.reduceAdd,dv2]
   exact hK _ _ XX (by simp)
 | false =>
   have hb:=hb rfl
   by_cases h3:300<A.length
   · (with_reducible repeat' (first|refine y1 ?_ (by omega)|simp -dsimp only[↓WB,↓W6,WP,newBlk_n,Nat.reduceEqDiff,Nat.reduceAdd,dv2]))
     exact hK _ _ XX (by simp)
   · (with_reducible repeat' (first|refine y2 ?_ (by omega)|simp -dsimp only[↓WB,↓W6,WP,newBlk_n,Nat.reduceEqDiff,Nat.reduceAdd,dv2]))
     exact hK _ _ XX fun _=>⟨hb,by omega⟩
def zc:Nat→Int:=fun _=>0
theorem own_ret {B:Nat}{c:Nat→Int}{pv av:Value}{P:List (List UInt8)}{A:List ActD}{h:Heap}{K:Value→Heap→Prop}(r:RdP B h pv P) (ra:RdA B h av A) (hB:B≤h.n) (hp:P.length≤40∧∀ l∈P,l.length≤40000) (ha:A.length≤300)
  (hK:∀ pv' av' h',ExtB h.n h h'→OwnP h.n h' pv' P→OwnS h.n h' 35 av' A.length (A.map ActD.cells).flatten→K (.agg ⟨scrL c pv' av'⟩) h'):Ret env (.func 8) [.agg ⟨scrL c pv av⟩] h K:=by
 obtain⟨pa,pc,rfl,_⟩:=id r
 obtain⟨aa,ac,rfl,_⟩:=id ra
 refine F8 rfl ?_
 simp -dsimp only[↓WB,↓W8,WP,newBlk_n,Nat.reduceEqDiff,Nat.reduceAdd,scr_one]
 have V:=Box.new h (scrL c (.slice pa P.length pc) (.slice aa A.length ac)) 28
 have X:ExtB h.n h (newBlk h (.cells (scrL c (.slice pa P.length pc) (.slice aa A.length ac)) 28 true)):=ExtB.new _ (Nat.le_refl _)
 have hn1:(newBlk h (.cells (scrL c (.slice pa P.length pc) (.slice aa A.length ac)) 28 true)).n=h.n+1:=rfl
 generalize newBlk h (.cells (scrL c (.slice pa P.length pc) (.slice aa A.length ac)) 28 true)=h1 at V X hn1 ⊢
 skip
 have W:=Box.new h1 (scrL zc (.slice none 0 0) (.slice none 0 0)) 28
 have X1:ExtB h1.n h1 (newBlk h1 (.cells (scrL zc (.slice none 0 0) (.slice none 0 0)) 28 true)):=ExtB.new _ (Nat.le_refl _)
 have hn2:(newBlk h1 (.cells (scrL zc (.slice none 0 0) (.slice none 0 0)) 28 true)).n=h.n+2:=by show h1.n+1=_;omega
 refine(show GC.wp env 31 none s8_14.loop _ (newBlk h1 (.cells (scrL zc (.slice none 0 0) (.slice none 0 0)) 28 true)) _ from ?_)
 rw[hn1]at W
 replace V:=V.ext X1 (by omega)
 replace X:=X.trans (X1.mono (by omega))
 generalize newBlk h1 (.cells (scrL zc (.slice none 0 0) (.slice none 0 0)) 28 true)=h2 at V W X hn2 ⊢
 clear X1 hn1
 refine cw_loopI (fun m fr' h'=>∃ (k:Nat) (v:Value),k≤P.length∧m=40-k∧ExtB h2.n h2 h'∧fr'.get 4=some (.int .i64 k)∧fr'.get 3=some v∧OwnP h2.n h' v (P.take k)) 40 ?_ (by omega) ?_
 ·exact⟨0,_,by omega,by omega,ExtB.refl _ _,by simp[T.get_set],by simp[T.get_set],OwnP.nil _ _⟩
 rintro m fr2 h' ⟨k,v,hk,rfl,X1,f4,f3,O⟩ hag
 have e4:=getK_of f4
 have e3:=getK_of f3
 have a1:=getK_eq (hag 1 rfl)
 have a2:=getK_eq (hag 2 rfl)
 have nn:=X1.n
 have V':=V.ext X1 (by omega)
 have dv:=V'.scr
 have XX:ExtB h.n h h':=X.trans (X1.mono (by omega))
 obtain⟨va,vc,hv⟩:=O.val
 have htl:(P.take k).length=k:=by rw[List.length_take];omega
 rw[htl]at hv
 subst hv
 by_cases hlt:k<P.length
 ·obtain⟨i,o,ua,uc,rfl,hi,hc,hu⟩:=r.at_ hlt
  have hu':=hu.ext (XX.mono hB)
  have hc':=cellAt_ext (XX.mono hB) hi hc
  have hlk:=hp.2 P[k] (List.getElem_mem _)
  (with_reducible repeat' (first|refine y1 ?_ (by omega)|refine y4 ?_ (by omega) (by omega)|simp -dsimp only[↓WB,↓W8,WP,newBlk_n,Nat.reduceEqDiff,Nat.reduceAdd,↓e4,↓e3,↓a1,↓a2,dv,Nat.mul_one,hc']))
  refine app_ownG (OwnS.nil (B:=h'.n)) (Nat.le_refl _) rfl rfl (by omega) (fun h0=>hu'.first h0) (by simp) (bytes_one _) (by decide) fun u h3 o3 X3=>?_
  rw[Nat.zero_add,List.nil_append]at o3
  have n3:=X3.n
  obtain⟨ub,uc2,rfl⟩:=ownS_val o3
  have O3:=O.ext X3 (Nat.le_refl _)
  have dv3:=(V'.ext X3 (by omega)).scr
  (with_reducible repeat' (first|refine y8 ?_ (by with_unfolding_all rfl)|simp -dsimp only[↓WB,↓W8,WP,newBlk_n,Nat.reduceEqDiff,Nat.reduceAdd,↓e4,↓e3,↓a1,↓a2,dv3,Nat.mul_one]))
  refine OwnP.app O3 (ownS_mono o3 nn) (by omega) (by rw[htl];omega) rfl rfl fun v' h4 O4 X4 _=>?_
  rw[List.take_append_getElem]at O4
  have n4:=X4.n
  simp -dsimp only[↓WB,↓W8,WP,newBlk_n,Nat.reduceEqDiff,Nat.reduceAdd,↓e4,↓e3,↓a1,↓a2]
  exact⟨40-(k+1),by omega,k+1,v',by omega,rfl,X1.trans ((X3.mono nn).trans X4),by simp[T.get_set,wrap_succ (show k≤4611686018427387904 by omega)],by simp[T.get_set],O4⟩
 ·have hkl:k=P.length:=by omega
  subst hkl
  rw[List.take_length]at O
  (with_reducible repeat' (first|refine y2 ?_ (by omega)|simp -dsimp only[↓WB,↓W8,WP,newBlk_n,Nat.reduceEqDiff,Nat.reduceAdd,↓e4,↓e3,↓a1,↓a2,dv]))
  refine st_at (cs':=scrL c (.slice va P.length vc) (.slice aa A.length ac)) V'.get rfl rfl rfl rfl (by decide) ?_
  have V3:=V'.set (cs':=scrL c (.slice va P.length vc) (.slice aa A.length ac))
  have O3:=O.setLow (i:=h.n) (k:=.cells (scrL c (.slice va P.length vc) (.slice aa A.length ac)) 28 true) (by omega)
  have W3:Box { h' with b:=h'.b.set h.n (.cells (scrL c (.slice va P.length vc) (.slice aa A.length ac)) 28 true) } (h.n+1) (scrL zc (.slice none 0 0) (.slice none 0 0)) 28:=(W.ext X1 (by omega)).setOther (by omega)
  have X3:ExtB h.n h' { h' with b:=h'.b.set h.n (.cells (scrL c (.slice va P.length vc) (.slice aa A.length ac)) 28 true) }:=ExtB.set _ (Nat.le_refl _)
  have n3:({ h' with b:=h'.b.set h.n (.cells (scrL c (.slice va P.length vc) (.slice aa A.length ac)) 28 true) }:Heap).n=h'.n:=rfl
  generalize ({ h' with b:=h'.b.set h.n (.cells (scrL c (.slice va P.length vc) (.slice aa A.length ac)) 28 true) }:Heap)=h3 at V3 O3 W3 X3 n3 ⊢
  have ra3:=ra.ext ((XX.trans X3).mono hB)
  have dv3:=V3.scr
  simp -dsimp only[↓WB,↓W8,WP,newBlk_n,Nat.reduceEqDiff,Nat.reduceAdd,↓e4,↓e3,↓a1,↓a2,dv3]
  refine app_ownG (OwnS.nil (B:=h3.n)) (Nat.le_refl _) rfl rfl (by omega) (fun h0=>ra3.first h0) (acts_len A) (acts_one A) (by decide) fun u h4 o4 X4=>?_
  rw[Nat.zero_add,List.nil_append]at o4
  have n4:=X4.n
  obtain⟨ub,uc2,rfl⟩:=ownS_val o4
  have V4:=V3.ext X4 (by omega)
  have W4:=W3.ext X4 (by omega)
  have O4:=O3.ext X4 (Nat.le_refl _)
  simp -dsimp only[↓WB,↓W8,WP,newBlk_n,Nat.reduceEqDiff,Nat.reduceAdd,↓e4,↓e3,↓a1,↓a2]
  refine st_at (cs':=scrL c (.slice va P.length vc) (.slice ub A.length uc2)) V4.get rfl rfl rfl rfl (by decide) ?_
  have V5:=V4.set (cs':=scrL c (.slice va P.length vc) (.slice ub A.length uc2))
  have O5:=O4.setLow (i:=h.n) (k:=.cells (scrL c (.slice va P.length vc) (.slice ub A.length uc2)) 28 true) (by omega)
  have o5:=ownS_setLow (i:=h.n) (k:=.cells (scrL c (.slice va P.length vc) (.slice ub A.length uc2)) 28 true) o4 (by omega)
  have W5:Box { h4 with b:=h4.b.set h.n (.cells (scrL c (.slice va P.length vc) (.slice ub A.length uc2)) 28 true) } (h.n+1) (scrL zc (.slice none 0 0) (.slice none 0 0)) 28:=W4.setOther (by omega)
  have X5:ExtB h.n h4 { h4 with b:=h4.b.set h.n (.cells (scrL c (.slice va P.length vc) (.slice ub A.length uc2)) 28 true) }:=ExtB.set _ (Nat.le_refl _)
  have n5:({ h4 with b:=h4.b.set h.n (.cells (scrL c (.slice va P.length vc) (.slice ub A.length uc2)) 28 true) }:Heap).n=h4.n:=rfl
  generalize ({ h4 with b:=h4.b.set h.n (.cells (scrL c (.slice va P.length vc) (.slice ub A.length uc2)) 28 true) }:Heap)=h5 at V5 O5 o5 W5 X5 n5 ⊢
  have dv5:=V5.scr
  simp -dsimp only[↓WB,↓W8,WP,newBlk_n,Nat.reduceEqDiff,Nat.reduceAdd,↓e4,↓e3,↓a1,↓a2,dv5]
  refine st_at (cs':=scrL c (.slice va P.length vc) (.slice ub A.length uc2)) W5.get rfl rfl rfl rfl (by decide) ?_
  have O6:=O5.setLow (i:=h.n+1) (k:=.cells (scrL c (.slice va P.length vc) (.slice ub A.length uc2)) 28 true) (by omega)
  have o6:=ownS_setLow (i:=h.n+1) (k:=.cells (scrL c (.slice va P.length vc) (.slice ub A.length uc2)) 28 true) o5 (by omega)
  have V6:=W5.set (cs':=scrL c (.slice va P.length vc) (.slice ub A.length uc2))
  have X6:ExtB h.n h5 { h5 with b:=h5.b.set (h.n+1) (.cells (scrL c (.slice va P.length vc) (.slice ub A.length uc2)) 28 true) }:=ExtB.set _ (by omega)
  generalize ({ h5 with b:=h5.b.set (h.n+1) (.cells (scrL c (.slice va P.length vc) (.slice ub A.length uc2)) 28 true) }:Heap)=h6 at V6 O6 o6 X6 ⊢
  have dv6:=V6.scr
  simp -dsimp only[↓WB,↓W8,WP,newBlk_n,Nat.reduceEqDiff,Nat.reduceAdd,↓e4,↓e3,↓a1,↓a2,dv6]
  exact hK _ _ h6 ((((XX.trans X3).trans (X4.mono (by omega))).trans X5).trans X6) (O6.mono (by omega)) (ownS_mono o6 (by omega))
set_option maxRecDepth 100000
theorem same_own {B:Nat}{h:Heap}{e:TypeId}{v:Value}{n k:Nat}{cs:List Value}(o:OwnS B h e v n cs):sameV k v v=true:=by
 cases o with
 | nil=>cases k<;>simp[sameV]
 | emp j hj=>cases k<;>simp[sameV]
 | row j n cs h1 h2 h3=>cases k<;>simp[sameV]
theorem OwnP.same {B:Nat}{h:Heap}{v:Value}{P:List (List UInt8)}{k:Nat}(o:OwnP B h v P):sameV k v v=true:=by
 obtain⟨us,e1,e2,_⟩:=o;exact same_own e2
theorem Box.at_ {h:Heap}{i j:Nat}{cs:List Value}{e:TypeId}{v:Value}(b:Box h i cs e) (hj:cs[j]?=some v):cellAt h ⟨i,j,none⟩=some v:=cellAt_blk b.lt b.get hj
theorem Box.all10 {h:Heap}{i:Nat}{c:Nat→Int}{pv:Value}(b:Box h i (cfgL c pv) 25):cellAt h ⟨i,0,none⟩=some (.int .i64 (c 0))∧cellAt h ⟨i,1,none⟩=some (.int .i64 (c 1))∧cellAt h ⟨i,2,none⟩=some (.int .i64 (c 2))∧cellAt h ⟨i,3,none⟩=some (.int .i64 (c 3))∧cellAt h ⟨i,4,none⟩=some (.int .i64 (c 4))∧cellAt h ⟨i,5,none⟩=some (.int .i64 (c 5))∧cellAt h ⟨i,6,none⟩=some (.int .i64 (c 6))∧cellAt h ⟨i,7,none⟩=some (.int .i64 (c 7))∧cellAt h ⟨i,8,none⟩=some (.int .i64 (c 8))∧cellAt h ⟨i,9,none⟩=some (.int .i64 (c 9)) :=
 ⟨b.at_ rfl,b.at_ rfl,b.at_ rfl,b.at_ rfl,b.at_ rfl,b.at_ rfl,b.at_ rfl,b.at_ rfl,b.at_ rfl,b.at_ rfl⟩
theorem Box.all4 {h:Heap}{i:Nat}{c:Nat→Int}{pv:Value}(b:Box h i (cfgL c pv) 25):cellAt h ⟨i,10,none⟩=some (.int .u64 (c 10))∧cellAt h ⟨i,11,none⟩=some (.int .u64 (c 11))∧cellAt h ⟨i,12,none⟩=some (.int .u64 (c 12))∧cellAt h ⟨i,13,none⟩=some (.int .u64 (c 13)) :=
 ⟨b.at_ rfl,b.at_ rfl,b.at_ rfl,b.at_ rfl⟩
theorem small_ret {c:Nat→Int}{a:Option Addr}{n cc:Nat}{h:Heap}{K:Value→Heap→Prop}
  (hK:∀ j h',ExtB h.n h h'→j<h'.n→(∀ k,k<10→cellAt h' ⟨j,k,none⟩=some (.int .i64 (c k)))→K (.slice (some ⟨j,0,none⟩) 10 10) h'):Ret env (.func 57) [.agg ⟨cfgL c (.slice a n cc)⟩] h K:=by
 refine F57 rfl ?_
 simp only[cfgL]
 (with_reducible repeat' (first|refine y6 ?_ (by with_unfolding_all rfl)|simp -dsimp only[↓WB,↓W57,WP,newBlk_n,Nat.reduceEqDiff,Nat.reduceAdd]))
 refine bs_of (l:=[.int .i64 (c 0),.int .i64 (c 1),.int .i64 (c 2),.int .i64 (c 3),.int .i64 (c 4),.int .i64 (c 5),.int .i64 (c 6),.int .i64 (c 7),.int .i64 (c 8),.int .i64 (c 9)]) ?_ ?_
 ·rfl
 simp -dsimp only[↓WB,↓W57,WP,newBlk_n,Nat.reduceEqDiff,Nat.reduceAdd]
 refine hK _ _ ((ExtB.new _ (Nat.le_refl _)).trans (ExtB.new _ (Nat.le_succ _))) (Nat.lt_succ_self _) fun k hk=>?_
 refine(cellAt_newE (h:=newBlk h _)).trans ?_
 rcases k with _|_|_|_|_|_|_|_|_|_|k<;>first|rfl|omega
theorem great_ret {c:Nat→Int}{a:Option Addr}{n cc:Nat}{h:Heap}{K:Value→Heap→Prop}
  (hK:∀ j h',ExtB h.n h h'→j<h'.n→(∀ k,k<4→cellAt h' ⟨j,k,none⟩=some (.int .u64 (c (10+k))))→K (.slice (some ⟨j,0,none⟩) 4 4) h'):Ret env (.func 58) [.agg ⟨cfgL c (.slice a n cc)⟩] h K:=by
 refine F58 rfl ?_
 simp only[cfgL]
 (with_reducible repeat' (first|refine y6 ?_ (by with_unfolding_all rfl)|simp -dsimp only[↓WB,↓W58,WP,newBlk_n,Nat.reduceEqDiff,Nat.reduceAdd]))
 refine bs_of (l:=[.int .u64 (c 10),.int .u64 (c 11),.int .u64 (c 12),.int .u64 (c 13)]) ?_ ?_
 ·rfl
 simp -dsimp only[↓WB,↓W58,WP,newBlk_n,Nat.reduceEqDiff,Nat.reduceAdd]
 refine hK _ _ ((ExtB.new _ (Nat.le_refl _)).trans (ExtB.new _ (Nat.le_succ _))) (Nat.lt_succ_self _) fun k hk=>?_
 refine(cellAt_newE (h:=newBlk h _)).trans ?_
 rcases k with _|_|_|_|k<;>first|rfl|omega
end Go.Proofs.YtohjaacnlmkhbaaGreatDoor
