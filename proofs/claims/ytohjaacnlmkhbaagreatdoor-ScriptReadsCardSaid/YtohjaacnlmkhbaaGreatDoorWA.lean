/- SCRIPTS AS THEY ARE READ; copies of rows; how much there is. Conditions: none beyond each theorem's own. -/
import Derived.Test.YtohjaacnlmkhbaaGreatDoorKT
import Derived.Test.YtohjaacnlmkhbaaGreatDoorKW
set_option linter.unusedSimpArgs false
set_option linter.unusedVariables false
namespace Go.Proofs.YtohjaacnlmkhbaaGreatDoor
open Go.Ev
set_option maxRecDepth 1000000
set_option maxHeartbeats 400000
structure ba where
 k:Int
 p:Int
 v:Int
 c:Int
deriving DecidableEq
def ba.cells (x:ba):List Value:=[.int .i64 x.k,.int .i64 x.p,.int .i64 x.v,.int .i64 x.c]
def nu (B:Nat) (h:Heap) (v:Value) (l:List UInt8):Prop :=
 ∃ a c,v=.slice a l.length c∧(l≠[]→∃ i o,a=some ⟨i,o,none⟩∧i<B∧ax h ⟨i,o,none⟩ l.length=some (l.map aw))
def qk (B:Nat) (h:Heap) (v:Value) (P:List (List UInt8)):Prop :=
 ∃ a c,v=.slice a P.length c∧∀ (k:Nat) l,P[k]?=some l→∃ i o u,a=some ⟨i,o,none⟩∧i<B∧cellAt h ⟨i,o+k,none⟩=some u∧nu B h u l
def qg (B:Nat) (h:Heap) (v:Value) (A:List ba):Prop:=∃ a c,v=.slice a A.length c∧oc B h a 4 (A.map ba.cells)
theorem nu.ext {B:Nat}{h h':Heap}{v:Value}{l:List UInt8}(r:nu B h v l) (x:ai B h h'):nu B h' v l:=by obtain⟨a,c,e,q⟩:=r;exact⟨a,c,e,fun hl=>let ⟨i,o,e1,e2,e3⟩:=q hl;⟨i,o,e1,e2,cJ x e2 e3⟩⟩
theorem nu.mono {B B':Nat}{h:Heap}{v:Value}{l:List UInt8}(r:nu B h v l) (hb:B≤B'):nu B' h v l:=by obtain⟨a,c,e,q⟩:=r;exact⟨a,c,e,fun hl=>let ⟨i,o,e1,e2,e3⟩:=q hl;⟨i,o,e1,by omega,e3⟩⟩
theorem qk.ext {B:Nat}{h h':Heap}{v:Value}{l:List (List UInt8)}(r:qk B h v l) (x:ai B h h'):qk B h' v l:=by obtain⟨a,c,e,q⟩:=r;exact⟨a,c,e,fun k y hy=>let ⟨i,o,u,e1,e2,e3,e4⟩:=q k y hy;⟨i,o,u,e1,e2,aI x e2 e3,e4.ext x⟩⟩
theorem qk.mono {B B':Nat}{h:Heap}{v:Value}{l:List (List UInt8)}(r:qk B h v l) (hb:B≤B'):qk B' h v l:=by obtain⟨a,c,e,q⟩:=r;exact⟨a,c,e,fun k y hy=>let ⟨i,o,u,e1,e2,e3,e4⟩:=q k y hy;⟨i,o,u,e1,by omega,e3,e4.mono hb⟩⟩
theorem qg.ext {B:Nat}{h h':Heap}{v:Value}{l:List ba}(r:qg B h v l) (x:ai B h h'):qg B h' v l:=by obtain⟨a,c,e,q⟩:=r;exact⟨a,c,e,q.ext x⟩
theorem qg.mono {B B':Nat}{h:Heap}{v:Value}{l:List ba}(r:qg B h v l) (hb:B≤B'):qg B' h v l:=by obtain⟨a,c,e,q⟩:=r;exact⟨a,c,e,q.mono hb⟩
theorem sW (l:List UInt8):(l.map aw).all aF=true:=by simp[List.all_eq_true,aw,aF]
theorem nu.own {B:Nat}{h:Heap}{v:Value}{l:List UInt8}(o:bn B h 5 v l.length (l.map aw)):nu h.n h v l:=by
 generalize hc:l.map aw=cs at o;generalize hn:l.length=n at o;cases o with
 | nil=>exact⟨_,_,by rw[hn],fun hl=>absurd (List.length_eq_zero_iff.1 hn) hl⟩
 | emp i hi=>exact⟨_,_,by rw[hn],fun hl=>absurd (List.length_eq_zero_iff.1 hn) hl⟩
 | row i n cs h1 h2 h3=>exact⟨_,_,by rw[hn],fun hl=>⟨i,0,rfl,h2,aJ h2 h3 (by rw[← hc,← List.length_map (f:=aw),List.drop_zero,List.take_length]) (by simp)⟩⟩
theorem nu.first {B:Nat}{h:Heap}{v:Value}{l:List UInt8}(r:nu B h v l) (h0:l.length≠0):firstCells h 1 l.length v=some (l.map aw):=by obtain⟨a,c,rfl,q⟩:=r;obtain⟨i,o,rfl,_,q⟩:=q fun e=>h0 (by rw[e];rfl);simp only[firstCells,Nat.mul_one];exact q
theorem qQ (A:List ba):(A.map ba.cells).flatten.length=A.length*4:=by rw[BU (sz:=4) _ (by simp[ba.cells])];simp
theorem qg.own {B:Nat}{h:Heap}{v:Value}{A:List ba}(o:bn B h 35 v A.length (A.map ba.cells).flatten):qg h.n h v A:=by obtain⟨a,c,e,r⟩:=bn.rowAt (sz:=4) o (by simp[ba.cells]) (by simp);rw[List.length_map]at e;exact⟨a,c,e,r⟩
def br (c:Nat→Int) (pv:Value):List Value:=[.int .i64 (c 0),.int .i64 (c 1),.int .i64 (c 2),.int .i64 (c 3),.int .i64 (c 4),.int .i64 (c 5),.int .i64 (c 6),.int .i64 (c 7),.int .i64 (c 8),.int .i64 (c 9),.int .u64 (c 10),.int .u64 (c 11),.int .u64 (c 12),.int .u64 (c 13),pv]
def aV (c:Nat→Int) (pv av:Value):List Value:=br c pv++[av]
structure dm (h:Heap) (i:Nat) (cs:List Value) (e:TypeId):Prop where
 lt:i<h.n
 get:h.b.get i=some (.cells cs e true)
theorem dm.new (h:Heap) (cs:List Value) (e:TypeId):dm (af h (.cells cs e true)) h.n cs e:=⟨Nat.lt_succ_self _,aC _ _⟩
theorem dm.ext {B:Nat}{h h':Heap}{i:Nat}{cs:List Value}{e:TypeId}(b:dm h i cs e) (x:ai B h h') (hi:i<B):dm h' i cs e:=⟨Nat.lt_of_lt_of_le b.lt x.n,by rw[x.get i hi];exact b.get⟩
theorem dm.cfg {h:Heap}{i:Nat}{c:Nat→Int}{pv:Value}(b:dm h i (br c pv) 25):ax h ⟨i,0,none⟩ 15=some (br c pv)∧cellAt h ⟨i,14,none⟩=some pv:=⟨aJ b.lt b.get rfl rfl,bQ b.lt b.get rfl⟩
theorem dm.kW {h:Heap}{i:Nat}{c:Nat→Int}{pv av:Value}(b:dm h i (aV c pv av) 28):ax h ⟨i,0,none⟩ 16=some (aV c pv av)∧ax h ⟨i,0,none⟩ 15=some (br c pv)∧cellAt h ⟨i,14,none⟩=some pv∧cellAt h ⟨i,15,none⟩=some av :=
 ⟨aJ b.lt b.get rfl rfl,aJ b.lt b.get rfl rfl,bQ b.lt b.get rfl,bQ b.lt b.get rfl⟩
theorem kZ {c:Nat→Int}{a:Option Addr}{n cc:Nat}:(br c (.slice a n cc)).all aF=true:=rfl
theorem jm {c:Nat→Int}{a a':Option Addr}{n cc n' cc':Nat}:(aV c (.slice a n cc) (.slice a' n' cc')).all aF=true:=rfl
theorem qk.at_ {B:Nat}{h:Heap}{a:Option Addr}{n c:Nat}{P:List (List UInt8)}(r:qk B h (.slice a n c) P) {k:Nat}(hk:k<P.length) :
  ∃ i o ua uc,a=some ⟨i,o,none⟩∧i<B∧cellAt h ⟨i,o+k,none⟩=some (.slice ua P[k].length uc)∧nu B h (.slice ua P[k].length uc) P[k]:=by
 obtain⟨a',c',e,q⟩:=r
 cases e
 obtain⟨i,o,u,e1,hi,hc,hb⟩:=q k _ (List.getElem?_eq_getElem hk)
 obtain⟨ua,uc,rfl,_⟩:=id hb
 exact⟨i,o,ua,uc,e1,hi,hc,hb⟩
theorem fu {B i:Nat}{h:Heap}{e:TypeId}{v:Value}{n:Nat}{cs:List Value}{k:fa}(o:bn B h e v n cs) (hi:i<B):bn B { h with b:=h.b.set i k } e v n cs:=by
 cases o with
 | nil=>exact .nil
 | emp j hj=>exact .emp j hj
 | row j n cs h1 h2 h3=>exact .row j n cs h1 h2 (by show T.get (T.set h.b i k) j=_;rw[T.ar _ _ (by omega)];exact h3)
theorem uz {B B0:Nat}{h h':Heap}{e e':TypeId}{v s:Value}{n m:Nat}{cs ds:List Value}(o:bn B h e' v n cs) (os:bn B0 h e s m ds) (hne:e≠e') (h0:m=0→s=.slice none 0 0) (hn:h.n≤h'.n) (hf:∀ j,j<h.n→yg s j→h'.b.get j=h.b.get j):bn B h' e' v n cs:=by
 cases o with
 | nil=>exact .nil
 | emp j hj=>exact .emp j (by omega)
 | row j n cs h1 h2 h3 =>
   refine .row j n cs h1 (by omega) ?_
   rw[hf j h2 ?_,h3]
   intro a n' c' e1 e2
   cases os with
   | nil=>cases e1
   | emp i hi=>exact absurd (h0 rfl) (by simp)
   | row i n2 cs2 g1 g2 g3 =>
     cases e1
     simp only at e2
     subst e2
     rw[h3]at g3
     simp only[Option.some.injEq,fa.cells.injEq]at g3
     exact hne g3.2.1.symm
theorem qz {B i:Nat}{h:Heap}{e:TypeId}{s:Value}{n:Nat}{cs:List Value}(o:bn B h e s n cs) (h0:n=0→s=.slice none 0 0) (hi:i<B):yg s i:=by
 intro a n' c' e1 e2;cases o with
 | nil=>cases e1
 | emp j hj=>exact absurd (h0 rfl) (by simp)
 | row j n cs g1 g2 g3=>cases e1;simp only at e2;omega
theorem dm.set {h:Heap}{i:Nat}{cs cs':List Value}{e:TypeId}(b:dm h i cs e):dm { h with b:=h.b.set i (.cells cs' e true) } i cs' e:=⟨b.lt,T.get_set_same _ _ _⟩
def iS (B:Nat) (h:Heap) (v:Value) (P:List (List UInt8)):Prop :=
 ∃ us:List Value,us.length=P.length∧bn B h 36 v P.length us∧(P.length=0→v=.slice none 0 0)∧∀ (k:Nat) u l,us[k]?=some u→P[k]?=some l→bn B h 5 u l.length (l.map aw)
theorem iS.nil (B:Nat) (h:Heap):iS B h (.slice none 0 0) []:=⟨[],rfl,.nil,fun _=>rfl,fun k u l e=>by simp at e⟩
theorem iS.Ao {B i:Nat}{h:Heap}{v:Value}{P:List (List UInt8)}{k:fa}(o:iS B h v P) (hi:i<B):iS B { h with b:=h.b.set i k } v P:=by obtain⟨us,e1,e2,e3,e4⟩:=o;exact⟨us,e1,fu e2 hi,e3,fun k u l h1 h2=>fu (e4 k u l h1 h2) hi⟩
theorem iS.ext {B B':Nat}{h h':Heap}{v:Value}{P:List (List UInt8)}(o:iS B h v P) (x:ai B' h h') (hB:h.n≤B'):iS B h' v P:=by obtain⟨us,e1,e2,e3,e4⟩:=o;exact⟨us,e1,e2.ext x hB,e3,fun k u l h1 h2=>(e4 k u l h1 h2).ext x hB⟩
theorem iS.rd {B:Nat}{h:Heap}{v:Value}{P:List (List UInt8)}(o:iS B h v P):qk h.n h v P:=by
 obtain⟨us,e1,e2,e3,e4⟩:=o;generalize hn:P.length=n at e2 e1;cases e2 with
 | nil=>exact⟨_,_,by rw[hn],fun k l e=>by have:=(List.getElem?_eq_some_iff.1 e).1;omega⟩
 | emp i hi=>exact⟨_,_,by rw[hn],fun k l e=>by have:=(List.getElem?_eq_some_iff.1 e).1;omega⟩
 | row i n us g1 g2 g3 =>
   refine⟨_,_,by rw[hn],fun k l e=>?_⟩
   have hk:=(List.getElem?_eq_some_iff.1 e).1
   have hu:us[k]?=some (us[k]'(by omega)):=List.getElem?_eq_getElem _
   exact⟨i,0,_,rfl,g2,bQ g2 g3 (by rw[Nat.zero_add];exact hu),nu.own (e4 k _ l hu e)⟩
theorem iS.val {B:Nat}{h:Heap}{v:Value}{P:List (List UInt8)}(o:iS B h v P):∃ a c,v=.slice a P.length c:=by obtain⟨a,c,e,_⟩:=o.rd;exact⟨a,c,e⟩
theorem dQ {B:Nat}{e:TypeId}{sz n j:Nat}{s:Value}{cs new:List Value}{h1:Heap}{K:Value→Heap→Prop}(o:bn B h1 e s n cs) (hB:B≤h1.n) (hlen:cs.length=n*sz) (hsz:n+1≤1000000)
  (hnl:new.length=sz) (hone:new.all aF=true) (hpos:sz≠0) (hj:j=h1.n)
  (k:∀ v' h',bn B h' e v' (n+1) (cs++new)→ai B h1 h'→h1.n+1≤h'.n→(∀ j,j<h1.n→yg s j→h'.b.get j=h1.b.get j)→K v' h'):jN e sz s (.slice (some ⟨j,0,none⟩) 1 1) (af h1 (.cells new e true)) K:=by
 subst hj
 refine ve (o.new _) (Nat.le_trans hB (Nat.le_succ _)) hlen (m:=1) rfl (by decide) hsz (new:=new) ?_ (by omega) hone hpos fun v' h' o' x' f'=>k v' h' o' ((ai.new _ hB).trans x') x'.n fun j hj hno=>by rw[f' j (Nat.lt_succ_of_lt hj) hno,fB _ hj]
 simp only[firstCells,Nat.one_mul]
 exact bA hnl
theorem iS.app {B j:Nat}{h:Heap}{v u:Value}{P:List (List UInt8)}{l:List UInt8}{K:Value→Heap→Prop}(o:iS B h v P) (ou:bn B h 5 u l.length (l.map aw)) (hB:B≤h.n) (hP:P.length+1≤1000000) (hone:aF u=true) (hj:j=h.n)
  (k:∀ v' h',iS B h' v' (P++[l])→ai B h h'→h.n+1≤h'.n→K v' h'):jN 36 1 v (.slice (some ⟨j,0,none⟩) 1 1) (af h (.cells [u] 36 true)) K:=by
 obtain⟨us,e1,e2,e3,e4⟩:=o
 refine dQ e2 hB (by rw[Nat.mul_one];exact e1) hP rfl (by simp[hone]) (by decide) hj fun v' h' o' x xn f=>k v' h' ⟨us++[u],by simp[e1],by simpa using o',fun h0=>by simp at h0,fun i w m h1 h2=>?_⟩ x xn
 rw[List.getElem?_append]at h1 h2
 have nn:=x.n
 by_cases hi:i<us.length
 ·rw[if_pos hi]at h1;rw[if_pos (by omega)]at h2;exact uz (e4 i w m h1 h2) e2 (by decide) e3 nn f
 ·rw[if_neg hi]at h1;rw[if_neg (by omega)]at h2;have hz:i-us.length=0:=by
   rcases Nat.eq_zero_or_pos (i-us.length) with h0|h0;·exact h0
   ·rw[List.getElem?_eq_none (by simp;omega)]at h1;cases h1
  rw[hz]at h1;rw[show i-P.length=0 by omega]at h2;cases h1;cases h2;exact uz ou e2 (by decide) e3 nn f
theorem yD {B B':Nat}{h:Heap}{e:TypeId}{v:Value}{n:Nat}{cs:List Value}(o:bn B' h e v n cs) (hb:B≤B'):bn B h e v n cs:=by
 cases o with
 | nil=>exact .nil
 | emp j hj=>exact .emp j hj
 | row j n cs h1 h2 h3=>exact .row j n cs (by omega) h2 h3
theorem gm {B:Nat}{h:Heap}{e:TypeId}{v:Value}{n:Nat}{cs:List Value}(o:bn B h e v n cs):∃ a c,v=.slice a n c:=by
 cases o with
 | nil=>exact⟨_,_,rfl⟩
 | emp j hj=>exact⟨_,_,rfl⟩
 | row j n cs h1 h2 h3=>exact⟨_,_,rfl⟩
theorem dm.setOther {h:Heap}{i j:Nat}{cs:List Value}{e:TypeId}{k:fa}(b:dm h i cs e) (hj:j≠i):dm { h with b:=h.b.set j k } i cs e:=⟨b.lt,by show T.get (T.set h.b j k) i=_;rw[T.ar _ _ hj];exact b.get⟩
def zc:Nat→Int:=fun _=>0
set_option maxRecDepth 100000
theorem rB {B:Nat}{h:Heap}{e:TypeId}{v:Value}{n k:Nat}{cs:List Value}(o:bn B h e v n cs):aW k v v=true:=by
 cases o with
 | nil=>cases k<;>simp[aW]
 | emp j hj=>cases k<;>simp[aW]
 | row j n cs h1 h2 h3=>cases k<;>simp[aW]
theorem iS.same {B:Nat}{h:Heap}{v:Value}{P:List (List UInt8)}{k:Nat}(o:iS B h v P):aW k v v=true:=by obtain⟨us,e1,e2,_⟩:=o;exact rB e2
theorem dm.at_ {h:Heap}{i j:Nat}{cs:List Value}{e:TypeId}{v:Value}(b:dm h i cs e) (hj:cs[j]?=some v):cellAt h ⟨i,j,none⟩=some v:=bQ b.lt b.get hj
theorem dm.BY {h:Heap}{i:Nat}{c:Nat→Int}{pv:Value}(b:dm h i (br c pv) 25):cellAt h ⟨i,0,none⟩=some (.int .i64 (c 0))∧cellAt h ⟨i,1,none⟩=some (.int .i64 (c 1))∧cellAt h ⟨i,2,none⟩=some (.int .i64 (c 2))∧cellAt h ⟨i,3,none⟩=some (.int .i64 (c 3))∧cellAt h ⟨i,4,none⟩=some (.int .i64 (c 4))∧cellAt h ⟨i,5,none⟩=some (.int .i64 (c 5))∧cellAt h ⟨i,6,none⟩=some (.int .i64 (c 6))∧cellAt h ⟨i,7,none⟩=some (.int .i64 (c 7))∧cellAt h ⟨i,8,none⟩=some (.int .i64 (c 8))∧cellAt h ⟨i,9,none⟩=some (.int .i64 (c 9)) :=
 ⟨b.at_ rfl,b.at_ rfl,b.at_ rfl,b.at_ rfl,b.at_ rfl,b.at_ rfl,b.at_ rfl,b.at_ rfl,b.at_ rfl,b.at_ rfl⟩
theorem dm.QG {h:Heap}{i:Nat}{c:Nat→Int}{pv:Value}(b:dm h i (br c pv) 25):cellAt h ⟨i,10,none⟩=some (.int .u64 (c 10))∧cellAt h ⟨i,11,none⟩=some (.int .u64 (c 11))∧cellAt h ⟨i,12,none⟩=some (.int .u64 (c 12))∧cellAt h ⟨i,13,none⟩=some (.int .u64 (c 13)) :=
 ⟨b.at_ rfl,b.at_ rfl,b.at_ rfl,b.at_ rfl⟩
theorem sZ {c:Nat→Int}{a:Option Addr}{n cc:Nat}{h:Heap}{K:Value→Heap→Prop}
  (hK:∀ j h',ai h.n h h'→j<h'.n→(∀ k,k<10→cellAt h' ⟨j,k,none⟩=some (.int .i64 (c k)))→K (.slice (some ⟨j,0,none⟩) 10 10) h'):bT env (.func 57) [.agg ⟨br c (.slice a n cc)⟩] h K:=by
 refine F57 rfl ?_
 simp only[br]
 (with_reducible repeat' (first|refine y6 ?_|simp -dsimp only[↓WB,↓W57,WP,ae,Nat.reduceEqDiff,Nat.reduceAdd]))
 refine lf (l:=[.int .i64 (c 0),.int .i64 (c 1),.int .i64 (c 2),.int .i64 (c 3),.int .i64 (c 4),.int .i64 (c 5),.int .i64 (c 6),.int .i64 (c 7),.int .i64 (c 8),.int .i64 (c 9)]) ?_ ?_
 ·rfl
 simp -dsimp only[↓WB,↓W57,WP,ae,Nat.reduceEqDiff,Nat.reduceAdd]
 refine hK _ _ ((ai.new _ (Nat.le_refl _)).trans (ai.new _ (Nat.le_succ _))) (Nat.lt_succ_self _) fun k hk=>?_
 refine(bB (h:=af h _)).trans ?_
 rcases k with _|_|_|_|_|_|_|_|_|_|k<;>first|rfl|omega
theorem sw {c:Nat→Int}{a:Option Addr}{n cc:Nat}{h:Heap}{K:Value→Heap→Prop}
  (hK:∀ j h',ai h.n h h'→j<h'.n→(∀ k,k<4→cellAt h' ⟨j,k,none⟩=some (.int .u64 (c (10+k))))→K (.slice (some ⟨j,0,none⟩) 4 4) h'):bT env (.func 58) [.agg ⟨br c (.slice a n cc)⟩] h K:=by
 refine F58 rfl ?_
 simp only[br]
 (with_reducible repeat' (first|refine y6 ?_|simp -dsimp only[↓WB,↓W58,WP,ae,Nat.reduceEqDiff,Nat.reduceAdd]))
 refine lf (l:=[.int .u64 (c 10),.int .u64 (c 11),.int .u64 (c 12),.int .u64 (c 13)]) ?_ ?_
 ·rfl
 simp -dsimp only[↓WB,↓W58,WP,ae,Nat.reduceEqDiff,Nat.reduceAdd]
 refine hK _ _ ((ai.new _ (Nat.le_refl _)).trans (ai.new _ (Nat.le_succ _))) (Nat.lt_succ_self _) fun k hk=>?_
 refine(bB (h:=af h _)).trans ?_
 rcases k with _|_|_|_|k<;>first|rfl|omega
end Go.Proofs.YtohjaacnlmkhbaaGreatDoor
