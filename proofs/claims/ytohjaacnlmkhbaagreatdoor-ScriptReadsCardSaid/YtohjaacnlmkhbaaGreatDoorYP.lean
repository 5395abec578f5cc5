/- PROGRAMS' TEXTS, the program's side, walked. Conditions: none beyond each theorem's own. -/
import Derived.Test.YtohjaacnlmkhbaaGreatDoorYC
import Derived.Test.YtohjaacnlmkhbaaGreatDoorZF
import Derived.Test.YtohjaacnlmkhbaaGreatDoorKT
import Derived.Test.YtohjaacnlmkhbaaGreatDoorKU
import Derived.Test.YtohjaacnlmkhbaaGreatDoorWG
set_option linter.unusedSimpArgs false
set_option linter.unusedVariables false
namespace Go.Proofs.YtohjaacnlmkhbaaGreatDoor
open Go.Ev
set_option maxRecDepth 100000
def dF (o:Nat):List UInt8×List UInt8×Bool :=
 if o=0 then ([110,111,112],[],true)
 else if o=1 then ([99,111,110,115,116],[97,110],true)
 else if o=2 then ([97,100,100],[97,98,99],true)
 else if o=3 then ([115,117,98],[97,98,99],true)
 else if o=4 then ([109,117,108],[97,98,99],true)
 else if o=5 then ([106,117,109,112],[100],true)
 else if o=6 then ([122,101,114,111],[97,100],true)
 else if o=7 then ([99,111,100,101],[97],true)
 else if 17≤o∧o≤38 then ([99,97,108,108],[107],true)
 else ([],[],false)
theorem eM (o:Nat):(o=0∧dF o=([110,111,112],[],true))∨(o=1∧dF o=([99,111,110,115,116],[97,110],true))∨(o=2∧dF o=([97,100,100],[97,98,99],true))∨(o=3∧dF o=([115,117,98],[97,98,99],true))∨(o=4∧dF o=([109,117,108],[97,98,99],true)) ∨
  (o=5∧dF o=([106,117,109,112],[100],true))∨(o=6∧dF o=([122,101,114,111],[97,100],true))∨(o=7∧dF o=([99,111,100,101],[97],true))∨((17≤o∧o≤38)∧dF o=([99,97,108,108],[107],true))∨((7<o∧¬(17≤o∧o≤38))∧dF o=([],[],false)):=by
 unfold dF
 by_cases h0:o=0
 ·subst h0;simp
 by_cases h1:o=1
 ·subst h1;simp
 by_cases h2:o=2
 ·subst h2;simp
 by_cases h3:o=3
 ·subst h3;simp
 by_cases h4:o=4
 ·subst h4;simp
 by_cases h5:o=5
 ·subst h5;simp
 by_cases h6:o=6
 ·subst h6;simp
 by_cases h7:o=7
 ·subst h7;simp
 by_cases hc:17≤o∧o≤38
 ·simp only[h0,h1,h2,h3,h4,h5,h6,h7,if_false,if_pos hc];exact .inr (.inr (.inr (.inr (.inr (.inr (.inr (.inr (.inl ⟨hc,trivial⟩))))))))
 ·simp only[h0,h1,h2,h3,h4,h5,h6,h7,if_false,if_neg hc];exact .inr (.inr (.inr (.inr (.inr (.inr (.inr (.inr (.inr ⟨⟨by omega,hc⟩,trivial⟩))))))))
theorem tf (o:Nat):∀ ch∈(dF o).2.1,ch=97∨ch=98∨ch=99∨ch=110∨ch=100∨ch=107:=by rcases eM o with ⟨_,e⟩|⟨_,e⟩|⟨_,e⟩|⟨_,e⟩|⟨_,e⟩|⟨_,e⟩|⟨_,e⟩|⟨_,e⟩|⟨_,e⟩|⟨_,e⟩<;>rw[e]<;>decide
def EB (a b c ch:UInt8):UInt8:=if ch=97 then a else if ch=98 then b else if ch=99 then c else 0
def bS (n:Nat):Int:=if 32767<n then (n:Int)-65536 else n
def gV (o a b c ch:UInt8):Int :=
 if ch=97 then a.toNat else if ch=98 then b.toNat else if ch=99 then c.toNat else if ch=110 then (256*b.toNat+c.toNat:Nat) else if ch=100 then bS (256*b.toNat+c.toNat) else if ch=107 then ((o-16).toNat:Nat) else 0
def eE (o a b c:UInt8):Bool:=(dF o.toNat).2.2&&(dF o.toNat).2.1.all fun ch=>decide ((EB a b c ch).toNat<8)
def eF (a b c:UInt8) (s:UInt8×UInt8×UInt8) (ch:UInt8):UInt8×UInt8×UInt8 :=
 if ch=97 then (a,s.2.1,s.2.2) else if ch=98 then (s.1,b,s.2.2) else if ch=99 then (s.1,s.2.1,c) else if ch=110∨ch=100 then (s.1,b,c) else s
def bR (l:List UInt8) (a b c:UInt8):UInt8×UInt8×UInt8:=l.foldl (eF a b c) (0,0,0)
theorem wT {l:List UInt8}{a b c:UInt8}{j:Nat}(hj:j<l.length):bR (l.take (j+1)) a b c=eF a b c (bR (l.take j) a b c) l[j]:=by unfold bR;rw[← List.take_append_getElem hj,List.foldl_append];rfl
def bZ (o a b c:UInt8):Bool:=decide (bR (dF o.toNat).2.1 a b c=(a,b,c))
def e_ (o a b c:UInt8):List UInt8:=(dF o.toNat).1++(dF o.toNat).2.1.flatMap fun ch=>32::Lib.itoa (gV o a b c ch)
def cW (n:UInt8):UInt8:=if n<10 then 48+n else 87+n
def lH (w:List UInt8):List UInt8:=[114,97,119,32]++w.flatMap fun x=>[cW (x / 16),cW (x%16)]
def fk (w:List UInt8):List UInt8:=match w with
 | [o,a,b,c]=>if eE o a b c&&bZ o a b c then e_ o a b c else lH w
 | _=>lH w
def chunk (p:List UInt8) (k:Nat):List UInt8:=(p.drop (4*k)).take 4
def bp (p:List UInt8):List (List UInt8):=(List.range ((p.length+3) / 4)).map fun k=>fk (chunk p k)
def cL (l:List UInt8):List UInt8:=l++[10]
def c_ (p:List UInt8):List UInt8:=(bp p).flatMap cL
def uM (k p v c:Int):List UInt8:=if k=2 then [99,108,111,99,107] else [114,117,110,32]++Lib.itoa p++[32]++Lib.itoa v++[32]++Lib.itoa c
def aM:List (List UInt8):=[[112,115],[114,105,110,103],[103,115],[99,111,110,116,101,120,116,115],[100,111,109,97,105,110,115],[110,111,100,101,115],[115,108,111,116,115],[114,101,102,105,108,108,115],[97,117,100,105,116],[115,108,105,99,101],[99,112,117],[112,101,114,105,111,100],[98,117,100,103,101,116],[101,97,99,104]]
theorem IU:iH=aM.map aq:=rfl
def dh (c:Nat→Int) (k:Nat):List UInt8:=aM.getD k []++[32]++Lib.itoa (c k)
def ym (p:List UInt8):List UInt8:=[112,114,111,103,114,97,109,10]++(bp p).flatMap fun l=>32::cL l
def cU (c:Nat→Int) (P:List (List UInt8)) (A:List ba):List UInt8 :=
 (List.range 14).flatMap (fun k=>cL (dh c k))++P.flatMap ym++A.flatMap fun a=>cL (uM a.k a.p a.v a.c)
theorem fq (p:List UInt8) (k:Nat):(chunk p k).length=min 4 (p.length-4*k):=by simp[chunk]
end Go.Proofs.YtohjaacnlmkhbaaGreatDoor
namespace Go.Proofs.YtohjaacnlmkhbaaGreatDoor.Qq
open Go.Ev
set_option maxRecDepth 100000
set_option maxHeartbeats 400000
def fD (o a b c:UInt8):Value:=.agg ⟨[.int .u8 (o.toNat:Int),.int .u8 (a.toNat:Int),.int .u8 (b.toNat:Int),.int .u8 (c.toNat:Int)]⟩
theorem Wq {b c:Nat}(hb:b<256) (hc:c<256):IntKind.wrap .i64 ((BitVec.ofInt IntKind.i64.bits ((b*256:Nat):Int) ||| BitVec.ofInt IntKind.i64.bits ((c:Nat):Int)).toNat:Int)=((256*b+c:Nat):Int):=by
 have h1:(BitVec.ofInt IntKind.i64.bits ((b*256:Nat):Int) ||| BitVec.ofInt IntKind.i64.bits ((c:Nat):Int)).toNat=256*b+c:=by
  rw[BitVec.toNat_or];show (BitVec.ofInt 64 ((b*256:Nat):Int)).toNat ||| (BitVec.ofInt 64 ((c:Nat):Int)).toNat=_
  rw[BitVec.ofInt_natCast,BitVec.ofInt_natCast,BitVec.toNat_ofNat,BitVec.toNat_ofNat,Nat.mod_eq_of_lt (by omega),Nat.mod_eq_of_lt (by omega)];have:=Nat.shiftLeft_add_eq_or_of_lt (a:=b) (b:=c) (i:=8) (by simpa using hc);rw[Nat.shiftLeft_eq]at this;have h2:b*2 ^ 8=b*256:=rfl;rw[h2]at this;omega
 rw[h1];exact wrap_i64 (by omega) (by omega)
theorem mI {o a b c:UInt8}{h:Heap}{K:Value→Heap→Prop}(hK:∀ h',K (.int .i64 ((256*b.toNat+c.toNat:Nat):Int)) h'):bT env (.func 96) [fD o a b c] h K:=by
 have hb:=b.toNat_lt;have hc:=c.toNat_lt;have w1:IntKind.wrap .i64 (b.toNat:Int)=((b.toNat:Nat):Int):=wrap_i64 (by omega) (by omega);have w2:IntKind.wrap .i64 (c.toNat:Int)=((c.toNat:Nat):Int):=wrap_i64 (by omega) (by omega);have w3:IntKind.wrap .i64 ((b.toNat:Int)*2 ^ min (Int.toNat 8) IntKind.i64.bits)=((b.toNat*256:Nat):Int):=by
  have:(2:Int) ^ min (Int.toNat 8) IntKind.i64.bits=256:=by decide
  rw[this,wrap_i64 (by omega) (by omega)];omega
 have w4:=Wq hb hc;refine F96 rfl ?_;unfold fD;repeat' (first|done|((with_reducible refine uA ?_ ?_);(· omega))|((with_reducible refine Ai ?_ ?_);(· omega))|(with_reducible refine nA (fun _=>?_) (fun _=>?_))|((with_reducible refine And.intro (And.intro ?_ ?_) ?_);(· omega);(· omega))|((with_reducible refine And.intro ?_ ?_);(· omega))|(with_reducible refine And.intro (show List.all _ aF=true from rfl) ?_)|((with_reducible refine q_ ?_ ?_);(· rfl))|((with_reducible refine uo ?_ ?_);(· rfl))|(with_reducible refine Hs (by with_unfolding_all (simp only[mB,oR,bK,blt_eq,aD,over,Value.cells,List.getElem?_cons_zero,List.getElem?_cons_succ,List.length_cons,List.length_nil,Nat.reduceAdd,Nat.reduceSub,Nat.reduceLT,Nat.reduceEqDiff,decide_true,cond_true,Option.map_some,if_true,if_false,Nat.add_one_sub_one,Nat.succ_ne_zero,reduceCtorEq,OfNat.ofNat];rfl)) ?_)|(with_reducible refine AH (by with_unfolding_all rfl) ?_)|(simp -dsimp only[↓EI,↓Fa,↓DX,↓lg,↓oW,↓Ax,↓qO,↓Am,↓q9,↓AF,↓mX,↓Hg,↓Gi,↓Cb,↓zI,↓vT,↓oF,↓pU,↓zV,↓AV,↓wy,↓Of,↓ld_5,↓Fq,↓LH,↓SL,↓RE,↓SK,↓Rf,bB,List.getElem?_cons_zero,List.getElem?_cons_succ,aU,ne_eq,Nat.reduceEqDiff,Nat.reduceAdd,not_false_eq_true,Addr.add_lit,w1,w2,w3,↓Fj,w4]))
 exact hK _
def vw (n:Nat):Int:=if 32767<n then (n:Int)-65536 else n
theorem PE {o a b c:UInt8}{h:Heap}{K:Value→Heap→Prop}(hK:∀ h',K (.int .i64 (vw (256*b.toNat+c.toNat))) h'):bT env (.func 97) [fD o a b c] h K:=by
 have hb:=b.toNat_lt;have hc:=c.toNat_lt;refine F97 rfl ?_;unfold fD;repeat' (first|done|((with_reducible refine uA ?_ ?_);(· omega))|((with_reducible refine Ai ?_ ?_);(· omega))|(with_reducible refine nA (fun _=>?_) (fun _=>?_))|((with_reducible refine And.intro (And.intro ?_ ?_) ?_);(· omega);(· omega))|((with_reducible refine And.intro ?_ ?_);(· omega))|(with_reducible refine And.intro (show List.all _ aF=true from rfl) ?_)|((with_reducible refine q_ ?_ ?_);(· rfl))|((with_reducible refine uo ?_ ?_);(· rfl))|(with_reducible refine Hs (by with_unfolding_all (simp only[mB,oR,bK,blt_eq,aD,over,Value.cells,List.getElem?_cons_zero,List.getElem?_cons_succ,List.length_cons,List.length_nil,Nat.reduceAdd,Nat.reduceSub,Nat.reduceLT,Nat.reduceEqDiff,decide_true,cond_true,Option.map_some,if_true,if_false,Nat.add_one_sub_one,Nat.succ_ne_zero,reduceCtorEq,OfNat.ofNat];rfl)) ?_)|(with_reducible refine AH (by with_unfolding_all rfl) ?_)|(simp -dsimp only[↓EI,↓Fa,↓lg,↓oW,↓Ax,↓qO,↓Am,↓q9,↓AF,↓mX,↓CJ,↓Gn,↓Bu,↓oF,↓pU,↓zV,↓AV,↓XI,↓VO,↓S1,↓Rh,↓Ru,↓Sj,bA,List.length_cons,List.length_nil,aU,ne_eq,Nat.reduceEqDiff,Nat.reduceAdd,not_false_eq_true]))
 refine mI fun h'=>?_;have w1:IntKind.wrap .i16 ((256*b.toNat+c.toNat:Nat):Int)=vw (256*b.toNat+c.toNat):=by
  generalize hn:256*b.toNat+c.toNat=n;have hn2:n<65536:=by omega
  have e1:((n:Nat):Int)%2 ^ 16=(n:Int):=by omega
  simp only[IntKind.wrap,IntKind.bits,IntKind.signed,vw,e1,Bool.true_and];by_cases h:32767<n;·rw[if_pos h,if_pos (decide_eq_true (by omega))];omega
  ·rw[if_neg h,if_neg (by simp;omega)]
 have w2:IntKind.wrap .i64 (vw (256*b.toNat+c.toNat))=vw (256*b.toNat+c.toNat):=by refine wrap_i64 ?_ ?_<;>(unfold vw;split<;>omega)
 repeat' (first|done|((with_reducible refine uA ?_ ?_);(· omega))|((with_reducible refine Ai ?_ ?_);(· omega))|(with_reducible refine nA (fun _=>?_) (fun _=>?_))|((with_reducible refine And.intro (And.intro ?_ ?_) ?_);(· omega);(· omega))|((with_reducible refine And.intro ?_ ?_);(· omega))|(with_reducible refine And.intro (show List.all _ aF=true from rfl) ?_)|((with_reducible refine q_ ?_ ?_);(· rfl))|((with_reducible refine uo ?_ ?_);(· rfl))|(with_reducible refine Hs (by with_unfolding_all (simp only[mB,oR,bK,blt_eq,aD,over,Value.cells,List.getElem?_cons_zero,List.getElem?_cons_succ,List.length_cons,List.length_nil,Nat.reduceAdd,Nat.reduceSub,Nat.reduceLT,Nat.reduceEqDiff,decide_true,cond_true,Option.map_some,if_true,if_false,Nat.add_one_sub_one,Nat.succ_ne_zero,reduceCtorEq,OfNat.ofNat];rfl)) ?_)|(with_reducible refine AH (by with_unfolding_all rfl) ?_)|(simp -dsimp only[↓DX,↓lg,↓oW,↓qO,↓q9,↓AF,↓mX,↓vT,↓wy,↓MK,↓Jw,w1,w2]))
 exact hK _
theorem qnum {o a b c:UInt8}:zq Ii 96 [fD o a b c]=some (.int .i64 ((256*b.toNat+c.toNat:Nat):Int)) :=
 CA rfl rfl rfl (mI fun _=>rfl)
theorem Xg {o a b c:UInt8}:zq Ii 97 [fD o a b c]=some (.int .i64 (vw (256*b.toNat+c.toNat))) :=
 CA rfl rfl rfl (PE fun _=>rfl)
end Go.Proofs.YtohjaacnlmkhbaaGreatDoor.Qq
namespace Go.Proofs.YtohjaacnlmkhbaaGreatDoor
open Go.Ev
set_option maxRecDepth 100000
set_option maxHeartbeats 400000
noncomputable def Tv (o:Nat):Bool:=match td Wv 20 94 [.int .u8 (o:Int)]with
 | some (.tuple ⟨[.string w,.string n,.bool b]⟩)=>decide (w.data.toList=(dF o).1)&&decide (n.data.toList=(dF o).2.1)&&b==(dF o).2.2
 | _=>false
theorem chkS:(List.range 256).all Tv=true:=by kernel_rfl
theorem OQ {o:Nat}(ho:o<256) (h:Heap):Bj [.int .u8 (o:Int)] h=some (.tuple #[aq (dF o).1,aq (dF o).2.1,.bool (dF o).2.2]):=by
 have hc:=List.all_eq_true.1 chkS o (List.mem_range.2 ho);unfold Tv at hc;unfold Bj;split at hc;·rename_i w n b e;simp only[Bool.and_eq_true,decide_eq_true_eq,beq_iff_eq]at hc;obtain⟨⟨h1,h2⟩,h3⟩:=hc;rw[e,← h1,← h2,← h3];rfl
 ·cases hc
theorem kO {o:UInt8}{h:Heap}{K:Value→Heap→Prop}(hK:K (.tuple #[aq (dF o.toNat).1,aq (dF o.toNat).2.1,.bool (dF o.toNat).2.2]) h):bT env (.func 94) [.int .u8 (o.toNat:Int)] h K:=by refine i_ (g:=Bj) (base:=H4) ?_ (OQ o.toNat_lt h) hK;rfl
def Jp (B:Nat) (h:Heap) (v:Value) (l:List UInt8):Prop:=nu B h v l∧(l≠[]→∃ i,v=.slice (some ⟨i,0,none⟩) l.length cY)
theorem Jp.ext {B:Nat}{h h':Heap}{v:Value}{l:List UInt8}(r:Jp B h v l) (x:ai B h h'):Jp B h' v l:=⟨r.1.ext x,r.2⟩
theorem Jp.own {B:Nat}{h:Heap}{v:Value}{l:List UInt8}(o:bn B h 5 v l.length (l.map aw)):Jp h.n h v l:=by
 refine⟨nu.own o,fun hl=>?_⟩;generalize hc:l.map aw=cs at o;generalize hn:l.length=n at o;have:n≠0:=by rw[← hn];simpa using hl
 cases o with
 | nil=>exact absurd rfl this
 | emp i hi=>exact absurd rfl this
 | row i n cs h1 h2 h3=>exact⟨i,rfl⟩
theorem mY:a_ env 176=some (.map 21 5):=by kernel_rfl
theorem gX:a_ env 21=some (.int .i32):=by kernel_rfl
theorem OH:zero env 5=some (.int .u8 0):=by kernel_rfl
open Qq (fD)
theorem nu.cell {B:Nat}{h:Heap}{i n c:Nat}{l:List UInt8}(r:nu B h (.slice (some ⟨i,0,none⟩) n c) l) {k:Nat}(hk:k<l.length):i<B∧cellAt h ⟨i,k,none⟩=some (aw l[k]):=by obtain⟨a',c',e,q⟩:=r;cases e;obtain⟨i',o',e1,hi,hc⟩:=q (by intro e;rw[e]at hk;cases hk);cases e1;refine⟨hi,?_⟩;have:=fO hc (j:=k) (v:=aw l[k]) (by rw[List.getElem?_map,List.getElem?_eq_getElem hk];rfl);rwa [Nat.zero_add]at this
theorem PZ {p:List UInt8}{k:Nat}(h:4*k+3<p.length):chunk p k=[p[4*k],p[4*k+1],p[4*k+2],p[4*k+3]]:=by unfold chunk;rw[List.drop_eq_getElem_cons (by omega),List.drop_eq_getElem_cons (by omega),List.drop_eq_getElem_cons (by omega),List.drop_eq_getElem_cons (by omega)];rfl
def No (a b c:UInt8):List (Value×Value×Nat):=[(.int .i32 97,aw a,0),(.int .i32 98,aw b,1),(.int .i32 99,aw c,2)]
theorem Th {a b c ch:UInt8}{h:Heap}{r:Nat}{K:Value→Prop}(hr:r<h.n) (hb:h.b.get r=some (.map (No a b c) 3)) (hch:ch=97∨ch=98∨ch=99∨ch=110∨ch=100∨ch=107)
  (q:K (aw (EB a b c ch))):qo env 176 (.map (some r)) (.int .i32 (ch.toNat:Int)) false h K:=by
 rcases hch with rfl|rfl|rfl|rfl|rfl|rfl
 ·exact AP (i:=0) hr hb mY gX rfl rfl q
 ·exact AP (i:=1) hr hb mY gX rfl rfl q
 ·exact AP (i:=2) hr hb mY gX rfl rfl q
 ·exact xi hr hb mY gX rfl OH rfl q
 ·exact xi hr hb mY gX rfl OH rfl q
 ·exact xi hr hb mY gX rfl OH rfl q
theorem qt (o:Nat):(dF o).2.1.length≤3:=by rcases eM o with ⟨_,e⟩|⟨_,e⟩|⟨_,e⟩|⟨_,e⟩|⟨_,e⟩|⟨_,e⟩|⟨_,e⟩|⟨_,e⟩|⟨_,e⟩|⟨_,e⟩<;>rw[e]<;>decide
theorem QL {ch:UInt8}(hch:ch=97∨ch=98∨ch=99∨ch=110∨ch=100∨ch=107):ch.toNat<128:=by rcases hch with rfl|rfl|rfl|rfl|rfl|rfl<;>decide
theorem DI {B xb rb:Nat}{o a b c:UInt8}{fr:Fr}{h1:Heap}{K:Value→Heap→Prop}(hB:B≤rb) (g4:fr.get 4=some (.pointer (some ⟨rb,0,none⟩))) (g5:fr.get 5=some (.int .i64 0)) (g7:fr.get 7=some (.pointer (some ⟨xb,0,none⟩))) (g9:fr.get 9=some (aq (dF o.toNat).2.1))
  (hrb:dm h1 rb [.int .u8 0,.int .u8 0,.int .u8 0,.int .u8 0] 125) (hxb:dm h1 xb [aw o,aw a,aw b,aw c] 125) (hne:rb≠xb)
  (hK1:∀ h',ai B h1 h'→((dF o.toNat).2.1.all fun ch=>decide ((EB a b c ch).toNat<8))=true→K (.tuple #[fD o a b c,.int .i64 0]) h')
  (hK2:∀ h',ai B h1 h'→((dF o.toNat).2.1.all fun ch=>decide ((EB a b c ch).toNat<8))=false→K (.tuple #[fD 0 0 0 0,.int .i64 7]) h'):EP.wp env 84 none fr h1 (eY env [.cell 4 125,.tmp 5] K):=by
 have e4:=aj g4
 have e5:=aj g5
 have e7:=aj g7
 have e9:=aj g9
 have hchs:=tf o.toNat
 have hlen:=qt o.toNat
 generalize (dF o.toNat).2.1=nm at *
 unfold aq at e9
 simp -dsimp only[↓WB,↓CW,WP,ae,Nat.reduceEqDiff,Nat.reduceAdd,↓e4,↓e5,↓e7,↓e9]
 refine uH iV ?_
 have X2:ai h1.n h1 (af h1 (.aO ⟨nm.toArray⟩ 0)):=ai.new _ (Nat.le_refl _)
 have i2:(af h1 (.aO ⟨nm.toArray⟩ 0)).b.get h1.n=some (.aO ⟨nm.toArray⟩ 0):=aC _ _
 have n2:(af h1 (.aO ⟨nm.toArray⟩ 0)).n=h1.n+1:=rfl
 generalize af h1 (.aO ⟨nm.toArray⟩ 0)=h2 at X2 i2 n2 ⊢
 have rlt:=hrb.lt
 have xlt:=hxb.lt
 simp -dsimp only[↓WB,↓CW,WP,ae,Nat.reduceEqDiff,Nat.reduceAdd,↓e4,↓e5,↓e7,↓e9]
 refine aE (fun m fr' h'=>∃ j:Nat,j≤nm.length∧m=nm.length-j∧ai h1.n h1 h'∧h1.n<h'.n∧h'.b.get h1.n=some (.aO ⟨nm.toArray⟩ j)∧fr'.get 5=some (.int .i64 0)∧∀ i (hi:i<nm.length),i<j→(EB a b c nm[i]).toNat<8) nm.length ?_ (by omega) ?_
 ·exact⟨0,by omega,by omega,X2,by omega,i2,by simp[T.ah,g5],fun i _ hi=>by omega⟩
 clear X2 i2 n2
 rintro m fr2 h3 ⟨j,hj,rfl,X3,n3,i3,f5,hreg⟩ hag
 have b4:=au (hag 4 rfl)
 have b5:=aj f5
 have b7:=au (hag 7 rfl)
 have b66:=au (hag 66 rfl)
 by_cases aB:j<nm.length
 ·have hch:=hchs _ (List.getElem_mem aB);have hasc:=QL hch;simp -dsimp only[↓WB,↓CW,WP,ae,Nat.reduceEqDiff,Nat.reduceAdd,↓b4,↓b5,↓b7,↓b66,↓e4,↓e5,↓e7];refine rK i3 aB hasc ?_;have X4:ai h1.n h1 { h3 with b:=h3.b.set h1.n (.aO ⟨nm.toArray⟩ (j+1)) }:=X3.trans (ai.set _ (Nat.le_refl _));have i4:({ h3 with b:=h3.b.set h1.n (.aO ⟨nm.toArray⟩ (j+1)) }:Heap).b.get h1.n=some (.aO ⟨nm.toArray⟩ (j+1)):=T.get_set_same _ _ _;have n4:({ h3 with b:=h3.b.set h1.n (.aO ⟨nm.toArray⟩ (j+1)) }:Heap).n=h3.n:=rfl;generalize ({ h3 with b:=h3.b.set h1.n (.aO ⟨nm.toArray⟩ (j+1)) }:Heap)=h4 at X4 i4 n4 ⊢;have hx4:=hxb.ext X4 xlt;have xlt4:=hx4.lt;have d1:∀ k,cellAt (af h4 k) ⟨xb,1,none⟩=some (.int .u8 (a.toNat:Int)):=fun k=>by rw[eP xlt4];exact hx4.at_ (j:=1) rfl
  have d2:∀ k,cellAt (af h4 k) ⟨xb,2,none⟩=some (.int .u8 (b.toNat:Int)):=fun k=>by rw[eP xlt4];exact hx4.at_ (j:=2) rfl
  have d3:∀ k,cellAt (af h4 k) ⟨xb,3,none⟩=some (.int .u8 (c.toNat:Int)):=fun k=>by rw[eP xlt4];exact hx4.at_ (j:=3) rfl
  simp -dsimp only[↓WB,↓CW,WP,ae,Nat.reduceEqDiff,Nat.reduceAdd,↓b4,↓b5,↓b7,↓b66,↓e4,↓e7,d1,d2,d3];refine gx mY gX (by kernel_rfl) ?_;simp -dsimp only[↓WB,↓CW,WP,ae,Nat.reduceEqDiff,Nat.reduceAdd,↓b4,↓b5,↓b7,↓b66,↓e4,↓e7,d1,d2,d3];refine gx mY gX (by kernel_rfl) ?_;simp -dsimp only[↓WB,↓CW,WP,ae,Nat.reduceEqDiff,Nat.reduceAdd,↓b4,↓b5,↓b7,↓b66,↓e4,↓e7,d1,d2,d3];refine gx mY gX (by kernel_rfl) ?_;simp -dsimp only[↓WB,↓CW,WP,ae,Nat.reduceEqDiff,Nat.reduceAdd,↓b4,↓b5,↓b7,↓b66,↓e4,↓e7,d1,d2,d3];refine Th (Nat.lt_succ_self _) (aC _ _) hch ?_;have X5:ai h1.n h1 (af h4 (.map (No a b c) 3)):=X4.trans (ai.new _ (by omega));have i5:(af h4 (.map (No a b c) 3)).b.get h1.n=some (.aO ⟨nm.toArray⟩ (j+1)):=by rw[fB _ (by omega)];exact i4
  have n5:(af h4 (.map (No a b c) 3)).n=h4.n+1:=rfl;unfold No at X5 i5 n5;simp only[aw]at X5 i5 n5 ⊢;simp only[List.nil_append,List.cons_append];generalize af h4 (.map [(.int .i32 97,.int .u8 (a.toNat:Int),0),(.int .i32 98,.int .u8 (b.toNat:Int),1),(.int .i32 99,.int .u8 (c.toNat:Int),2)] 3)=h5 at X5 i5 n5 ⊢;by_cases hrg:(EB a b c nm[j]).toNat<8
  ·(with_reducible repeat' (first|refine y2 ?_|simp -dsimp only[↓WB,↓CW,WP,ae,Nat.reduceEqDiff,Nat.reduceAdd,↓b4,↓b5,↓b7,↓b66,↓e4,↓e7]));exact⟨nm.length-(j+1),by omega,j+1,by omega,rfl,X5,by omega,i5,by simp[T.ah,f5],fun i hi hij=>by
    by_cases e:i=j;·subst e;exact hrg
    ·exact hreg i hi (by omega)⟩
  ·have bx:=hrb.ext X5 rlt;(with_reducible repeat' (first|refine y1 ?_|refine y9 ?_|simp -dsimp only[↓WB,↓CW,WP,ae,Nat.reduceEqDiff,Nat.reduceAdd,↓b4,↓b5,↓b7,↓b66,↓e4,↓e7]));refine bN (cs':=[.int .u8 0,.int .u8 0,.int .u8 0,.int .u8 0]) bx.get rfl rfl rfl rfl (by decide) ?_;have bx':=bx.set (cs':=[.int .u8 0,.int .u8 0,.int .u8 0,.int .u8 0]);have cx:=aJ (off:=0) (n:=4) bx'.lt bx'.get rfl rfl;simp -dsimp only[↓WB,↓CW,WP,ae,Nat.reduceEqDiff,Nat.reduceAdd,↓b4,↓b5,↓b7,↓b66,↓e4,↓e7,cx];refine hK2 _ ((X5.mono (by omega)).trans (ai.set _ hB)) ?_;rw[Bool.eq_false_iff];intro hall;exact hrg (of_decide_eq_true (List.all_eq_true.1 hall _ (List.getElem_mem aB)))
 ·have hx3:=hxb.ext X3 xlt;have bx:=hrb.ext X3 rlt;have cx:=aJ (off:=0) (n:=4) hx3.lt hx3.get rfl rfl;simp -dsimp only[↓WB,↓CW,WP,ae,Nat.reduceEqDiff,Nat.reduceAdd,↓b4,↓b5,↓b7,↓b66,↓e4,↓e7,cx];refine mS i3 (by rw[ak];omega) ?_;simp -dsimp only[↓WB,↓CW,WP,ae,Nat.reduceEqDiff,Nat.reduceAdd,↓b4,↓b5,↓b7,↓b66,↓e4,↓e7,cx];refine bN (cs':=[aw o,aw a,aw b,aw c]) bx.get rfl rfl rfl rfl (by decide) ?_;have bx':=bx.set (cs':=[aw o,aw a,aw b,aw c]);have cx':=aJ (off:=0) (n:=4) bx'.lt bx'.get rfl rfl;simp -dsimp only[↓WB,↓CW,WP,ae,Nat.reduceEqDiff,Nat.reduceAdd,↓b4,↓b5,↓b7,↓b66,↓e4,↓e7,cx'];refine hK1 _ ((X3.mono (by omega)).trans (ai.set _ hB)) (List.all_eq_true.2 fun ch hc=>?_);obtain⟨i,hi,rfl⟩:=List.getElem_of_mem hc;exact decide_eq_true (hreg i hi (by omega))
theorem EW {B:Nat}{v:Value}{p:List UInt8}{k:Nat}{h:Heap}{K:Value→Heap→Prop}(r:Jp B h v p) (hB:B≤h.n) (hp:p.length≤50000) (hk:k≤50000)
   (hK1:∀ o a b c h',ai h.n h h'→chunk p k=[o,a,b,c]→eE o a b c=true→K (.tuple #[fD o a b c,.int .i64 0]) h')
   (hK2:∀ e h',ai h.n h h'→e≠0→(∀ o a b c,chunk p k=[o,a,b,c]→eE o a b c=false)→K (.tuple #[fD 0 0 0 0,.int .i64 e]) h'):bT env (.func 93) [v,.int .i64 k] h K:=by
 obtain⟨va,vc,rfl,_⟩:=id r.1
 have t1:((p.length:Int).tmod 4)=((p.length%4:Nat):Int):=rfl
 have t2:((p.length:Int).tdiv 4)=((p.length / 4:Nat):Int):=rfl
 have w2:IntKind.wrap .i64 ((p.length / 4:Nat):Int)=((p.length / 4:Nat):Int):=wrap_i64 (by omega) (by omega)
 have X1:ai h.n h (af h (.cells [.int .u8 0,.int .u8 0,.int .u8 0,.int .u8 0] 125 true)):=ai.new _ (Nat.le_refl _)
 have n1:(af h (.cells [.int .u8 0,.int .u8 0,.int .u8 0,.int .u8 0] 125 true)).n=h.n+1:=rfl
 have no:p.length / 4≤k→∀ o a b c,chunk p k=[o,a,b,c]→eE o a b c=false:=fun hge o a b c e=>by have:=fq p k;rw[e]at this;simp at this;omega
 refine F93 rfl ?_
 by_cases hin:4*k+3<p.length
 case neg =>
   have hge:p.length / 4≤k:=by omega
   by_cases hm:p.length%4=0
   · have hm':((p.length%4:Nat):Int)=0:=by omega
     by_cases hke:k=p.length / 4
     · have hke':(k:Int)=((p.length / 4:Nat):Int):=by omega
       (with_reducible repeat' (first|refine y5 ?_|refine y7 ?_|refine y9 ?_|simp -dsimp only[↓WB,↓CW,WP,ae,Nat.reduceEqDiff,Nat.reduceAdd,t1,t2,w2,hm',hke']));exact hK2 4 _ (ai.new _ (Nat.le_refl _)) (by decide) (no hge)
     · have hke':¬((k:Int)=((p.length / 4:Nat):Int)):=by omega
       (with_reducible repeat' (first|refine y1 ?_|refine y2 ?_|refine y5 ?_|refine y7 ?_|refine y9 ?_|simp -dsimp only[↓WB,↓CW,WP,ae,Nat.reduceEqDiff,Nat.reduceAdd,t1,t2,w2,hm',hke']));exact hK2 7 _ (ai.new _ (Nat.le_refl _)) (by decide) (no hge)
   · have hm':¬(((p.length%4:Nat):Int)=0):=by omega
     (with_reducible repeat' (first|refine y1 ?_|refine y2 ?_|refine y5 ?_|refine y7 ?_|refine y9 ?_|simp -dsimp only[↓WB,↓CW,WP,ae,Nat.reduceEqDiff,Nat.reduceAdd,t1,t2,w2,hm']));exact hK2 7 _ (ai.new _ (Nat.le_refl _)) (by decide) (no hge)
 case pos =>
 have aB:k<p.length / 4:=by omega
 have hke':¬((k:Int)=((p.length / 4:Nat):Int)):=by omega
 have hpn:p≠[]:=by intro e;rw[e]at hin;simp at hin
 obtain⟨i,ev⟩:=r.2 hpn
 cases ev
 have hch:=PZ hin
 have r':=r.1
 have main:∀ (fr:Fr),fr.get 0=some (.slice (some ⟨i,0,none⟩) p.length cY)→fr.get 1=some (.int .i64 k)→fr.get 4=some (.pointer (some ⟨h.n,0,none⟩))→fr.get 5=some (.int .i64 0) →
     Fb.wp env 84 none fr (af h (.cells [.int .u8 0,.int .u8 0,.int .u8 0,.int .u8 0] 125 true)) (eY env [.cell 4 125,.tmp 5] K):=by
   intro fr f0 f1 f4 f5
   have e0:=aj f0
   have e1:=aj f1
   have e4:=aj f4
   have e5:=aj f5
   have B1:=dm.new h [.int .u8 0,.int .u8 0,.int .u8 0,.int .u8 0] 125
   generalize af h (.cells [.int .u8 0,.int .u8 0,.int .u8 0,.int .u8 0] 125 true)=h1 at X1 n1 B1 ⊢
   have r1:=r'.ext (X1.mono hB)
   have w4:IntKind.wrap .i64 (4*(k:Int))=((4*k:Nat):Int):=by rw[wrap_i64 (by omega) (by omega)];omega
   simp -dsimp only[↓WB,↓CW,WP,ae,Nat.reduceEqDiff,Nat.reduceAdd,↓e0,↓e1,↓e4,↓e5,w4]
   refine tG (sz:=1) (by kernel_rfl) (by decide) (by omega) ?_
   have c0:=(r1.cell (k:=4*k) (by omega)).2
   have c1:=(r1.cell (k:=4*k+1) (by omega)).2
   have c2:=(r1.cell (k:=4*k+2) (by omega)).2
   have c3:=(r1.cell (k:=4*k+3) (by omega)).2
   generalize p[4*k]=o at c0 hch
   generalize p[4*k+1]=a at c1 hch
   generalize p[4*k+2]=b at c2 hch
   generalize p[4*k+3]=c at c3 hch
   simp only[aw]at c0 c1 c2 c3
   rw[Nat.mul_one,Nat.zero_add]
   have z1:Int.toNat 1=1:=rfl
   have z2:Int.toNat 2=2:=rfl
   have z3:Int.toNat 3=3:=rfl
   (with_reducible repeat' (first|refine y4 ?_|refine y5 ?_|refine y7 ?_|refine y9 ?_|simp -dsimp only[↓WB,↓tj,↓oa,↓tT,↓ky,↓tH,↓tA,↓lW,↓tv,WP,ae,Nat.reduceEqDiff,Nat.reduceAdd,↓e0,↓e1,↓e4,↓e5,c0,c1,c2,c3,Nat.mul_one,Nat.one_mul,z1,z2,z3]))
   have B2:=B1.ext (ai.new (B:=h1.n) (.cells [aw o,aw a,aw b,aw c] 125 true) (Nat.le_refl _)) B1.lt
   have B3:=dm.new h1 [aw o,aw a,aw b,aw c] 125
   have X2:ai h.n h (af h1 (.cells [aw o,aw a,aw b,aw c] 125 true)):=X1.trans (ai.new _ (by omega))
   have n2:(af h1 (.cells [aw o,aw a,aw b,aw c] 125 true)).n=h1.n+1:=rfl
   show EY.wp env 84 none _ (af h1 (.cells [aw o,aw a,aw b,aw c] 125 true)) _
   generalize af h1 (.cells [aw o,aw a,aw b,aw c] 125 true)=h2 at X2 n2 B2 B3 ⊢
   have d0:=B3.at_ (j:=0) rfl
   simp only[aw]at d0
   simp -dsimp only[↓WB,↓tj,↓oa,↓tT,↓tH,↓kM,↓tA,↓lW,↓tv,WP,ae,Nat.reduceEqDiff,Nat.reduceAdd,↓e0,↓e1,↓e4,↓e5,d0]
   refine kO ?_
   unfold aq
   cases his:(dF o.toNat).2.2 with
   | false =>
     (with_reducible repeat' (first|refine y9 ?_|simp -dsimp only[↓WB,↓tj,↓tT,↓ky,↓tH,↓kM,↓tA,↓lW,↓tv,WP,ae,Nat.reduceEqDiff,Nat.reduceAdd,↓e0,↓e1,↓e4,↓e5,d0]))
     refine bN (cs':=[.int .u8 0,.int .u8 0,.int .u8 0,.int .u8 0]) B2.get rfl rfl rfl rfl (by decide) ?_
     have bx':=B2.set (cs':=[.int .u8 0,.int .u8 0,.int .u8 0,.int .u8 0])
     have cx:=aJ (off:=0) (n:=4) bx'.lt bx'.get rfl rfl
     simp -dsimp only[↓WB,↓tj,↓tT,↓ky,↓tH,↓kM,↓tA,↓lW,↓tv,WP,ae,Nat.reduceEqDiff,Nat.reduceAdd,↓e4,cx]
     refine hK2 7 _ (X2.trans (ai.set _ (Nat.le_refl _))) (by decide) fun o' a' b' c' e=>?_
     rw[hch]at e
     cases e
     rw[eE,his,Bool.false_and]
   | true =>
     simp -dsimp only[↓WB,↓tj,↓tT,↓ky,↓tH,↓kM,↓tA,↓lW,↓tv,WP,ae,Nat.reduceEqDiff,Nat.reduceAdd,↓e0,↓e1,↓e4,↓e5,d0]
     refine DI (B:=h.n) (xb:=h1.n) (rb:=h.n) (o:=o) (a:=a) (b:=b) (c:=c) (Nat.le_refl _) ?_ ?_ ?_ ?_ B2 B3 (by omega) (fun h' X hall=>hK1 _ _ _ _ h' (X2.trans X) hch ?_) (fun h' X hall=>hK2 7 h' (X2.trans X) (by decide) ?_)
     · simp[T.ah,f4]
     · simp[T.ah,f5]
     · simp[T.ah]
     · simp[T.ah,aq]
     · rw[eE,his,hall];rfl
     · intro o' a' b' c' e;rw[hch]at e;cases e;rw[eE,his,hall];rfl
 by_cases hm:p.length%4=0
 · have hm':((p.length%4:Nat):Int)=0:=by omega
   (with_reducible repeat' (first|refine y2 ?_|refine y5 ?_|simp -dsimp only[↓WB,↓tj,↓oa,↓tT,↓ky,↓tH,↓kM,↓tA,↓tv,WP,ae,Nat.reduceEqDiff,Nat.reduceAdd,t1,t2,w2,hm',hke']));exact main _ (by simp[T.ah]) (by simp[T.ah]) (by simp[T.ah]) (by simp[T.ah])
 · have hm':¬(((p.length%4:Nat):Int)=0):=by omega
   (with_reducible repeat' (first|refine y2 ?_|refine y5 ?_|simp -dsimp only[↓WB,↓tj,↓oa,↓tT,↓ky,↓tH,↓kM,↓tA,↓tv,WP,ae,Nat.reduceEqDiff,Nat.reduceAdd,t1,t2,w2,hm']));exact main _ (by simp[T.ah]) (by simp[T.ah]) (by simp[T.ah]) (by simp[T.ah])
def isCh (ch:UInt8):Prop:=ch=97∨ch=98∨ch=99∨ch=110∨ch=100∨ch=107
def bD (o a b c:UInt8):List Value:=[aw o,aw a,aw b,aw c]
theorem I2 {o a b c:UInt8}{nm:List UInt8}{h:Heap}{K:Value→Heap→Prop}(hchs:∀ ch∈nm,isCh ch) (hlen:nm.length≤3)
  (hK:∀ h',ai h.n h h'→K (fD o (bR nm a b c).1 (bR nm a b c).2.1 (bR nm a b c).2.2) h'):bT env (.func 95) [fD o a b c,aq nm] h K:=by
 refine F95 rfl ?_
 unfold aq fD
 (with_reducible repeat' (first|refine y6 ?_|simp -dsimp only[↓WB,↓xv,WP,ae,Nat.reduceEqDiff,Nat.reduceAdd]))
 have B1:=dm.new h (bD o a b c) 125
 have X1:ai h.n h (af h (.cells (bD o a b c) 125 true)):=ai.new _ (Nat.le_refl _)
 have n1:(af h (.cells (bD o a b c) 125 true)).n=h.n+1:=rfl
 unfold bD aw at B1 X1 n1
 generalize af h (.cells [.int .u8 (o.toNat:Int),.int .u8 (a.toNat:Int),.int .u8 (b.toNat:Int),.int .u8 (c.toNat:Int)] 125 true)=h1 at B1 X1 n1 ⊢
 replace B1:=B1.ext (ai.new (B:=h1.n) (.cells [.int .u8 0,.int .u8 0,.int .u8 0,.int .u8 0] 125 true) (Nat.le_refl _)) B1.lt
 have B2:=dm.new h1 [.int .u8 0,.int .u8 0,.int .u8 0,.int .u8 0] 125
 have X2:ai h.n h (af h1 (.cells [.int .u8 0,.int .u8 0,.int .u8 0,.int .u8 0] 125 true)):=X1.trans (ai.new _ (by omega))
 have n2:(af h1 (.cells [.int .u8 0,.int .u8 0,.int .u8 0,.int .u8 0] 125 true)).n=h.n+2:=by show h1.n+1=_;omega
 rw[n1]at B2 ⊢
 generalize af h1 (.cells [.int .u8 0,.int .u8 0,.int .u8 0,.int .u8 0] 125 true)=h2 at B1 B2 X2 n2 ⊢
 have d0:=B1.at_ (j:=0) rfl
 (with_reducible repeat' (first|refine y7 ?_|refine y9 ?_|simp -dsimp only[↓WB,↓xv,WP,ae,Nat.reduceEqDiff,Nat.reduceAdd,d0]))
 have B3:=dm.new h2 [.int .u8 (o.toNat:Int),.int .u8 0,.int .u8 0,.int .u8 0] 125
 have X3:ai h2.n h2 (af h2 (.cells [.int .u8 (o.toNat:Int),.int .u8 0,.int .u8 0,.int .u8 0] 125 true)):=ai.new _ (Nat.le_refl _)
 have n3:(af h2 (.cells [.int .u8 (o.toNat:Int),.int .u8 0,.int .u8 0,.int .u8 0] 125 true)).n=h2.n+1:=rfl
 generalize af h2 (.cells [.int .u8 (o.toNat:Int),.int .u8 0,.int .u8 0,.int .u8 0] 125 true)=h3 at B3 X3 n3 ⊢
 refine uH iV ?_
 have X4:ai h2.n h2 (af h3 (.aO ⟨nm.toArray⟩ 0)):=X3.trans (ai.new _ (by omega))
 have B4:=B3.ext (ai.new (B:=h3.n) (.aO ⟨nm.toArray⟩ 0) (Nat.le_refl _)) B3.lt
 have i4:(af h3 (.aO ⟨nm.toArray⟩ 0)).b.get h3.n=some (.aO ⟨nm.toArray⟩ 0):=aC _ _
 have n4:(af h3 (.aO ⟨nm.toArray⟩ 0)).n=h3.n+1:=rfl
 generalize af h3 (.aO ⟨nm.toArray⟩ 0)=h4 at X4 B4 i4 n4 ⊢
 simp -dsimp only[↓WB,↓xv,WP,ae,Nat.reduceEqDiff,Nat.reduceAdd]
 refine aE (fun m fr' h'=>∃ j:Nat,j≤nm.length∧m=nm.length-j∧ai h2.n h2 h'∧h3.n<h'.n∧h'.b.get h3.n=some (.aO ⟨nm.toArray⟩ j) ∧
  dm h' h2.n (bD o (bR (nm.take j) a b c).1 (bR (nm.take j) a b c).2.1 (bR (nm.take j) a b c).2.2) 125) nm.length ?_ (by omega) ?_
 ·exact⟨0,by omega,by omega,X4,by omega,i4,B4⟩
 clear X4 B4 i4 n4 B3 X3 d0
 rintro m fr2 h5 ⟨j,hj,rfl,X5,n5,i5,B5⟩ hag
 have b2:=au (hag 2 rfl)
 have b4:=au (hag 4 rfl)
 have b5:=au (hag 5 rfl)
 have b12:=au (hag 12 rfl)
 have lt1:=B1.lt
 have lt2:=B2.lt
 by_cases aB:j<nm.length
 ·have hch:=hchs _ (List.getElem_mem aB);have hasc:=QL hch;simp -dsimp only[↓WB,↓xv,WP,ae,Nat.reduceEqDiff,Nat.reduceAdd,↓b2,↓b4,↓b5,↓b12];refine rK i5 aB hasc ?_;have X6:ai h2.n h2 { h5 with b:=h5.b.set h3.n (.aO ⟨nm.toArray⟩ (j+1)) }:=X5.trans (ai.set _ (by omega));have i6:({ h5 with b:=h5.b.set h3.n (.aO ⟨nm.toArray⟩ (j+1)) }:Heap).b.get h3.n=some (.aO ⟨nm.toArray⟩ (j+1)):=T.get_set_same _ _ _;have n6:({ h5 with b:=h5.b.set h3.n (.aO ⟨nm.toArray⟩ (j+1)) }:Heap).n=h5.n:=rfl;have B6:dm { h5 with b:=h5.b.set h3.n (.aO ⟨nm.toArray⟩ (j+1)) } h2.n (bD o (bR (nm.take j) a b c).1 (bR (nm.take j) a b c).2.1 (bR (nm.take j) a b c).2.2) 125:=B5.setOther (by omega);generalize ({ h5 with b:=h5.b.set h3.n (.aO ⟨nm.toArray⟩ (j+1)) }:Heap)=h6 at X6 i6 n6 B6 ⊢;have B1':=B1.ext X6 (by omega);have d1:=B1'.at_ (j:=1) rfl;have d2:=B1'.at_ (j:=2) rfl;have d3:=B1'.at_ (j:=3) rfl;have ks:=wT (a:=a) (b:=b) (c:=c) aB;generalize bR (nm.take j) a b c=s at B6 ks;obtain⟨s1,s2,s3⟩:=s;have fin:∀ (fr3:Fr) (h7:Heap) (s':UInt8×UInt8×UInt8),bR (nm.take (j+1)) a b c=s'→ai h2.n h2 h7→h7.n=h6.n→h7.b.get h3.n=h6.b.get h3.n→dm h7 h2.n (bD o s'.1 s'.2.1 s'.2.2) 125 →
    ∃ m',m'<nm.length-j∧∃ j',j'≤nm.length∧m'=nm.length-j'∧ai h2.n h2 h7∧h3.n<h7.n∧h7.b.get h3.n=some (.aO ⟨nm.toArray⟩ j')∧dm h7 h2.n (bD o (bR (nm.take j') a b c).1 (bR (nm.take j') a b c).2.1 (bR (nm.take j') a b c).2.2) 125 :=
   fun fr3 h7 s' e X n7 g7 bx=>⟨nm.length-(j+1),by omega,j+1,by omega,rfl,X,by omega,by rw[g7];exact i6,by rw[e];exact bx⟩
  have st1:∀ cs,dm { h6 with b:=h6.b.set h2.n (.cells cs 125 true) } h2.n cs 125:=fun cs=>B6.set;have sx1:∀ k,ai h2.n h2 { h6 with b:=h6.b.set h2.n k }:=fun k=>X6.trans (ai.set _ (Nat.le_refl _));have sg1:∀ k,({ h6 with b:=h6.b.set h2.n k }:Heap).b.get h3.n=h6.b.get h3.n:=fun k=>T.ar _ _ (by omega);rcases hch with e|e|e|e|e|e
  ·have e':(nm[j].toNat:Int)=97:=by rw[e];rfl
   rw[e,eF,if_pos rfl]at ks;simp -dsimp only[↓WB,↓xv,WP,ae,Nat.reduceEqDiff,Nat.reduceAdd,↓b2,↓b4,↓b5,↓b12,e',d1];refine bN (cs':=bD o a s2 s3) B6.get rfl rfl rfl rfl (by decide) ?_;simp -dsimp only[↓WB,↓xv,WP,ae,Nat.reduceEqDiff,Nat.reduceAdd,↓b2,↓b4,↓b5,↓b12];exact fin .leaf _ _ ks (sx1 _) rfl (sg1 _) (st1 _)
  ·have e':(nm[j].toNat:Int)=98:=by rw[e];rfl
   rw[e,eF,if_neg (by decide),if_pos rfl]at ks;(with_reducible repeat' (first|refine y2 ?_|simp -dsimp only[↓WB,↓xv,WP,ae,Nat.reduceEqDiff,Nat.reduceAdd,↓b2,↓b4,↓b5,↓b12,e',d2]));refine bN (cs':=bD o s1 b s3) B6.get rfl rfl rfl rfl (by decide) ?_;simp -dsimp only[↓WB,↓xv,WP,ae,Nat.reduceEqDiff,Nat.reduceAdd,↓b2,↓b4,↓b5,↓b12];exact fin .leaf _ _ ks (sx1 _) rfl (sg1 _) (st1 _)
  ·have e':(nm[j].toNat:Int)=99:=by rw[e];rfl
   rw[e,eF,if_neg (by decide),if_neg (by decide),if_pos rfl]at ks;(with_reducible repeat' (first|refine y2 ?_|simp -dsimp only[↓WB,↓xv,WP,ae,Nat.reduceEqDiff,Nat.reduceAdd,↓b2,↓b4,↓b5,↓b12,e',d3]));refine bN (cs':=bD o s1 s2 c) B6.get rfl rfl rfl rfl (by decide) ?_;simp -dsimp only[↓WB,↓xv,WP,ae,Nat.reduceEqDiff,Nat.reduceAdd,↓b2,↓b4,↓b5,↓b12];exact fin .leaf _ _ ks (sx1 _) rfl (sg1 _) (st1 _)
  ·have e':(nm[j].toNat:Int)=110:=by rw[e];rfl
   rw[e,eF,if_neg (by decide),if_neg (by decide),if_neg (by decide),if_pos (by decide)]at ks;(with_reducible repeat' (first|refine y2 ?_|simp -dsimp only[↓WB,↓xv,WP,ae,Nat.reduceEqDiff,Nat.reduceAdd,↓b2,↓b4,↓b5,↓b12,e',d2,d3]));refine bN (cs':=bD o s1 b s3) B6.get rfl rfl rfl rfl (by decide) ?_;have C7:=st1 (bD o s1 b s3);have X7:=sx1 (.cells (bD o s1 b s3) 125 true);have G7:=sg1 (.cells (bD o s1 b s3) 125 true);have n7:({ h6 with b:=h6.b.set h2.n (.cells (bD o s1 b s3) 125 true) }:Heap).n=h6.n:=rfl;generalize ({ h6 with b:=h6.b.set h2.n (.cells (bD o s1 b s3) 125 true) }:Heap)=h7 at C7 X7 G7 n7 ⊢;have D1:=B1.ext X7 (by omega);have d3':=D1.at_ (j:=3) rfl;refine⟨by omega,?_,?_⟩;·simp -dsimp only[↓WB,↓xv,WP,ae,Nat.reduceEqDiff,Nat.reduceAdd,↓b2,↓b4,↓b5,↓b12,d3'];all_goals exact cZ _ _ _
   simp -dsimp only[↓WB,↓xv,WP,ae,Nat.reduceEqDiff,Nat.reduceAdd,↓b2,↓b4,↓b5,↓b12,d3'];refine bN (cs':=bD o s1 b c) C7.get rfl rfl rfl rfl (by decide) ?_;simp -dsimp only[↓WB,↓xv,WP,ae,Nat.reduceEqDiff,Nat.reduceAdd,↓b2,↓b4,↓b5,↓b12,d3'];exact fin .leaf _ _ ks (X7.trans (ai.set _ (Nat.le_refl _))) n7 (by show (h7.b.set h2.n _).get h3.n=_;rw[T.ar _ _ (by omega)];exact G7) C7.set
  ·have e':(nm[j].toNat:Int)=100:=by rw[e];rfl
   rw[e,eF,if_neg (by decide),if_neg (by decide),if_neg (by decide),if_pos (by decide)]at ks;(with_reducible repeat' (first|refine y2 ?_|simp -dsimp only[↓WB,↓xv,WP,ae,Nat.reduceEqDiff,Nat.reduceAdd,↓b2,↓b4,↓b5,↓b12,e',d2,d3]));refine bN (cs':=bD o s1 b s3) B6.get rfl rfl rfl rfl (by decide) ?_;have C7:=st1 (bD o s1 b s3);have X7:=sx1 (.cells (bD o s1 b s3) 125 true);have G7:=sg1 (.cells (bD o s1 b s3) 125 true);have n7:({ h6 with b:=h6.b.set h2.n (.cells (bD o s1 b s3) 125 true) }:Heap).n=h6.n:=rfl;generalize ({ h6 with b:=h6.b.set h2.n (.cells (bD o s1 b s3) 125 true) }:Heap)=h7 at C7 X7 G7 n7 ⊢;have D1:=B1.ext X7 (by omega);have d3':=D1.at_ (j:=3) rfl;refine⟨by omega,?_,?_⟩;·simp -dsimp only[↓WB,↓xv,WP,ae,Nat.reduceEqDiff,Nat.reduceAdd,↓b2,↓b4,↓b5,↓b12,d3'];all_goals exact cZ _ _ _
   simp -dsimp only[↓WB,↓xv,WP,ae,Nat.reduceEqDiff,Nat.reduceAdd,↓b2,↓b4,↓b5,↓b12,d3'];refine bN (cs':=bD o s1 b c) C7.get rfl rfl rfl rfl (by decide) ?_;simp -dsimp only[↓WB,↓xv,WP,ae,Nat.reduceEqDiff,Nat.reduceAdd,↓b2,↓b4,↓b5,↓b12,d3'];exact fin .leaf _ _ ks (X7.trans (ai.set _ (Nat.le_refl _))) n7 (by show (h7.b.set h2.n _).get h3.n=_;rw[T.ar _ _ (by omega)];exact G7) C7.set
  ·have e':(nm[j].toNat:Int)=107:=by rw[e];rfl
   rw[e,eF,if_neg (by decide),if_neg (by decide),if_neg (by decide),if_neg (by decide)]at ks;(with_reducible repeat' (first|refine y2 ?_|simp -dsimp only[↓WB,↓xv,WP,ae,Nat.reduceEqDiff,Nat.reduceAdd,↓b2,↓b4,↓b5,↓b12,e']));exact fin .leaf _ _ ks X6 rfl rfl B6
 ·have B2':=B2.ext X5 (by omega);simp -dsimp only[↓WB,↓xv,WP,ae,Nat.reduceEqDiff,Nat.reduceAdd,↓b2,↓b4,↓b5,↓b12];refine mS i5 (by rw[ak];omega) ?_;rw[List.take_of_length_le (by omega)]at B5;have cx:=aJ (off:=0) (n:=4) B5.lt B5.get rfl rfl;simp -dsimp only[↓WB,↓xv,WP,ae,Nat.reduceEqDiff,Nat.reduceAdd,↓b2,↓b4,↓b5,↓b12,cx];refine bN (cs':=bD o (bR nm a b c).1 (bR nm a b c).2.1 (bR nm a b c).2.2) B2'.get rfl rfl rfl rfl (by decide) ?_;have B7:=B2'.set (cs':=bD o (bR nm a b c).1 (bR nm a b c).2.1 (bR nm a b c).2.2);have cx:=aJ (off:=0) (n:=4) B7.lt B7.get rfl rfl;simp -dsimp only[↓WB,↓xv,WP,ae,Nat.reduceEqDiff,Nat.reduceAdd,↓b2,↓b4,↓b5,↓b12,cx];exact hK _ (X2.trans ((X5.mono (by omega)).trans (ai.set _ (by omega))))
theorem jP:a_ env 148=some (.map 21 3):=by kernel_rfl
theorem cA (n:Int) (h0 : -9223372036854775808≤n) (h1:n≤9223372036854775807):(Lib.itoa n).length≤21:=Lib.itoa_length_le n h0 h1
theorem oT (o a b c ch:UInt8) : -32768≤gV o a b c ch∧gV o a b c ch≤65535:=by
 have ha:=a.toNat_lt;have hb:=b.toNat_lt;have hc:=c.toNat_lt;have ho:=(o-16).toNat_lt;unfold gV bS;repeat' split
 all_goals omega
def mL (o a b c:UInt8) (l:List UInt8):List UInt8:=l.flatMap fun ch=>32::Lib.itoa (gV o a b c ch)
theorem De {o a b c:UInt8}{l:List UInt8}{j:Nat}(hj:j<l.length):mL o a b c (l.take (j+1))=mL o a b c (l.take j)++32::Lib.itoa (gV o a b c l[j]):=by unfold mL;rw[← List.take_append_getElem hj,List.flatMap_append];simp
theorem vP {o a b c:UInt8}(l:List UInt8):(mL o a b c l).length≤22*l.length:=by
 unfold mL;induction l with
 | nil=>simp
 | cons x l ih =>
   have:=oT o a b c x
   have:=cA (gV o a b c x) (by omega) (by omega)
   simp only[List.flatMap_cons,List.length_append,List.length_cons]
   omega
theorem BN (o:Nat):(dF o).1.length≤5:=by rcases eM o with ⟨_,e⟩|⟨_,e⟩|⟨_,e⟩|⟨_,e⟩|⟨_,e⟩|⟨_,e⟩|⟨_,e⟩|⟨_,e⟩|⟨_,e⟩|⟨_,e⟩<;>rw[e]<;>decide
theorem qc96 {o a b c:UInt8}:env.qc 96 [fD o a b c]=some (.int .i64 ((256*b.toNat+c.toNat:Nat):Int)):=Qq.qnum
theorem qc97 {o a b c:UInt8}:env.qc 97 [fD o a b c]=some (.int .i64 (bS (256*b.toNat+c.toNat))):=Qq.Xg
theorem hO {h:Heap}{r xb off n:Nat}{k:fa}(hne:xb≠r):ax { h with b:=h.b.set r k } ⟨xb,off,none⟩ n=ax h ⟨xb,off,none⟩ n:=by simp only[ax,T.ar _ _ (Ne.symm hne)]
theorem bC {h:Heap}{r xb off:Nat}{k:fa}(hne:xb≠r):cellAt { h with b:=h.b.set r k } ⟨xb,off,none⟩=cellAt h ⟨xb,off,none⟩:=by simp only[cellAt,hO hne]
theorem gE {o a b c:UInt8}:aW 50 (.agg ⟨[.int .u8 (o.toNat:Int),.int .u8 (a.toNat:Int),.int .u8 (b.toNat:Int),.int .u8 (c.toNat:Int)]⟩) (.agg ⟨[.int .u8 (o.toNat:Int),.int .u8 (a.toNat:Int),.int .u8 (b.toNat:Int),.int .u8 (c.toNat:Int)]⟩)=true:=by simp[aW,aW.go]
def mapI (o a b c:UInt8):List (Nat×Value×Value):=[(97,.int .i32 97,.int .i64 (a.toNat:Int)),(98,.int .i32 98,.int .i64 (b.toNat:Int)),(99,.int .i32 99,.int .i64 (c.toNat:Int)),(100,.int .i32 100,.int .i64 (bS (256*b.toNat+c.toNat))),(107,.int .i32 107,.int .i64 (IntKind.wrap .i64 (IntKind.wrap .u8 ((o.toNat:Int)-16)))),(110,.int .i32 110,.int .i64 ((256*b.toNat+c.toNat:Nat):Int))]
theorem Xx {o:UInt8}:IntKind.wrap .i64 (IntKind.wrap .u8 ((o.toNat:Int)-16))=(((o-16).toNat:Nat):Int):=by
 have h:=o.toNat_lt;have h1:(o-16).toNat=(o.toNat+240)%256:=by rw[UInt8.toNat_sub];have:(16:UInt8).toNat=16:=rfl;rw[this];omega
 rw[h1,IntKind.wrap_u8,wrap_i64 (by omega) (by omega)];omega
theorem RL {o a b c ch:UInt8}{h:Heap}{r:Nat}{K:Value→Prop}(hr:r<h.n) (hb:h.b.get r=some (.smap (mapI o a b c))) (hch:ch=97∨ch=98∨ch=99∨ch=110∨ch=100∨ch=107)
  (q:K (.int .i64 (gV o a b c ch))):qo env 148 (.map (some r)) (.int .i32 (ch.toNat:Int)) false h K:=by
 rcases hch with rfl|rfl|rfl|rfl|rfl|rfl
 ·exact iZ hr hb jP gX rfl rfl (v:=.int .i64 (a.toNat:Int)) rfl q
 ·exact iZ hr hb jP gX rfl rfl (v:=.int .i64 (b.toNat:Int)) rfl q
 ·exact iZ hr hb jP gX rfl rfl (v:=.int .i64 (c.toNat:Int)) rfl q
 ·exact iZ hr hb jP gX rfl rfl (v:=.int .i64 ((256*b.toNat+c.toNat:Nat):Int)) rfl q
 ·exact iZ hr hb jP gX rfl rfl (v:=.int .i64 (bS (256*b.toNat+c.toNat))) rfl q
 ·refine iZ hr hb jP gX rfl rfl (v:=.int .i64 (IntKind.wrap .i64 (IntKind.wrap .u8 ((o.toNat:Int)-16)))) rfl ?_;rw[Xx];exact q
theorem HF {B xb:Nat}{o a b c:UInt8}{fr:Fr}{h1:Heap}{K:Value→Heap→Prop}(hB:B≤h1.n) (g6:fr.get 6=some (.pointer (some ⟨xb,0,none⟩))) (g8:fr.get 8=some (aq (dF o.toNat).1)) (g9:fr.get 9=some (aq (dF o.toNat).2.1)) (gk:rW h1)
  (hxb:dm h1 xb (bD o a b c) 125) (hK:∀ h',ai B h1 h'→K (.tuple #[aq (e_ o a b c),.bool true]) h'):E_.wp env 68 none fr h1 (eY env [.tmp 4,.tmp 5] K):=by
 have e6:=aj g6
 have e8:=aj g8
 have e9:=aj g9
 have hchs:=tf o.toNat
 have hlen:=qt o.toNat
 have hwl:=BN o.toNat
 have hres:e_ o a b c=(dF o.toNat).1++mL o a b c (dF o.toNat).2.1:=rfl
 rw[hres]at hK
 generalize (dF o.toNat).2.1=nm at *
 generalize (dF o.toNat).1=wd at *
 have gn:=gk.n
 unfold aq at e9
 simp -dsimp only[↓WB,↓tL,WP,ae,Nat.reduceEqDiff,Nat.reduceAdd,↓e6,↓e8,↓e9]
 refine uH iV ?_
 have X2:ai h1.n h1 (af h1 (.aO ⟨nm.toArray⟩ 0)):=ai.new _ (Nat.le_refl _)
 have i2:(af h1 (.aO ⟨nm.toArray⟩ 0)).b.get h1.n=some (.aO ⟨nm.toArray⟩ 0):=aC _ _
 have n2:(af h1 (.aO ⟨nm.toArray⟩ 0)).n=h1.n+1:=rfl
 generalize af h1 (.aO ⟨nm.toArray⟩ 0)=h2 at X2 i2 n2 ⊢
 have xlt:=hxb.lt
 simp -dsimp only[↓WB,↓tL,WP,ae,Nat.reduceEqDiff,Nat.reduceAdd,↓e6,↓e8,↓e9]
 refine aE (fun m fr' h'=>∃ j:Nat,j≤nm.length∧m=nm.length-j∧ai h1.n h1 h'∧h1.n<h'.n∧h'.b.get h1.n=some (.aO ⟨nm.toArray⟩ j)∧fr'.get 8=some (aq (wd++mL o a b c (nm.take j)))) nm.length ?_ (by omega) ?_
 ·refine⟨0,by omega,by omega,X2,by omega,i2,?_⟩;simp[T.ah,g8,mL]
 clear X2 i2 n2
 rintro m fr2 h3 ⟨j,hj,rfl,X3,n3,i3,f8⟩ hag
 have b6:=au (hag 6 rfl)
 have b37:=au (hag 37 rfl)
 have b8:=aj f8
 by_cases aB:j<nm.length
 ·have hch:=hchs _ (List.getElem_mem aB);have hasc:=QL hch;simp -dsimp only[↓WB,↓tL,WP,ae,Nat.reduceEqDiff,Nat.reduceAdd,↓b6,↓b37,↓b8,↓e6];refine rK i3 aB hasc ?_;have X4:ai h1.n h1 { h3 with b:=h3.b.set h1.n (.aO ⟨nm.toArray⟩ (j+1)) }:=X3.trans (ai.set _ (Nat.le_refl _));have i4:({ h3 with b:=h3.b.set h1.n (.aO ⟨nm.toArray⟩ (j+1)) }:Heap).b.get h1.n=some (.aO ⟨nm.toArray⟩ (j+1)):=T.get_set_same _ _ _;have n4:({ h3 with b:=h3.b.set h1.n (.aO ⟨nm.toArray⟩ (j+1)) }:Heap).n=h3.n:=rfl;generalize ({ h3 with b:=h3.b.set h1.n (.aO ⟨nm.toArray⟩ (j+1)) }:Heap)=h4 at X4 i4 n4 ⊢;have hx4:=hxb.ext X4 xlt;have xlt4:=hx4.lt;have X5:ai h1.n h1 (af h4 (.smap [])):=X4.trans (ai.new _ (by omega));have m5:(af h4 (.smap [])).b.get h4.n=some (.smap []):=aC _ _;have n5:(af h4 (.smap [])).n=h4.n+1:=rfl;have i5:(af h4 (.smap [])).b.get h1.n=some (.aO ⟨nm.toArray⟩ (j+1)):=by rw[fB _ (by omega)];exact i4
  have d0:cellAt (af h4 (.smap [])) ⟨xb,0,none⟩=some (.int .u8 (o.toNat:Int)):=by rw[eP xlt4];exact hx4.at_ (j:=0) rfl
  have d1:cellAt (af h4 (.smap [])) ⟨xb,1,none⟩=some (.int .u8 (a.toNat:Int)):=by rw[eP xlt4];exact hx4.at_ (j:=1) rfl
  have d2:cellAt (af h4 (.smap [])) ⟨xb,2,none⟩=some (.int .u8 (b.toNat:Int)):=by rw[eP xlt4];exact hx4.at_ (j:=2) rfl
  have d3:cellAt (af h4 (.smap [])) ⟨xb,3,none⟩=some (.int .u8 (c.toNat:Int)):=by rw[eP xlt4];exact hx4.at_ (j:=3) rfl
  have dd:ax (af h4 (.smap [])) ⟨xb,0,none⟩ 4=some (bD o a b c):=aJ (off:=0) (n:=4) (by show xb<h4.n+1;omega) (by rw[fB _ xlt4];exact hx4.get) rfl rfl;have ww:∀ x:UInt8,IntKind.wrap .i64 (x.toNat:Int)=(x.toNat:Int):=fun x=>by have:=x.toNat_lt;exact wrap_i64 (by omega) (by omega)
  have q1:=qc96 (o:=o) (a:=a) (b:=b) (c:=c);have q2:=qc97 (o:=o) (a:=a) (b:=b) (c:=c);unfold fD at q1 q2;unfold bD aw at dd;(with_reducible repeat' (first|refine y5 ?_|simp -dsimp only[↓WB,↓tL,WP,ae,Nat.reduceEqDiff,Nat.reduceAdd,↓b6,↓b37,↓b8,↓e6,d0,d1,d2,d3,dd,ww,q1,q2]));refine⟨yQ (s:=41) (t:=148) (r:=h4.n) (es:=[]) rfl rfl (by simp[T.ah]) (by omega) m5,?_⟩;generalize af h4 (.smap [])=h5 at X5 m5 n5 i5 d0 d1 d2 d3 dd ⊢;have hx5:xb≠h4.n:=by omega
  skip;refine kQ (es':=[(97,.int .i32 97,.int .i64 (a.toNat:Int))]) (by omega) m5 jP gX rfl rfl ?_;replace m5:({ h5 with b:=h5.b.set h4.n (.smap [(97,.int .i32 97,.int .i64 (a.toNat:Int))]) }:Heap).b.get h4.n=some (.smap [(97,.int .i32 97,.int .i64 (a.toNat:Int))]):=T.get_set_same _ _ _;replace X5:ai h1.n h1 { h5 with b:=h5.b.set h4.n (.smap [(97,.int .i32 97,.int .i64 (a.toNat:Int))]) }:=X5.trans (ai.set _ (by omega));replace n5:({ h5 with b:=h5.b.set h4.n (.smap [(97,.int .i32 97,.int .i64 (a.toNat:Int))]) }:Heap).n=h4.n+1:=n5;replace i5:({ h5 with b:=h5.b.set h4.n (.smap [(97,.int .i32 97,.int .i64 (a.toNat:Int))]) }:Heap).b.get h1.n=some (.aO ⟨nm.toArray⟩ (j+1)):=by rw[← i5];exact T.ar _ _ (by omega)
  replace d0:cellAt { h5 with b:=h5.b.set h4.n (.smap [(97,.int .i32 97,.int .i64 (a.toNat:Int))]) } ⟨xb,0,none⟩=_:=(bC hx5).trans d0;replace d1:cellAt { h5 with b:=h5.b.set h4.n (.smap [(97,.int .i32 97,.int .i64 (a.toNat:Int))]) } ⟨xb,1,none⟩=_:=(bC hx5).trans d1;replace d2:cellAt { h5 with b:=h5.b.set h4.n (.smap [(97,.int .i32 97,.int .i64 (a.toNat:Int))]) } ⟨xb,2,none⟩=_:=(bC hx5).trans d2;replace d3:cellAt { h5 with b:=h5.b.set h4.n (.smap [(97,.int .i32 97,.int .i64 (a.toNat:Int))]) } ⟨xb,3,none⟩=_:=(bC hx5).trans d3;replace dd:ax { h5 with b:=h5.b.set h4.n (.smap [(97,.int .i32 97,.int .i64 (a.toNat:Int))]) } ⟨xb,0,none⟩ 4=_:=(hO hx5).trans dd;have nle:h5.n≤({ h5 with b:=h5.b.set h4.n (.smap [(97,.int .i32 97,.int .i64 (a.toNat:Int))]) }:Heap).n:=Nat.le_refl _;generalize ({ h5 with b:=h5.b.set h4.n (.smap [(97,.int .i32 97,.int .i64 (a.toNat:Int))]) }:Heap)=h6 at X5 m5 n5 i5 d0 d1 d2 d3 dd nle ⊢;refine⟨nle,?_,?_⟩;·simp -dsimp only[↓WB,↓tL,WP,ae,Nat.reduceEqDiff,Nat.reduceAdd,↓b6,↓b37,↓b8,↓e6,d0,d1,d2,d3,dd,ww,q1,q2];repeat' (first|exact cZ _ _ _|exact gE|exact trivial|(with_reducible refine And.intro ?_ ?_))
  clear nle;simp -dsimp only[↓WB,↓tL,WP,ae,Nat.reduceEqDiff,Nat.reduceAdd,↓b6,↓b37,↓b8,↓e6,d0,d1,d2,d3,dd,ww,q1,q2];refine kQ (es':=[(97,.int .i32 97,.int .i64 (a.toNat:Int)),(98,.int .i32 98,.int .i64 (b.toNat:Int))]) (by omega) m5 jP gX rfl rfl ?_;replace m5:({ h6 with b:=h6.b.set h4.n (.smap [(97,.int .i32 97,.int .i64 (a.toNat:Int)),(98,.int .i32 98,.int .i64 (b.toNat:Int))]) }:Heap).b.get h4.n=some (.smap [(97,.int .i32 97,.int .i64 (a.toNat:Int)),(98,.int .i32 98,.int .i64 (b.toNat:Int))]):=T.get_set_same _ _ _;replace X5:ai h1.n h1 { h6 with b:=h6.b.set h4.n (.smap [(97,.int .i32 97,.int .i64 (a.toNat:Int)),(98,.int .i32 98,.int .i64 (b.toNat:Int))]) }:=X5.trans (ai.set _ (by omega));replace n5:({ h6 with b:=h6.b.set h4.n (.smap [(97,.int .i32 97,.int .i64 (a.toNat:Int)),(98,.int .i32 98,.int .i64 (b.toNat:Int))]) }:Heap).n=h4.n+1:=n5;replace i5:({ h6 with b:=h6.b.set h4.n (.smap [(97,.int .i32 97,.int .i64 (a.toNat:Int)),(98,.int .i32 98,.int .i64 (b.toNat:Int))]) }:Heap).b.get h1.n=some (.aO ⟨nm.toArray⟩ (j+1)):=by rw[← i5];exact T.ar _ _ (by omega)
  replace d0:cellAt { h6 with b:=h6.b.set h4.n (.smap [(97,.int .i32 97,.int .i64 (a.toNat:Int)),(98,.int .i32 98,.int .i64 (b.toNat:Int))]) } ⟨xb,0,none⟩=_:=(bC hx5).trans d0;replace d1:cellAt { h6 with b:=h6.b.set h4.n (.smap [(97,.int .i32 97,.int .i64 (a.toNat:Int)),(98,.int .i32 98,.int .i64 (b.toNat:Int))]) } ⟨xb,1,none⟩=_:=(bC hx5).trans d1;replace d2:cellAt { h6 with b:=h6.b.set h4.n (.smap [(97,.int .i32 97,.int .i64 (a.toNat:Int)),(98,.int .i32 98,.int .i64 (b.toNat:Int))]) } ⟨xb,2,none⟩=_:=(bC hx5).trans d2;replace d3:cellAt { h6 with b:=h6.b.set h4.n (.smap [(97,.int .i32 97,.int .i64 (a.toNat:Int)),(98,.int .i32 98,.int .i64 (b.toNat:Int))]) } ⟨xb,3,none⟩=_:=(bC hx5).trans d3;replace dd:ax { h6 with b:=h6.b.set h4.n (.smap [(97,.int .i32 97,.int .i64 (a.toNat:Int)),(98,.int .i32 98,.int .i64 (b.toNat:Int))]) } ⟨xb,0,none⟩ 4=_:=(hO hx5).trans dd;have nle:h6.n≤({ h6 with b:=h6.b.set h4.n (.smap [(97,.int .i32 97,.int .i64 (a.toNat:Int)),(98,.int .i32 98,.int .i64 (b.toNat:Int))]) }:Heap).n:=Nat.le_refl _;generalize ({ h6 with b:=h6.b.set h4.n (.smap [(97,.int .i32 97,.int .i64 (a.toNat:Int)),(98,.int .i32 98,.int .i64 (b.toNat:Int))]) }:Heap)=h7 at X5 m5 n5 i5 d0 d1 d2 d3 dd nle ⊢;refine⟨nle,?_,?_⟩;·simp -dsimp only[↓WB,↓tL,WP,ae,Nat.reduceEqDiff,Nat.reduceAdd,↓b6,↓b37,↓b8,↓e6,d0,d1,d2,d3,dd,ww,q1,q2];repeat' (first|exact cZ _ _ _|exact gE|exact trivial|(with_reducible refine And.intro ?_ ?_))
  clear nle;simp -dsimp only[↓WB,↓tL,WP,ae,Nat.reduceEqDiff,Nat.reduceAdd,↓b6,↓b37,↓b8,↓e6,d0,d1,d2,d3,dd,ww,q1,q2];refine kQ (es':=[(97,.int .i32 97,.int .i64 (a.toNat:Int)),(98,.int .i32 98,.int .i64 (b.toNat:Int)),(99,.int .i32 99,.int .i64 (c.toNat:Int))]) (by omega) m5 jP gX rfl rfl ?_;replace m5:({ h7 with b:=h7.b.set h4.n (.smap [(97,.int .i32 97,.int .i64 (a.toNat:Int)),(98,.int .i32 98,.int .i64 (b.toNat:Int)),(99,.int .i32 99,.int .i64 (c.toNat:Int))]) }:Heap).b.get h4.n=some (.smap [(97,.int .i32 97,.int .i64 (a.toNat:Int)),(98,.int .i32 98,.int .i64 (b.toNat:Int)),(99,.int .i32 99,.int .i64 (c.toNat:Int))]):=T.get_set_same _ _ _;replace X5:ai h1.n h1 { h7 with b:=h7.b.set h4.n (.smap [(97,.int .i32 97,.int .i64 (a.toNat:Int)),(98,.int .i32 98,.int .i64 (b.toNat:Int)),(99,.int .i32 99,.int .i64 (c.toNat:Int))]) }:=X5.trans (ai.set _ (by omega));replace n5:({ h7 with b:=h7.b.set h4.n (.smap [(97,.int .i32 97,.int .i64 (a.toNat:Int)),(98,.int .i32 98,.int .i64 (b.toNat:Int)),(99,.int .i32 99,.int .i64 (c.toNat:Int))]) }:Heap).n=h4.n+1:=n5;replace i5:({ h7 with b:=h7.b.set h4.n (.smap [(97,.int .i32 97,.int .i64 (a.toNat:Int)),(98,.int .i32 98,.int .i64 (b.toNat:Int)),(99,.int .i32 99,.int .i64 (c.toNat:Int))]) }:Heap).b.get h1.n=some (.aO ⟨nm.toArray⟩ (j+1)):=by rw[← i5];exact T.ar _ _ (by omega)
  replace d0:cellAt { h7 with b:=h7.b.set h4.n (.smap [(97,.int .i32 97,.int .i64 (a.toNat:Int)),(98,.int .i32 98,.int .i64 (b.toNat:Int)),(99,.int .i32 99,.int .i64 (c.toNat:Int))]) } ⟨xb,0,none⟩=_:=(bC hx5).trans d0;replace d1:cellAt { h7 with b:=h7.b.set h4.n (.smap [(97,.int .i32 97,.int .i64 (a.toNat:Int)),(98,.int .i32 98,.int .i64 (b.toNat:Int)),(99,.int .i32 99,.int .i64 (c.toNat:Int))]) } ⟨xb,1,none⟩=_:=(bC hx5).trans d1;replace d2:cellAt { h7 with b:=h7.b.set h4.n (.smap [(97,.int .i32 97,.int .i64 (a.toNat:Int)),(98,.int .i32 98,.int .i64 (b.toNat:Int)),(99,.int .i32 99,.int .i64 (c.toNat:Int))]) } ⟨xb,2,none⟩=_:=(bC hx5).trans d2;replace d3:cellAt { h7 with b:=h7.b.set h4.n (.smap [(97,.int .i32 97,.int .i64 (a.toNat:Int)),(98,.int .i32 98,.int .i64 (b.toNat:Int)),(99,.int .i32 99,.int .i64 (c.toNat:Int))]) } ⟨xb,3,none⟩=_:=(bC hx5).trans d3;replace dd:ax { h7 with b:=h7.b.set h4.n (.smap [(97,.int .i32 97,.int .i64 (a.toNat:Int)),(98,.int .i32 98,.int .i64 (b.toNat:Int)),(99,.int .i32 99,.int .i64 (c.toNat:Int))]) } ⟨xb,0,none⟩ 4=_:=(hO hx5).trans dd;have nle:h7.n≤({ h7 with b:=h7.b.set h4.n (.smap [(97,.int .i32 97,.int .i64 (a.toNat:Int)),(98,.int .i32 98,.int .i64 (b.toNat:Int)),(99,.int .i32 99,.int .i64 (c.toNat:Int))]) }:Heap).n:=Nat.le_refl _;generalize ({ h7 with b:=h7.b.set h4.n (.smap [(97,.int .i32 97,.int .i64 (a.toNat:Int)),(98,.int .i32 98,.int .i64 (b.toNat:Int)),(99,.int .i32 99,.int .i64 (c.toNat:Int))]) }:Heap)=h8 at X5 m5 n5 i5 d0 d1 d2 d3 dd nle ⊢;refine⟨nle,?_,?_⟩;·simp -dsimp only[↓WB,↓tL,WP,ae,Nat.reduceEqDiff,Nat.reduceAdd,↓b6,↓b37,↓b8,↓e6,d0,d1,d2,d3,dd,ww,q1,q2];repeat' (first|exact cZ _ _ _|exact gE|exact trivial|(with_reducible refine And.intro ?_ ?_))
  clear nle;simp -dsimp only[↓WB,↓tL,WP,ae,Nat.reduceEqDiff,Nat.reduceAdd,↓b6,↓b37,↓b8,↓e6,d0,d1,d2,d3,dd,ww,q1,q2];refine kQ (es':=[(97,.int .i32 97,.int .i64 (a.toNat:Int)),(98,.int .i32 98,.int .i64 (b.toNat:Int)),(99,.int .i32 99,.int .i64 (c.toNat:Int)),(110,.int .i32 110,.int .i64 ((256*b.toNat+c.toNat:Nat):Int))]) (by omega) m5 jP gX rfl rfl ?_;replace m5:({ h8 with b:=h8.b.set h4.n (.smap [(97,.int .i32 97,.int .i64 (a.toNat:Int)),(98,.int .i32 98,.int .i64 (b.toNat:Int)),(99,.int .i32 99,.int .i64 (c.toNat:Int)),(110,.int .i32 110,.int .i64 ((256*b.toNat+c.toNat:Nat):Int))]) }:Heap).b.get h4.n=some (.smap [(97,.int .i32 97,.int .i64 (a.toNat:Int)),(98,.int .i32 98,.int .i64 (b.toNat:Int)),(99,.int .i32 99,.int .i64 (c.toNat:Int)),(110,.int .i32 110,.int .i64 ((256*b.toNat+c.toNat:Nat):Int))]):=T.get_set_same _ _ _;replace X5:ai h1.n h1 { h8 with b:=h8.b.set h4.n (.smap [(97,.int .i32 97,.int .i64 (a.toNat:Int)),(98,.int .i32 98,.int .i64 (b.toNat:Int)),(99,.int .i32 99,.int .i64 (c.toNat:Int)),(110,.int .i32 110,.int .i64 ((256*b.toNat+c.toNat:Nat):Int))]) }:=X5.trans (ai.set _ (by omega));replace n5:({ h8 with b:=h8.b.set h4.n (.smap [(97,.int .i32 97,.int .i64 (a.toNat:Int)),(98,.int .i32 98,.int .i64 (b.toNat:Int)),(99,.int .i32 99,.int .i64 (c.toNat:Int)),(110,.int .i32 110,.int .i64 ((256*b.toNat+c.toNat:Nat):Int))]) }:Heap).n=h4.n+1:=n5;replace i5:({ h8 with b:=h8.b.set h4.n (.smap [(97,.int .i32 97,.int .i64 (a.toNat:Int)),(98,.int .i32 98,.int .i64 (b.toNat:Int)),(99,.int .i32 99,.int .i64 (c.toNat:Int)),(110,.int .i32 110,.int .i64 ((256*b.toNat+c.toNat:Nat):Int))]) }:Heap).b.get h1.n=some (.aO ⟨nm.toArray⟩ (j+1)):=by rw[← i5];exact T.ar _ _ (by omega)
  replace d0:cellAt { h8 with b:=h8.b.set h4.n (.smap [(97,.int .i32 97,.int .i64 (a.toNat:Int)),(98,.int .i32 98,.int .i64 (b.toNat:Int)),(99,.int .i32 99,.int .i64 (c.toNat:Int)),(110,.int .i32 110,.int .i64 ((256*b.toNat+c.toNat:Nat):Int))]) } ⟨xb,0,none⟩=_:=(bC hx5).trans d0;replace d1:cellAt { h8 with b:=h8.b.set h4.n (.smap [(97,.int .i32 97,.int .i64 (a.toNat:Int)),(98,.int .i32 98,.int .i64 (b.toNat:Int)),(99,.int .i32 99,.int .i64 (c.toNat:Int)),(110,.int .i32 110,.int .i64 ((256*b.toNat+c.toNat:Nat):Int))]) } ⟨xb,1,none⟩=_:=(bC hx5).trans d1;replace d2:cellAt { h8 with b:=h8.b.set h4.n (.smap [(97,.int .i32 97,.int .i64 (a.toNat:Int)),(98,.int .i32 98,.int .i64 (b.toNat:Int)),(99,.int .i32 99,.int .i64 (c.toNat:Int)),(110,.int .i32 110,.int .i64 ((256*b.toNat+c.toNat:Nat):Int))]) } ⟨xb,2,none⟩=_:=(bC hx5).trans d2;replace d3:cellAt { h8 with b:=h8.b.set h4.n (.smap [(97,.int .i32 97,.int .i64 (a.toNat:Int)),(98,.int .i32 98,.int .i64 (b.toNat:Int)),(99,.int .i32 99,.int .i64 (c.toNat:Int)),(110,.int .i32 110,.int .i64 ((256*b.toNat+c.toNat:Nat):Int))]) } ⟨xb,3,none⟩=_:=(bC hx5).trans d3;replace dd:ax { h8 with b:=h8.b.set h4.n (.smap [(97,.int .i32 97,.int .i64 (a.toNat:Int)),(98,.int .i32 98,.int .i64 (b.toNat:Int)),(99,.int .i32 99,.int .i64 (c.toNat:Int)),(110,.int .i32 110,.int .i64 ((256*b.toNat+c.toNat:Nat):Int))]) } ⟨xb,0,none⟩ 4=_:=(hO hx5).trans dd;have nle:h8.n≤({ h8 with b:=h8.b.set h4.n (.smap [(97,.int .i32 97,.int .i64 (a.toNat:Int)),(98,.int .i32 98,.int .i64 (b.toNat:Int)),(99,.int .i32 99,.int .i64 (c.toNat:Int)),(110,.int .i32 110,.int .i64 ((256*b.toNat+c.toNat:Nat):Int))]) }:Heap).n:=Nat.le_refl _;generalize ({ h8 with b:=h8.b.set h4.n (.smap [(97,.int .i32 97,.int .i64 (a.toNat:Int)),(98,.int .i32 98,.int .i64 (b.toNat:Int)),(99,.int .i32 99,.int .i64 (c.toNat:Int)),(110,.int .i32 110,.int .i64 ((256*b.toNat+c.toNat:Nat):Int))]) }:Heap)=h9 at X5 m5 n5 i5 d0 d1 d2 d3 dd nle ⊢;refine⟨nle,?_,?_⟩;·simp -dsimp only[↓WB,↓tL,WP,ae,Nat.reduceEqDiff,Nat.reduceAdd,↓b6,↓b37,↓b8,↓e6,d0,d1,d2,d3,dd,ww,q1,q2];repeat' (first|exact cZ _ _ _|exact gE|exact trivial|(with_reducible refine And.intro ?_ ?_))
  clear nle;simp -dsimp only[↓WB,↓tL,WP,ae,Nat.reduceEqDiff,Nat.reduceAdd,↓b6,↓b37,↓b8,↓e6,d0,d1,d2,d3,dd,ww,q1,q2];refine kQ (es':=[(97,.int .i32 97,.int .i64 (a.toNat:Int)),(98,.int .i32 98,.int .i64 (b.toNat:Int)),(99,.int .i32 99,.int .i64 (c.toNat:Int)),(100,.int .i32 100,.int .i64 (bS (256*b.toNat+c.toNat))),(110,.int .i32 110,.int .i64 ((256*b.toNat+c.toNat:Nat):Int))]) (by omega) m5 jP gX rfl rfl ?_;replace m5:({ h9 with b:=h9.b.set h4.n (.smap [(97,.int .i32 97,.int .i64 (a.toNat:Int)),(98,.int .i32 98,.int .i64 (b.toNat:Int)),(99,.int .i32 99,.int .i64 (c.toNat:Int)),(100,.int .i32 100,.int .i64 (bS (256*b.toNat+c.toNat))),(110,.int .i32 110,.int .i64 ((256*b.toNat+c.toNat:Nat):Int))]) }:Heap).b.get h4.n=some (.smap [(97,.int .i32 97,.int .i64 (a.toNat:Int)),(98,.int .i32 98,.int .i64 (b.toNat:Int)),(99,.int .i32 99,.int .i64 (c.toNat:Int)),(100,.int .i32 100,.int .i64 (bS (256*b.toNat+c.toNat))),(110,.int .i32 110,.int .i64 ((256*b.toNat+c.toNat:Nat):Int))]):=T.get_set_same _ _ _;replace X5:ai h1.n h1 { h9 with b:=h9.b.set h4.n (.smap [(97,.int .i32 97,.int .i64 (a.toNat:Int)),(98,.int .i32 98,.int .i64 (b.toNat:Int)),(99,.int .i32 99,.int .i64 (c.toNat:Int)),(100,.int .i32 100,.int .i64 (bS (256*b.toNat+c.toNat))),(110,.int .i32 110,.int .i64 ((256*b.toNat+c.toNat:Nat):Int))]) }:=X5.trans (ai.set _ (by omega));replace n5:({ h9 with b:=h9.b.set h4.n (.smap [(97,.int .i32 97,.int .i64 (a.toNat:Int)),(98,.int .i32 98,.int .i64 (b.toNat:Int)),(99,.int .i32 99,.int .i64 (c.toNat:Int)),(100,.int .i32 100,.int .i64 (bS (256*b.toNat+c.toNat))),(110,.int .i32 110,.int .i64 ((256*b.toNat+c.toNat:Nat):Int))]) }:Heap).n=h4.n+1:=n5;replace i5:({ h9 with b:=h9.b.set h4.n (.smap [(97,.int .i32 97,.int .i64 (a.toNat:Int)),(98,.int .i32 98,.int .i64 (b.toNat:Int)),(99,.int .i32 99,.int .i64 (c.toNat:Int)),(100,.int .i32 100,.int .i64 (bS (256*b.toNat+c.toNat))),(110,.int .i32 110,.int .i64 ((256*b.toNat+c.toNat:Nat):Int))]) }:Heap).b.get h1.n=some (.aO ⟨nm.toArray⟩ (j+1)):=by rw[← i5];exact T.ar _ _ (by omega)
  replace d0:cellAt { h9 with b:=h9.b.set h4.n (.smap [(97,.int .i32 97,.int .i64 (a.toNat:Int)),(98,.int .i32 98,.int .i64 (b.toNat:Int)),(99,.int .i32 99,.int .i64 (c.toNat:Int)),(100,.int .i32 100,.int .i64 (bS (256*b.toNat+c.toNat))),(110,.int .i32 110,.int .i64 ((256*b.toNat+c.toNat:Nat):Int))]) } ⟨xb,0,none⟩=_:=(bC hx5).trans d0;replace d1:cellAt { h9 with b:=h9.b.set h4.n (.smap [(97,.int .i32 97,.int .i64 (a.toNat:Int)),(98,.int .i32 98,.int .i64 (b.toNat:Int)),(99,.int .i32 99,.int .i64 (c.toNat:Int)),(100,.int .i32 100,.int .i64 (bS (256*b.toNat+c.toNat))),(110,.int .i32 110,.int .i64 ((256*b.toNat+c.toNat:Nat):Int))]) } ⟨xb,1,none⟩=_:=(bC hx5).trans d1;replace d2:cellAt { h9 with b:=h9.b.set h4.n (.smap [(97,.int .i32 97,.int .i64 (a.toNat:Int)),(98,.int .i32 98,.int .i64 (b.toNat:Int)),(99,.int .i32 99,.int .i64 (c.toNat:Int)),(100,.int .i32 100,.int .i64 (bS (256*b.toNat+c.toNat))),(110,.int .i32 110,.int .i64 ((256*b.toNat+c.toNat:Nat):Int))]) } ⟨xb,2,none⟩=_:=(bC hx5).trans d2;replace d3:cellAt { h9 with b:=h9.b.set h4.n (.smap [(97,.int .i32 97,.int .i64 (a.toNat:Int)),(98,.int .i32 98,.int .i64 (b.toNat:Int)),(99,.int .i32 99,.int .i64 (c.toNat:Int)),(100,.int .i32 100,.int .i64 (bS (256*b.toNat+c.toNat))),(110,.int .i32 110,.int .i64 ((256*b.toNat+c.toNat:Nat):Int))]) } ⟨xb,3,none⟩=_:=(bC hx5).trans d3;replace dd:ax { h9 with b:=h9.b.set h4.n (.smap [(97,.int .i32 97,.int .i64 (a.toNat:Int)),(98,.int .i32 98,.int .i64 (b.toNat:Int)),(99,.int .i32 99,.int .i64 (c.toNat:Int)),(100,.int .i32 100,.int .i64 (bS (256*b.toNat+c.toNat))),(110,.int .i32 110,.int .i64 ((256*b.toNat+c.toNat:Nat):Int))]) } ⟨xb,0,none⟩ 4=_:=(hO hx5).trans dd;have nle:h9.n≤({ h9 with b:=h9.b.set h4.n (.smap [(97,.int .i32 97,.int .i64 (a.toNat:Int)),(98,.int .i32 98,.int .i64 (b.toNat:Int)),(99,.int .i32 99,.int .i64 (c.toNat:Int)),(100,.int .i32 100,.int .i64 (bS (256*b.toNat+c.toNat))),(110,.int .i32 110,.int .i64 ((256*b.toNat+c.toNat:Nat):Int))]) }:Heap).n:=Nat.le_refl _;generalize ({ h9 with b:=h9.b.set h4.n (.smap [(97,.int .i32 97,.int .i64 (a.toNat:Int)),(98,.int .i32 98,.int .i64 (b.toNat:Int)),(99,.int .i32 99,.int .i64 (c.toNat:Int)),(100,.int .i32 100,.int .i64 (bS (256*b.toNat+c.toNat))),(110,.int .i32 110,.int .i64 ((256*b.toNat+c.toNat:Nat):Int))]) }:Heap)=h10 at X5 m5 n5 i5 d0 d1 d2 d3 dd nle ⊢;refine⟨nle,?_,?_⟩;·simp -dsimp only[↓WB,↓tL,WP,ae,Nat.reduceEqDiff,Nat.reduceAdd,↓b6,↓b37,↓b8,↓e6,d0,d1,d2,d3,dd,ww,q1,q2];repeat' (first|exact cZ _ _ _|exact gE|exact trivial|(with_reducible refine And.intro ?_ ?_))
  clear nle;simp -dsimp only[↓WB,↓tL,WP,ae,Nat.reduceEqDiff,Nat.reduceAdd,↓b6,↓b37,↓b8,↓e6,d0,d1,d2,d3,dd,ww,q1,q2];refine kQ (es':=[(97,.int .i32 97,.int .i64 (a.toNat:Int)),(98,.int .i32 98,.int .i64 (b.toNat:Int)),(99,.int .i32 99,.int .i64 (c.toNat:Int)),(100,.int .i32 100,.int .i64 (bS (256*b.toNat+c.toNat))),(107,.int .i32 107,.int .i64 (IntKind.wrap .i64 (IntKind.wrap .u8 ((o.toNat:Int)-16)))),(110,.int .i32 110,.int .i64 ((256*b.toNat+c.toNat:Nat):Int))]) (by omega) m5 jP gX rfl rfl ?_;replace m5:({ h10 with b:=h10.b.set h4.n (.smap [(97,.int .i32 97,.int .i64 (a.toNat:Int)),(98,.int .i32 98,.int .i64 (b.toNat:Int)),(99,.int .i32 99,.int .i64 (c.toNat:Int)),(100,.int .i32 100,.int .i64 (bS (256*b.toNat+c.toNat))),(107,.int .i32 107,.int .i64 (IntKind.wrap .i64 (IntKind.wrap .u8 ((o.toNat:Int)-16)))),(110,.int .i32 110,.int .i64 ((256*b.toNat+c.toNat:Nat):Int))]) }:Heap).b.get h4.n=some (.smap [(97,.int .i32 97,.int .i64 (a.toNat:Int)),(98,.int .i32 98,.int .i64 (b.toNat:Int)),(99,.int .i32 99,.int .i64 (c.toNat:Int)),(100,.int .i32 100,.int .i64 (bS (256*b.toNat+c.toNat))),(107,.int .i32 107,.int .i64 (IntKind.wrap .i64 (IntKind.wrap .u8 ((o.toNat:Int)-16)))),(110,.int .i32 110,.int .i64 ((256*b.toNat+c.toNat:Nat):Int))]):=T.get_set_same _ _ _;replace X5:ai h1.n h1 { h10 with b:=h10.b.set h4.n (.smap [(97,.int .i32 97,.int .i64 (a.toNat:Int)),(98,.int .i32 98,.int .i64 (b.toNat:Int)),(99,.int .i32 99,.int .i64 (c.toNat:Int)),(100,.int .i32 100,.int .i64 (bS (256*b.toNat+c.toNat))),(107,.int .i32 107,.int .i64 (IntKind.wrap .i64 (IntKind.wrap .u8 ((o.toNat:Int)-16)))),(110,.int .i32 110,.int .i64 ((256*b.toNat+c.toNat:Nat):Int))]) }:=X5.trans (ai.set _ (by omega));replace n5:({ h10 with b:=h10.b.set h4.n (.smap [(97,.int .i32 97,.int .i64 (a.toNat:Int)),(98,.int .i32 98,.int .i64 (b.toNat:Int)),(99,.int .i32 99,.int .i64 (c.toNat:Int)),(100,.int .i32 100,.int .i64 (bS (256*b.toNat+c.toNat))),(107,.int .i32 107,.int .i64 (IntKind.wrap .i64 (IntKind.wrap .u8 ((o.toNat:Int)-16)))),(110,.int .i32 110,.int .i64 ((256*b.toNat+c.toNat:Nat):Int))]) }:Heap).n=h4.n+1:=n5;replace i5:({ h10 with b:=h10.b.set h4.n (.smap [(97,.int .i32 97,.int .i64 (a.toNat:Int)),(98,.int .i32 98,.int .i64 (b.toNat:Int)),(99,.int .i32 99,.int .i64 (c.toNat:Int)),(100,.int .i32 100,.int .i64 (bS (256*b.toNat+c.toNat))),(107,.int .i32 107,.int .i64 (IntKind.wrap .i64 (IntKind.wrap .u8 ((o.toNat:Int)-16)))),(110,.int .i32 110,.int .i64 ((256*b.toNat+c.toNat:Nat):Int))]) }:Heap).b.get h1.n=some (.aO ⟨nm.toArray⟩ (j+1)):=by rw[← i5];exact T.ar _ _ (by omega)
  replace d0:cellAt { h10 with b:=h10.b.set h4.n (.smap [(97,.int .i32 97,.int .i64 (a.toNat:Int)),(98,.int .i32 98,.int .i64 (b.toNat:Int)),(99,.int .i32 99,.int .i64 (c.toNat:Int)),(100,.int .i32 100,.int .i64 (bS (256*b.toNat+c.toNat))),(107,.int .i32 107,.int .i64 (IntKind.wrap .i64 (IntKind.wrap .u8 ((o.toNat:Int)-16)))),(110,.int .i32 110,.int .i64 ((256*b.toNat+c.toNat:Nat):Int))]) } ⟨xb,0,none⟩=_:=(bC hx5).trans d0;replace d1:cellAt { h10 with b:=h10.b.set h4.n (.smap [(97,.int .i32 97,.int .i64 (a.toNat:Int)),(98,.int .i32 98,.int .i64 (b.toNat:Int)),(99,.int .i32 99,.int .i64 (c.toNat:Int)),(100,.int .i32 100,.int .i64 (bS (256*b.toNat+c.toNat))),(107,.int .i32 107,.int .i64 (IntKind.wrap .i64 (IntKind.wrap .u8 ((o.toNat:Int)-16)))),(110,.int .i32 110,.int .i64 ((256*b.toNat+c.toNat:Nat):Int))]) } ⟨xb,1,none⟩=_:=(bC hx5).trans d1;replace d2:cellAt { h10 with b:=h10.b.set h4.n (.smap [(97,.int .i32 97,.int .i64 (a.toNat:Int)),(98,.int .i32 98,.int .i64 (b.toNat:Int)),(99,.int .i32 99,.int .i64 (c.toNat:Int)),(100,.int .i32 100,.int .i64 (bS (256*b.toNat+c.toNat))),(107,.int .i32 107,.int .i64 (IntKind.wrap .i64 (IntKind.wrap .u8 ((o.toNat:Int)-16)))),(110,.int .i32 110,.int .i64 ((256*b.toNat+c.toNat:Nat):Int))]) } ⟨xb,2,none⟩=_:=(bC hx5).trans d2;replace d3:cellAt { h10 with b:=h10.b.set h4.n (.smap [(97,.int .i32 97,.int .i64 (a.toNat:Int)),(98,.int .i32 98,.int .i64 (b.toNat:Int)),(99,.int .i32 99,.int .i64 (c.toNat:Int)),(100,.int .i32 100,.int .i64 (bS (256*b.toNat+c.toNat))),(107,.int .i32 107,.int .i64 (IntKind.wrap .i64 (IntKind.wrap .u8 ((o.toNat:Int)-16)))),(110,.int .i32 110,.int .i64 ((256*b.toNat+c.toNat:Nat):Int))]) } ⟨xb,3,none⟩=_:=(bC hx5).trans d3;replace dd:ax { h10 with b:=h10.b.set h4.n (.smap [(97,.int .i32 97,.int .i64 (a.toNat:Int)),(98,.int .i32 98,.int .i64 (b.toNat:Int)),(99,.int .i32 99,.int .i64 (c.toNat:Int)),(100,.int .i32 100,.int .i64 (bS (256*b.toNat+c.toNat))),(107,.int .i32 107,.int .i64 (IntKind.wrap .i64 (IntKind.wrap .u8 ((o.toNat:Int)-16)))),(110,.int .i32 110,.int .i64 ((256*b.toNat+c.toNat:Nat):Int))]) } ⟨xb,0,none⟩ 4=_:=(hO hx5).trans dd;have nle:h10.n≤({ h10 with b:=h10.b.set h4.n (.smap [(97,.int .i32 97,.int .i64 (a.toNat:Int)),(98,.int .i32 98,.int .i64 (b.toNat:Int)),(99,.int .i32 99,.int .i64 (c.toNat:Int)),(100,.int .i32 100,.int .i64 (bS (256*b.toNat+c.toNat))),(107,.int .i32 107,.int .i64 (IntKind.wrap .i64 (IntKind.wrap .u8 ((o.toNat:Int)-16)))),(110,.int .i32 110,.int .i64 ((256*b.toNat+c.toNat:Nat):Int))]) }:Heap).n:=Nat.le_refl _;generalize ({ h10 with b:=h10.b.set h4.n (.smap [(97,.int .i32 97,.int .i64 (a.toNat:Int)),(98,.int .i32 98,.int .i64 (b.toNat:Int)),(99,.int .i32 99,.int .i64 (c.toNat:Int)),(100,.int .i32 100,.int .i64 (bS (256*b.toNat+c.toNat))),(107,.int .i32 107,.int .i64 (IntKind.wrap .i64 (IntKind.wrap .u8 ((o.toNat:Int)-16)))),(110,.int .i32 110,.int .i64 ((256*b.toNat+c.toNat:Nat):Int))]) }:Heap)=h11 at X5 m5 n5 i5 d0 d1 d2 d3 dd nle ⊢;refine⟨nle,?_,?_⟩;·simp -dsimp only[↓WB,↓tL,WP,ae,Nat.reduceEqDiff,Nat.reduceAdd,↓b6,↓b37,↓b8,↓e6,d0,d1,d2,d3,dd,ww,q1,q2];repeat' (first|exact cZ _ _ _|exact gE|exact trivial|(with_reducible refine And.intro ?_ ?_))
  clear nle;simp -dsimp only[↓WB,↓tL,WP,ae,Nat.reduceEqDiff,Nat.reduceAdd,↓b6,↓b37,↓b8,↓e6,d0,d1,d2,d3,dd,ww,q1,q2];refine RL (by omega) m5 hch ?_;have vb:=oT o a b c nm[j];have hln:=vP (o:=o) (a:=a) (b:=b) (c:=c) (nm.take j);have hlt3:(nm.take j).length≤3:=by rw[List.length_take];omega
  have hsuc:=De (o:=o) (a:=a) (b:=b) (c:=c) aB;have gk5:=gk.ext (B:=h1.n) gn X5;generalize gV o a b c nm[j]=vi at vb hsuc ⊢;(with_reducible repeat' (first|refine y5 ?_|simp -dsimp only[↓WB,↓tL,WP,ae,Nat.reduceEqDiff,Nat.reduceAdd,↓b8]));refine nQ gk5.t (by have:=gk5.n;omega) (by omega) (by omega) fun h12 X12=>?_;have il:=cA vi (by omega) (by omega);have n12:=X12.n;unfold qX aq;(with_reducible repeat' (first|refine y5 ?_|simp -dsimp only[↓WB,↓tL,WP,ae,Nat.reduceEqDiff,Nat.reduceAdd,↓b8,cM,aY,ak,List.length_append,List.length_cons,List.length_nil]));refine⟨nm.length-(j+1),by omega,j+1,by omega,rfl,X5.trans (X12.mono (by omega)),by omega,by rw[X12.get h1.n (by omega)];exact i5,?_⟩;rw[hsuc];simp[T.ah,aq]
 ·simp -dsimp only[↓WB,↓tL,WP,ae,Nat.reduceEqDiff,Nat.reduceAdd,↓b6,↓b37,↓b8,↓e6];refine mS i3 (by rw[ak];omega) ?_;rw[List.take_of_length_le (by omega)]at b8;simp -dsimp only[↓WB,↓tL,WP,ae,Nat.reduceEqDiff,Nat.reduceAdd,↓b6,↓b37,↓b8,↓e6];exact hK _ (X3.mono hB)
theorem yN {w:List UInt8}(h:∀ o a b c,w=[o,a,b,c]→eE o a b c=false):fk w=lH w:=by
 unfold fk;split;·rename_i o a b c;rw[h o a b c rfl,Bool.false_and];rfl
 ·rfl
theorem NT {B:Nat}{v:Value}{p:List UInt8}{k:Nat}{h:Heap}{K:Value→Heap→Prop}(r:Jp B h v p) (gk:rW h) (hB:B≤h.n) (hp:p.length≤50000) (hk:k≤50000)
  (hK:∀ (s:List UInt8) b h',ai h.n h h'→(b=true→fk (chunk p k)=s)→(b=false→fk (chunk p k)=lH (chunk p k))→K (.tuple #[aq s,.bool b]) h'):bT env (.func 68) [v,.int .i64 k] h K:=by
 refine F68 rfl ?_
 simp -dsimp only[↓WB,↓tL,WP,ae,Nat.reduceEqDiff,Nat.reduceAdd]
 refine EW r hB hp hk (fun o a b c h1 X1 hc hok=>?_) (fun e h1 X1 he hno=>?_)
 ·have n1:=X1.n;unfold fD;(with_reducible repeat' (first|refine y7 ?_|simp -dsimp only[↓WB,↓Da,↓vY,↓Cd,↓Df,WP,ae,Nat.reduceEqDiff,Nat.reduceAdd]));have B2:=dm.new h1 (bD o a b c) 125;have X2:ai h.n h (af h1 (.cells (bD o a b c) 125 true)):=X1.trans (ai.new _ (by omega));have n2:(af h1 (.cells (bD o a b c) 125 true)).n=h1.n+1:=rfl;show Aw.wp env 68 none _ (af h1 (.cells (bD o a b c) 125 true)) _;generalize af h1 (.cells (bD o a b c) 125 true)=h2 at B2 X2 n2 ⊢;have d0:=B2.at_ (j:=0) rfl;have dd:ax h2 ⟨h1.n,0,none⟩ 4=some (bD o a b c):=aJ (off:=0) (n:=4) B2.lt B2.get rfl rfl;simp only[bD,aw]at d0 dd;simp -dsimp only[↓WB,↓tL,WP,ae,Nat.reduceEqDiff,Nat.reduceAdd,d0];refine kO ?_;have hchs:=tf o.toNat;have hlen:=qt o.toNat;simp -dsimp only[↓WB,↓tL,WP,ae,Nat.reduceEqDiff,Nat.reduceAdd,d0,dd];refine I2 (o:=o) (a:=a) (b:=b) (c:=c) (nm:=(dF o.toNat).2.1) hchs hlen fun h3 X3=>?_;have n3:=X3.n;have dd3:=cJ X3 (by have:=B2.lt;omega) dd;refine⟨n3,?_,?_⟩;·simp -dsimp only[↓WB,↓tL,WP,ae,Nat.reduceEqDiff,Nat.reduceAdd,dd3];exact gE
  unfold fD;have hpl:bZ o a b c=decide (bR (dF o.toNat).2.1 a b c=(a,b,c)):=rfl;by_cases hpk:bR (dF o.toNat).2.1 a b c=(a,b,c)
  ·rw[hpk];have gk3:=(gk.ext (B:=h.n) gk.n X2).ext (B:=h2.n) (by have:=gk.n;omega) X3;simp -dsimp only[↓WB,↓Da,↓Cd,↓w7,↓Df,WP,ae,Nat.reduceEqDiff,Nat.reduceAdd,dd3];refine HF (B:=h.n) (xb:=h1.n) (o:=o) (a:=a) (b:=b) (c:=c) (by omega) ?_ ?_ ?_ gk3 (B2.ext X3 B2.lt) fun h4 X4=>?_;·simp[T.ah]
   ·simp[T.ah]
   ·simp[T.ah]
   refine hK _ _ _ ((X2.trans (X3.mono (by omega))).trans X4) (fun _=>?_) (fun e=>by cases e);rw[hc,fk,hok,hpl,decide_eq_true hpk];rfl
  ·have hne:¬(((bR (dF o.toNat).2.1 a b c).1.toNat:Int)=(a.toNat:Int)∧((bR (dF o.toNat).2.1 a b c).2.1.toNat:Int)=(b.toNat:Int)∧((bR (dF o.toNat).2.1 a b c).2.2.toNat:Int)=(c.toNat:Int)):=by intro ⟨e1,e2,e3⟩;apply hpk;refine Prod.ext (UInt8.toNat_inj.1 (show (bR (dF o.toNat).2.1 a b c).1.toNat=a.toNat by omega)) (Prod.ext (UInt8.toNat_inj.1 (show (bR (dF o.toNat).2.1 a b c).2.1.toNat=b.toNat by omega)) (UInt8.toNat_inj.1 (show (bR (dF o.toNat).2.1 a b c).2.2.toNat=c.toNat by omega)))
   simp -dsimp only[↓WB,↓Da,↓Cd,↓w7,↓Df,WP,ae,Nat.reduceEqDiff,Nat.reduceAdd,dd3,hne];refine hK [] false _ (X2.trans (X3.mono (by omega))) (fun e=>by cases e) fun _=>?_;rw[hc,fk,hok,hpl,decide_eq_false hpk];rfl
 ·have n1:=X1.n;unfold fD;(with_reducible repeat' (first|refine y7 ?_|simp -dsimp only[↓WB,↓Da,↓vY,↓Cd,↓Df,WP,ae,Nat.reduceEqDiff,Nat.reduceAdd]));have B2:=dm.new h1 (bD 0 0 0 0) 125;have X2:ai h.n h (af h1 (.cells (bD 0 0 0 0) 125 true)):=X1.trans (ai.new _ (by omega));have n2:(af h1 (.cells (bD 0 0 0 0) 125 true)).n=h1.n+1:=rfl;show Aw.wp env 68 none _ (af h1 (.cells (bD 0 0 0 0) 125 true)) _;generalize af h1 (.cells (bD 0 0 0 0) 125 true)=h2 at B2 X2 n2 ⊢;have d0:=B2.at_ (j:=0) rfl;simp only[aw]at d0;simp -dsimp only[↓WB,↓tL,WP,ae,Nat.reduceEqDiff,Nat.reduceAdd,d0];refine kO ?_;simp -dsimp only[↓WB,↓tL,WP,ae,Nat.reduceEqDiff,Nat.reduceAdd,d0,he];exact hK [] false _ X2 (fun e=>by cases e) fun _=>yN hno
def gP (l:List UInt8):List UInt8:=l.flatMap fun x=>[cW (x / 16),cW (x%16)]
theorem zw {l:List UInt8}{j:Nat}(hj:j<l.length):gP (l.take (j+1))=gP (l.take j)++[cW (l[j] / 16),cW (l[j]%16)]:=by unfold gP;rw[← List.take_append_getElem hj,List.flatMap_append];simp
theorem n9 (l:List UInt8):(gP l).length=2*l.length:=by
 induction l with
 | nil=>rfl
 | cons x l ih=>unfold gP at ih ⊢;simp only[List.flatMap_cons,List.length_append,List.length_cons,List.length_nil,ih];omega
def pJ:List UInt8:=[48,49,50,51,52,53,54,55,56,57,97,98,99,100,101,102]
theorem G0:∀ i (h:i<pJ.length),pJ[i]=cW (UInt8.ofNat i):=by decide
theorem VX (x:UInt8):x / 16=UInt8.ofNat (x.toNat / 16):=by apply UInt8.toNat_inj.1;have:=x.toNat_lt;rw[UInt8.toNat_div,UInt8.toNat_ofNat'];have:(16:UInt8).toNat=16:=rfl;rw[this,Nat.mod_eq_of_lt (by omega)]
theorem WZ (x:UInt8):x%16=UInt8.ofNat (x.toNat%16):=by apply UInt8.toNat_inj.1;have:=x.toNat_lt;rw[UInt8.toNat_mod,UInt8.toNat_ofNat'];have:(16:UInt8).toNat=16:=rfl;rw[this];omega
theorem WK (x:UInt8) (h:x.toNat / 16<pJ.length):pJ[x.toNat / 16]=cW (x / 16):=by rw[G0,VX]
theorem Ww (x:UInt8) (h:x.toNat%16<pJ.length):pJ[x.toNat%16]=cW (x%16):=by rw[G0,WZ]
theorem shr4 (x:UInt8):((x.toNat:Int).fdiv (2 ^ min (Int.toNat 4) IntKind.u8.bits))=((x.toNat / 16:Nat):Int):=by
 have:(2:Int) ^ min (Int.toNat 4) IntKind.u8.bits=16:=by decide
 rw[this,Int.fdiv_eq_ediv_of_nonneg _ (by decide)];omega
theorem XJ (x:UInt8):IntKind.wrap .u8 ((BitVec.ofInt IntKind.u8.bits (x.toNat:Int) &&& BitVec.ofInt IntKind.u8.bits 15).toNat:Int)=((x.toNat%16:Nat):Int):=by
 have hx:=x.toNat_lt;have h1:(BitVec.ofInt IntKind.u8.bits (x.toNat:Int) &&& BitVec.ofInt IntKind.u8.bits 15).toNat=x.toNat%16:=by
  rw[BitVec.toNat_and];show (BitVec.ofInt 8 (x.toNat:Int)).toNat &&& (BitVec.ofInt 8 15).toNat=_;rw[BitVec.ofInt_natCast,BitVec.toNat_ofNat,Nat.mod_eq_of_lt (by omega)];have:(BitVec.ofInt 8 15).toNat=2 ^ 4-1:=by decide
  rw[this,Nat.and_two_pow_sub_one_eq_mod]
 rw[h1];exact wrap_u8 (by omega) (by omega)
theorem Y0:IntKind.wrap .i64 1=1:=by decide
theorem Xk {x:UInt8}{K:Value→Prop}(q:K (aw (cW (x / 16)))):Ah env 9 (.string ⟨⟨[48,49,50,51,52,53,54,55,56,57,97,98,99,100,101,102]⟩⟩) (.int .u8 ((x.toNat / 16:Nat):Int)) K:=by
 have hx:=x.toNat_lt;have hl:x.toNat / 16<pJ.length:=by show _<16;omega
 refine iO (l:=pJ) iV hl ?_;rw[WK x hl];exact q
theorem Xm {x:UInt8}{K:Value→Prop}(q:K (aw (cW (x%16)))):Ah env 9 (.string ⟨⟨[48,49,50,51,52,53,54,55,56,57,97,98,99,100,101,102]⟩⟩) (.int .u8 ((x.toNat%16:Nat):Int)) K:=by
 have hx:=x.toNat_lt;have hl:x.toNat%16<pJ.length:=by show _<16;omega
 refine iO (l:=pJ) iV hl ?_;rw[Ww x hl];exact q
def iR:List UInt8:=[114,97,119,32]
def Ym (h0 h:Heap) (v:Value) (k:Nat) (l:List UInt8):Prop :=
 (k=0∧l=[]∧v=.slice (some ⟨h0.n,0,none⟩) 4 4∧h0.n<h.n∧ax h ⟨h0.n,0,none⟩ 4=some (iR.map aw))∨(∃ i,v=.slice (some ⟨i,0,none⟩) (4+2*k) cY∧h0.n≤i∧i<h.n∧h.b.get i=some (.cells ((iR++l).map aw) 5 false))
theorem RQ {B i off c:Nat}{w:List UInt8}{h:Heap}{K:Value→Heap→Prop}(hi:i<B) (hB:B≤h.n) (hc:ax h ⟨i,off,none⟩ w.length=some (w.map aw)) (hw:w.length≤4)
   (hK:∀ h',ai h.n h h'→K (aq (lH w)) h'):bT env (.func 69) [.slice (some ⟨i,off,none⟩) w.length c] h K:=by
 refine F69 rfl ?_
 simp -dsimp only[↓WB,↓Fp,WP,ae,Nat.reduceEqDiff,Nat.reduceAdd]
 refine lf (l:=iR.map aw) rfl ?_
 have X1:ai h.n h (af h (.cells (iR.map aw) 5 true)):=ai.new _ (Nat.le_refl _)
 have g1:(af h (.cells (iR.map aw) 5 true)).b.get h.n=some (.cells (iR.map aw) 5 true):=aC _ _
 have n1:(af h (.cells (iR.map aw) 5 true)).n=h.n+1:=rfl
 generalize af h (.cells (iR.map aw) 5 true)=h1 at X1 g1 n1 ⊢
 simp -dsimp only[↓WB,↓Fp,WP,ae,Nat.reduceEqDiff,Nat.reduceAdd]
 rw[VD (t:=36) (by kernel_rfl)]
 simp -dsimp only[↓WB,↓Fp,WP,ae,Nat.reduceEqDiff,Nat.reduceAdd]
 refine Xr (n:=4) (c:=4) (by kernel_rfl) (by omega) (by decide) g1 ?_
 have X2:ai h.n h { h1 with b:=h1.b.set h.n (.ro fun j=>nth (iR.map aw) j) }:=X1.trans (ai.set _ (Nat.le_refl _))
 have g2:({ h1 with b:=h1.b.set h.n (.ro fun j=>nth (iR.map aw) j) }:Heap).b.get h.n=some (.ro fun j=>nth (iR.map aw) j):=T.get_set_same _ _ _
 have n2:({ h1 with b:=h1.b.set h.n (.ro fun j=>nth (iR.map aw) j) }:Heap).n=h.n+1:=n1
 generalize ({ h1 with b:=h1.b.set h.n (.ro fun j=>nth (iR.map aw) j) }:Heap)=h2 at X2 g2 n2 ⊢
 have c2:ax h2 ⟨h.n,0,none⟩ 4=some (iR.map aw):=by
   have:Nat.blt h.n h2.n=true:=by rw[blt_eq];exact decide_eq_true (by omega)
   simp only[ax,this,g2];rfl
 simp -dsimp only[↓WB,↓Fp,WP,ae,Nat.reduceEqDiff,Nat.reduceAdd]
 refine aE (fun m fr' h'=>∃ (k:Nat) (v:Value),k≤w.length∧m=w.length-k∧ai h.n h h'∧fr'.get 3=some v∧fr'.get 10=some (.int .i64 k)∧Ym h h' v k (gP (w.take k))) w.length ?_ (by omega) ?_
 · exact⟨0,_,by omega,by omega,X2,by simp[T.ah],by simp[T.ah],.inl ⟨rfl,rfl,rfl,by omega,c2⟩⟩
 clear X2 g2 n2 c2 X1 g1 n1
 rintro m fr2 h3 ⟨k,v,hk,rfl,X3,f3,f10,R⟩ hag
 have e3:=aj f3
 have o_:=aj f10
 have b8:=au (hag 8 rfl)
 have b9:=au (hag 9 rfl)
 have n3:=X3.n
 by_cases aB:k<w.length
 · have d:=aI (X3.mono hB) hi (fO hc (j:=k) (v:=aw w[k]) (by rw[List.getElem?_map,List.getElem?_eq_getElem aB];rfl));unfold aw at d;have hx:=w[k].toNat_lt;have s4:=shr4 w[k];have a15:=XJ w[k];have hsc:=zw aB;(with_reducible repeat' (first|refine y1 ?_|refine y4 ?_|refine y5 ?_|simp -dsimp only[↓WB,↓Fp,WP,ae,Nat.reduceEqDiff,Nat.reduceAdd,↓e3,↓o_,↓b8,↓b9,d,Nat.mul_one,s4,a15,↓ui]));refine Xk ?_;(with_reducible repeat' (first|refine y5 ?_|simp -dsimp only[↓WB,↓Fp,WP,ae,Nat.reduceEqDiff,Nat.reduceAdd,↓e3,↓o_,↓b8,↓b9,d,Nat.mul_one,s4,a15,↓ui]));refine Xm ?_;(with_reducible repeat' (first|refine y5 ?_|simp -dsimp only[↓WB,↓Fp,WP,ae,Nat.reduceEqDiff,Nat.reduceAdd,↓e3,↓o_,↓b8,↓b9,d,Nat.mul_one,s4,a15,↓ui]));refine lf (l:=[aw (cW (w[k] / 16)),aw (cW (w[k]%16))]) rfl ?_;have n4:(af h3 (.cells [aw (cW (w[k] / 16)),aw (cW (w[k]%16))] 5 true)).n=h3.n+1:=rfl;have X4:ai h3.n h3 (af h3 (.cells [aw (cW (w[k] / 16)),aw (cW (w[k]%16))] 5 true)):=ai.new _ (Nat.le_refl _);have g4:(af h3 (.cells [aw (cW (w[k] / 16)),aw (cW (w[k]%16))] 5 true)).b.get h3.n=some (.cells [aw (cW (w[k] / 16)),aw (cW (w[k]%16))] 5 true):=aC _ _;generalize af h3 (.cells [aw (cW (w[k] / 16)),aw (cW (w[k]%16))] 5 true)=h4 at n4 X4 g4 ⊢;have c4:ax h4 ⟨h3.n,0,none⟩ 2=some [aw (cW (w[k] / 16)),aw (cW (w[k]%16))]:=aJ (by omega) g4 rfl rfl;have hnew:firstCells h4 1 2 (.slice (some ⟨h3.n,0,none⟩) 2 2)=some [aw (cW (w[k] / 16)),aw (cW (w[k]%16))]:=by simp only[firstCells,Nat.mul_one];exact c4
   refine⟨by omega,?_,?_⟩;· simp -dsimp only[↓WB,↓Fp,WP,ae,Nat.reduceEqDiff,Nat.reduceAdd,↓e3,↓o_,↓b8,↓b9,d]
   have fin:∀ (fr3:Fr) (i':Nat) (h5:Heap),ai h.n h4 h5→h.n≤i'→i'<h5.n→h5.b.get i'=some (.cells ((iR++gP (w.take (k+1))).map aw) 5 false)→fr3.get 3=some (.slice (some ⟨i',0,none⟩) (4+2*(k+1)) cY)→fr3.get 10=some (.int .i64 ((k+1:Nat):Int)) →
       ∃ m',m'<w.length-k∧∃ (k':Nat) (v':Value),k'≤w.length∧m'=w.length-k'∧ai h.n h h5∧fr3.get 3=some v'∧fr3.get 10=some (.int .i64 k')∧Ym h h5 v' k' (gP (w.take k')) :=
     fun fr3 i' h5 X5 q1 q2 q3 q4 q5=>⟨w.length-(k+1),by omega,k+1,_,by omega,rfl,(X3.trans (X4.mono (by omega))).trans X5,q4,q5,.inr ⟨i',rfl,q1,q2,q3⟩⟩
   rcases R with ⟨rfl,hl0,rfl,hlt3,cr⟩|⟨i',rfl,r1,r2,r3⟩;· simp -dsimp only[↓WB,↓Fp,WP,ae,Nat.reduceEqDiff,Nat.reduceAdd,↓e3,↓o_,↓b8,↓b9,d];have cr4:=cJ X4 hlt3 cr;refine Kc (cs:=iR.map aw) (by decide) (by simp only[firstCells,Nat.mul_one];exact cr4) rfl (by decide) (by decide) hnew (by rfl) ?_;(with_reducible repeat' (first|refine y5 ?_|simp -dsimp only[↓WB,↓Fp,WP,ae,Nat.reduceEqDiff,Nat.reduceAdd,↓e3,↓o_,↓b8,↓b9,d]));refine fin _ h4.n _ (ai.new _ (by omega)) (by omega) (Nat.lt_succ_self _) ?_ (by simp[T.ah]) (by simp[T.ah,Y0]);rw[aC,hsc];simp[gP]
   · simp -dsimp only[↓WB,↓Fp,WP,ae,Nat.reduceEqDiff,Nat.reduceAdd,↓e3,↓o_,↓b8,↓b9,d];have O4:bn h.n h4 5 (.slice (some ⟨i',0,none⟩) (4+2*k) cY) (4+2*k) ((iR++gP (w.take k)).map aw):=.row i' _ _ r1 (by omega) (by rw[X4.get i' r2];exact r3);have hxl:=n9 (w.take k);rw[List.length_take,Nat.min_eq_left (by omega)]at hxl;refine Av O4 (by omega) (by simp[iR,hxl];omega) rfl (by decide) (by omega) hnew rfl (by rfl) (by decide) fun v' h5 O5 X5 n5=>?_;generalize hcs:(iR++gP (w.take k)).map aw++[aw (cW (w[k] / 16)),aw (cW (w[k]%16))]=cs at O5;generalize hnn:4+2*k+2=nn at O5;cases O5 with
     | nil=>omega
     | emp _ _=>omega
     | row i5 _ _ q1 q2 q3 =>
       (with_reducible repeat' (first|refine y5 ?_|simp -dsimp only[↓WB,↓Fp,WP,ae,Nat.reduceEqDiff,Nat.reduceAdd,↓e3,↓o_,↓b8,↓b9,d]));refine fin _ i5 _ X5 q1 q2 ?_ ?_ (by simp[T.ah,bf (show k≤4611686018427387904 by omega)]);· rw[q3,hsc,← hcs];simp
       · have:4+2*(k+1)=nn:=by omega
         rw[this];simp[T.ah]
 · have hkw:k=w.length:=by omega
   have hres:lH w=iR++gP w:=rfl;rw[hres]at hK;subst hkw;rw[List.take_length]at R;(with_reducible repeat' (first|refine y2 ?_|simp -dsimp only[↓WB,↓Fp,WP,ae,Nat.reduceEqDiff,Nat.reduceAdd,↓e3,↓o_,↓b8,↓b9]));rcases R with ⟨h0,hl0,rfl,hlt3,cr⟩|⟨i',rfl,r1,r2,r3⟩;· refine jn (l:=iR) cr ?_;rw[hl0,List.append_nil]at hK;unfold aq at hK;simp -dsimp only[↓WB,↓Fp,WP,ae,Nat.reduceEqDiff,Nat.reduceAdd,↓e3,↓o_,↓b8,↓b9];exact hK _ X3
   · have hxl:=n9 w;have hl:((iR++gP w).map aw).length=4+2*w.length:=by simp[iR,hxl];omega
     refine jn (l:=iR++gP w) (aJ r2 r3 ?_ hl) ?_;· rw[List.drop_zero,← hl,List.take_length]
     unfold aq at hK;simp -dsimp only[↓WB,↓Fp,WP,ae,Nat.reduceEqDiff,Nat.reduceAdd,↓e3,↓o_,↓b8,↓b9];exact hK _ X3
def lp (p:List UInt8) (k:Nat):List UInt8:=(List.range k).flatMap fun j=>cL (fk (chunk p j))
theorem pE (p:List UInt8) (k:Nat):lp p (k+1)=lp p k++cL (fk (chunk p k)):=by unfold lp;rw[List.range_succ,List.flatMap_append];simp
theorem Ab (p:List UInt8):c_ p=lp p ((p.length+3) / 4):=by unfold c_ bp lp;rw[List.flatMap_map]
theorem oU (w:List UInt8) (hw:w.length≤4):(fk w).length≤71:=by
 have hr:(lH w).length=4+2*w.length:=by show (iR++gP w).length=_;rw[List.length_append,n9];rfl
 unfold fk;split
 ·rename_i o a b c;split;·have h1:=BN o.toNat;have h2:=vP (o:=o) (a:=a) (b:=b) (c:=c) (dF o.toNat).2.1;have h3:=qt o.toNat;show ((dF o.toNat).1++mL o a b c (dF o.toNat).2.1).length≤71;rw[List.length_append];omega
  ·rw[hr];omega
 ·rw[hr];omega
theorem sN (p:List UInt8) (k:Nat):(lp p k).length≤72*k:=by
 induction k with
 | zero=>simp[lp]
 | succ k ih =>
   have:=oU (chunk p k) (by rw[fq];omega)
   rw[pE,List.length_append,cL,List.length_append,List.length_cons,List.length_nil]
   omega
theorem C6 {B:Nat}{h:Heap}{i n c:Nat}{p:List UInt8}(r:nu B h (.slice (some ⟨i,0,none⟩) n c) p) {k:Nat}(hk:4*k<p.length):i<B∧ax h ⟨i,4*k,none⟩ (chunk p k).length=some ((chunk p k).map aw):=by
 refine⟨(r.cell hk).1,?_⟩;have hl:=fq p k;have:=CP (h:=h) (b:=i) (off:=4*k) ((chunk p k).map aw) (by
  intro e;have:((chunk p k).map aw).length=0:=by rw[e];rfl
  rw[List.length_map]at this;omega) (fun j v hj=>by
  rw[List.getElem?_map,Option.map_eq_some_iff]at hj;obtain⟨x,hx,rfl⟩:=hj;have hj4:=(List.getElem?_eq_some_iff.1 hx).1;have hx2:p[4*k+j]?=some x:=by
   unfold chunk at hx;rw[List.getElem?_take,List.getElem?_drop]at hx;split at hx;·exact hx
   ·cases hx
  obtain⟨aB,hv⟩:=List.getElem?_eq_some_iff.1 hx2;rw[← hv];exact(r.cell aB).2)
 rw[List.length_map]at this;exact this
theorem ql {B:Nat}{v:Value}{p:List UInt8}{h:Heap}{K:Value→Heap→Prop}(r:Jp B h v p) (gk:rW h) (hB:B≤h.n) (hp:p.length≤50000) (hK:∀ h',ai h.n h h'→K (aq (c_ p)) h'):bT env (.func 32) [v] h K:=by
 obtain⟨va,vc,rfl,_⟩:=id r.1;have gn:=gk.n;refine F32 rfl ?_;simp -dsimp only[↓WB,↓QT,WP,ae,Nat.reduceEqDiff,Nat.reduceAdd];have X1:ai h.n h (af h (.cells [.pointer none,.slice none 0 0] 56 true)):=ai.new _ (Nat.le_refl _);have D1:=xO.new (B:=h.n) (h:=h) (Nat.le_refl _);generalize af h (.cells [.pointer none,.slice none 0 0] 56 true)=h1 at X1 D1 ⊢;refine aE (fun m fr' h'=>∃ k:Nat,4*k≤p.length+3∧m=(p.length+3) / 4-k∧ai h.n h h'∧fr'.get 4=some (.int .i64 k)∧xO h.n h' h.n (lp p k)) ((p.length+3) / 4) ?_ (by omega) ?_;· exact⟨0,by omega,by omega,X1,by simp[T.ah],D1⟩
 clear X1 D1;rintro m fr2 h2 ⟨k,hk,rfl,X2,f4,D2⟩ hag;have e4:=aj f4;have b0:=au (hag 0 rfl);have b3:=au (hag 3 rfl);have n2:=X2.n;have w1:IntKind.wrap .i64 ((k:Int)*4)=((4*k:Nat):Int):=by rw[wrap_i64 (by omega) (by omega)];omega
 have tl:=sN p k;by_cases aB:4*k<p.length
 · have gk2:=gk.ext (B:=h.n) gn X2;have hll:=oU (chunk p k) (by rw[fq];omega);have hts:=pE p k;(with_reducible repeat' (first|refine y1 ?_|simp -dsimp only[↓WB,↓QT,WP,ae,Nat.reduceEqDiff,Nat.reduceAdd,↓e4,↓b0,↓b3,w1]));refine NT (r.ext (X2.mono hB)) gk2 (by omega) hp (by omega) fun s b h3 X3 hs1 hs2=>?_;have n3:=X3.n;have D3:=D2.ext X3;have hend:∀ l:List UInt8,(⟨l.toArray⟩:ByteArray)++⟨⟨[10]⟩⟩=⟨(cL l).toArray⟩:=fun l=>aY l [10];have hsz:∀ l:List UInt8,(⟨l.toArray⟩:ByteArray).size=l.length:=ak;have s10:(⟨⟨[10]⟩⟩:ByteArray).size=1:=rfl;cases b with
   | true =>have hs:=hs1 rfl;rw[hs]at hll hts;unfold aq;(with_reducible repeat' (first|refine y5 ?_|simp -dsimp only[↓WB,↓QT,WP,ae,Nat.reduceEqDiff,Nat.reduceAdd,↓e4,↓b0,↓b3,w1,hend,hsz,s10]));refine sT (s:=cL s) D3 (by simp[cL]) (by simp[cL];omega) fun v' h4 X4 D4=>?_;rw[← hts]at D4;simp -dsimp only[↓WB,↓QT,WP,ae,Nat.reduceEqDiff,Nat.reduceAdd,↓e4,↓b0,↓b3];exact⟨(p.length+3) / 4-(k+1),by omega,k+1,by omega,by omega,(X2.trans (X3.mono n2)).trans X4.x,by simp[T.ah,bf (show k≤4611686018427387904 by omega)],D4⟩
   | false =>
     have hs:=hs2 rfl;rw[hs]at hll hts;have hpn:p≠[]:=by intro e;rw[e]at aB;simp at aB
     obtain⟨i,ev⟩:=r.2 hpn;cases ev;obtain⟨hi,hcs⟩:=C6 r.1 aB;have hcl:=fq p k;have w2:IntKind.wrap .i64 (((4*k:Nat):Int)+4)=((4*k+4:Nat):Int):=by rw[wrap_i64 (by omega) (by omega)];omega
     have w3:min ((4*k+4:Nat):Int) (p.length:Int)=((4*k+(chunk p k).length:Nat):Int):=by omega
     unfold aq;simp -dsimp only[↓WB,↓QT,WP,ae,Nat.reduceEqDiff,Nat.reduceAdd,↓e4,↓b0,↓b3,w1,w2,w3,hend,hsz,s10];refine xG (sz:=1) (by kernel_rfl) (by decide) (by omega) (by omega) (by omega) fun c=>?_;have z1:(((4*k+(chunk p k).length:Nat):Int)-((4*k:Nat):Int)).toNat=(chunk p k).length:=by omega
     rw[z1];simp only[Option.map_some,Int.toNat_natCast,Nat.mul_one,Addr.add_lit,Nat.zero_add];simp -dsimp only[↓WB,↓QT,WP,ae,Nat.reduceEqDiff,Nat.reduceAdd,↓e4,↓b0,↓b3,w1,w2,w3,hend,hsz,s10];refine RQ (B:=B) hi (by omega) (cJ ((X2.mono hB).trans (X3.mono (by omega))) hi hcs) (by omega) fun h4 X4=>?_;have n4:=X4.n;have D4:=D3.ext X4;unfold aq;(with_reducible repeat' (first|refine y5 ?_|simp -dsimp only[↓WB,↓QT,WP,ae,Nat.reduceEqDiff,Nat.reduceAdd,↓e4,↓b0,↓b3,w1,hend,hsz,s10]));refine sT (s:=cL (lH (chunk p k))) D4 (by simp[cL]) (by simp[cL];omega) fun v' h5 X5 D5=>?_;rw[← hts]at D5;simp -dsimp only[↓WB,↓QT,WP,ae,Nat.reduceEqDiff,Nat.reduceAdd,↓e4,↓b0,↓b3];exact⟨(p.length+3) / 4-(k+1),by omega,k+1,by omega,by omega,((X2.trans (X3.mono n2)).trans (X4.mono (by omega))).trans X5.x,by simp[T.ah,bf (show k≤4611686018427387904 by omega)],D5⟩
 · have hke:c_ p=lp p k:=by
     rw[Ab];by_cases h0:k=(p.length+3) / 4;· rw[h0]
     · omega
   (with_reducible repeat' (first|refine y2 ?_|simp -dsimp only[↓WB,↓QT,WP,ae,Nat.reduceEqDiff,Nat.reduceAdd,↓e4,↓b0,↓b3,w1]));refine uO D2 (by omega) fun h3 X3=>?_;rw[hke]at hK;unfold aq at hK ⊢;simp -dsimp only[↓WB,↓QT,WP,ae,Nat.reduceEqDiff,Nat.reduceAdd,↓e4,↓b0,↓b3];exact hK _ (X2.trans X3)
end Go.Proofs.YtohjaacnlmkhbaaGreatDoor
