/- PROGRAMS' TEXTS, the document's side, walked. Conditions: none beyond each theorem's own. -/
import Derived.Test.YtohjaacnlmkhbaaGreatDoorYP
set_option linter.unusedSimpArgs false
set_option linter.unusedVariables false
namespace Go.Proofs.YtohjaacnlmkhbaaGreatDoor
open Go.Ev
set_option maxRecDepth 100000
set_option maxHeartbeats 400000
open Qq (fD)
theorem QS (x:UInt8):IntKind.wrap .i64 (x.toNat:Int)=(x.toNat:Int):=by have:=x.toNat_lt;exact wrap_i64 (by omega) (by omega)
theorem qY {o a b c:UInt8}{h:Heap}{K:Value→Heap→Prop}(hK:∀ h',ai h.n h h'→K (.int .i64 ((256*b.toNat+c.toNat:Nat):Int)) h'):bT env (.func 113) [fD o a b c] h K:=by
 have hb:=b.toNat_lt;have hc:=c.toNat_lt;have w1:=QS b;have w2:=QS c;have w3:IntKind.wrap .i64 (256*(b.toNat:Int))=((256*b.toNat:Nat):Int):=by rw[wrap_i64 (by omega) (by omega)];omega
 have w4:IntKind.wrap .i64 (((256*b.toNat:Nat):Int)+(c.toNat:Int))=((256*b.toNat+c.toNat:Nat):Int):=by rw[wrap_i64 (by omega) (by omega)];omega
 refine F113 rfl ?_;unfold fD;(with_reducible repeat' (first|refine y6 ?_|simp -dsimp only[↓WB,↓W113,WP,ae,Nat.reduceEqDiff,Nat.reduceAdd,w1,w2,w3,w4]));exact hK _ (ai.new _ (Nat.le_refl _))
theorem wY {o a b c:UInt8}{h:Heap}{K:Value→Heap→Prop}(hK:∀ h',ai h.n h h'→K (.int .i64 (bS (256*b.toNat+c.toNat))) h'):bT env (.func 115) [fD o a b c] h K:=by
 have hb:=b.toNat_lt;have hc:=c.toNat_lt;refine F115 rfl ?_;unfold fD;(with_reducible repeat' (first|refine y6 ?_|simp -dsimp only[↓WB,↓VF,WP,ae,Nat.reduceEqDiff,Nat.reduceAdd]));refine qY (o:=o) (a:=a) fun h' X=>?_;have XX:ai h.n h h':=(ai.new _ (Nat.le_refl _)).trans (X.mono (Nat.le_succ _));have hn2:256*b.toNat+c.toNat<65536:=by omega
 generalize 256*b.toNat+c.toNat=n at hK hn2;unfold bS at hK;by_cases hn:32767<n;·rw[if_pos hn]at hK;have w5:IntKind.wrap .i64 ((n:Int)-65536)=(n:Int)-65536:=wrap_i64 (by omega) (by omega);(with_reducible repeat' (first|refine y1 ?_|simp -dsimp only[↓WB,↓VF,WP,ae,Nat.reduceEqDiff,Nat.reduceAdd,w5]));exact hK _ XX
 ·rw[if_neg hn]at hK;(with_reducible repeat' (first|refine y2 ?_|simp -dsimp only[↓WB,↓VF,WP,ae,Nat.reduceEqDiff,Nat.reduceAdd]));exact hK _ XX
theorem Lc {o a b c:UInt8}{h:Heap}{K:Value→Heap→Prop}(hK:∀ h',ai h.n h h'→K (.bool (eE o a b c)) h'):bT env (.func 111) [fD o a b c] h K:=by
 have X:ai h.n h (af h (.cells [.int .u8 (o.toNat:Int),.int .u8 (a.toNat:Int),.int .u8 (b.toNat:Int),.int .u8 (c.toNat:Int)] 125 true)):=ai.new _ (Nat.le_refl _);refine F111 rfl ?_;unfold fD;have w1:=QS o;unfold eE EB at hK;rcases eM o.toNat with ⟨h0,e⟩|⟨h0,e⟩|⟨h0,e⟩|⟨h0,e⟩|⟨h0,e⟩|⟨h0,e⟩|⟨h0,e⟩|⟨h0,e⟩|⟨h0,e⟩|⟨h0,e⟩;·rw[e]at hK;simp at hK;(with_reducible repeat' (first|refine y1 ?_|refine y6 ?_|simp -dsimp only[↓WB,↓kX,WP,ae,Nat.reduceEqDiff,Nat.reduceAdd,w1]));exact hK _ X
 ·rw[e]at hK;simp at hK;by_cases ha:a.toNat<8;·rw[decide_eq_true ha]at hK;(with_reducible repeat' (first|refine y1 ?_|refine y2 ?_|refine y6 ?_|simp -dsimp only[↓WB,↓kX,WP,ae,Nat.reduceEqDiff,Nat.reduceAdd,w1]));exact hK _ X
  ·rw[decide_eq_false ha]at hK;(with_reducible repeat' (first|refine y1 ?_|refine y2 ?_|refine y6 ?_|simp -dsimp only[↓WB,↓kX,WP,ae,Nat.reduceEqDiff,Nat.reduceAdd,w1]));exact hK _ X
 ·rw[e]at hK;simp at hK;by_cases ha:a.toNat<8
  ·by_cases hb:b.toNat<8
   ·by_cases hc:c.toNat<8;·rw[decide_eq_true ha,decide_eq_true hb,decide_eq_true hc]at hK;(with_reducible repeat' (first|refine y1 ?_|refine y2 ?_|refine y6 ?_|simp -dsimp only[↓WB,↓kX,WP,ae,Nat.reduceEqDiff,Nat.reduceAdd,w1]));exact hK _ X
    ·rw[decide_eq_true ha,decide_eq_true hb,decide_eq_false hc]at hK;(with_reducible repeat' (first|refine y1 ?_|refine y2 ?_|refine y6 ?_|simp -dsimp only[↓WB,↓kX,WP,ae,Nat.reduceEqDiff,Nat.reduceAdd,w1]));exact hK _ X
   ·rw[decide_eq_true ha,decide_eq_false hb,Bool.false_and,Bool.and_false]at hK;(with_reducible repeat' (first|refine y1 ?_|refine y2 ?_|refine y6 ?_|simp -dsimp only[↓WB,↓kX,WP,ae,Nat.reduceEqDiff,Nat.reduceAdd,w1]));exact hK _ X
  ·rw[decide_eq_false ha,Bool.false_and]at hK;(with_reducible repeat' (first|refine y1 ?_|refine y2 ?_|refine y6 ?_|simp -dsimp only[↓WB,↓kX,WP,ae,Nat.reduceEqDiff,Nat.reduceAdd,w1]));exact hK _ X
 ·rw[e]at hK;simp at hK;by_cases ha:a.toNat<8
  ·by_cases hb:b.toNat<8
   ·by_cases hc:c.toNat<8;·rw[decide_eq_true ha,decide_eq_true hb,decide_eq_true hc]at hK;(with_reducible repeat' (first|refine y1 ?_|refine y2 ?_|refine y6 ?_|simp -dsimp only[↓WB,↓kX,WP,ae,Nat.reduceEqDiff,Nat.reduceAdd,w1]));exact hK _ X
    ·rw[decide_eq_true ha,decide_eq_true hb,decide_eq_false hc]at hK;(with_reducible repeat' (first|refine y1 ?_|refine y2 ?_|refine y6 ?_|simp -dsimp only[↓WB,↓kX,WP,ae,Nat.reduceEqDiff,Nat.reduceAdd,w1]));exact hK _ X
   ·rw[decide_eq_true ha,decide_eq_false hb,Bool.false_and,Bool.and_false]at hK;(with_reducible repeat' (first|refine y1 ?_|refine y2 ?_|refine y6 ?_|simp -dsimp only[↓WB,↓kX,WP,ae,Nat.reduceEqDiff,Nat.reduceAdd,w1]));exact hK _ X
  ·rw[decide_eq_false ha,Bool.false_and]at hK;(with_reducible repeat' (first|refine y1 ?_|refine y2 ?_|refine y6 ?_|simp -dsimp only[↓WB,↓kX,WP,ae,Nat.reduceEqDiff,Nat.reduceAdd,w1]));exact hK _ X
 ·rw[e]at hK;simp at hK;by_cases ha:a.toNat<8
  ·by_cases hb:b.toNat<8
   ·by_cases hc:c.toNat<8;·rw[decide_eq_true ha,decide_eq_true hb,decide_eq_true hc]at hK;(with_reducible repeat' (first|refine y1 ?_|refine y2 ?_|refine y6 ?_|simp -dsimp only[↓WB,↓kX,WP,ae,Nat.reduceEqDiff,Nat.reduceAdd,w1]));exact hK _ X
    ·rw[decide_eq_true ha,decide_eq_true hb,decide_eq_false hc]at hK;(with_reducible repeat' (first|refine y1 ?_|refine y2 ?_|refine y6 ?_|simp -dsimp only[↓WB,↓kX,WP,ae,Nat.reduceEqDiff,Nat.reduceAdd,w1]));exact hK _ X
   ·rw[decide_eq_true ha,decide_eq_false hb,Bool.false_and,Bool.and_false]at hK;(with_reducible repeat' (first|refine y1 ?_|refine y2 ?_|refine y6 ?_|simp -dsimp only[↓WB,↓kX,WP,ae,Nat.reduceEqDiff,Nat.reduceAdd,w1]));exact hK _ X
  ·rw[decide_eq_false ha,Bool.false_and]at hK;(with_reducible repeat' (first|refine y1 ?_|refine y2 ?_|refine y6 ?_|simp -dsimp only[↓WB,↓kX,WP,ae,Nat.reduceEqDiff,Nat.reduceAdd,w1]));exact hK _ X
 ·rw[e]at hK;simp at hK;(with_reducible repeat' (first|refine y1 ?_|refine y2 ?_|refine y6 ?_|simp -dsimp only[↓WB,↓kX,WP,ae,Nat.reduceEqDiff,Nat.reduceAdd,w1]));exact hK _ X
 ·rw[e]at hK;simp at hK;by_cases ha:a.toNat<8;·rw[decide_eq_true ha]at hK;(with_reducible repeat' (first|refine y1 ?_|refine y2 ?_|refine y6 ?_|simp -dsimp only[↓WB,↓kX,WP,ae,Nat.reduceEqDiff,Nat.reduceAdd,w1]));exact hK _ X
  ·rw[decide_eq_false ha]at hK;(with_reducible repeat' (first|refine y1 ?_|refine y2 ?_|refine y6 ?_|simp -dsimp only[↓WB,↓kX,WP,ae,Nat.reduceEqDiff,Nat.reduceAdd,w1]));exact hK _ X
 ·rw[e]at hK;simp at hK;by_cases ha:a.toNat<8;·rw[decide_eq_true ha]at hK;(with_reducible repeat' (first|refine y1 ?_|refine y2 ?_|refine y6 ?_|simp -dsimp only[↓WB,↓kX,WP,ae,Nat.reduceEqDiff,Nat.reduceAdd,w1]));exact hK _ X
  ·rw[decide_eq_false ha]at hK;(with_reducible repeat' (first|refine y1 ?_|refine y2 ?_|refine y6 ?_|simp -dsimp only[↓WB,↓kX,WP,ae,Nat.reduceEqDiff,Nat.reduceAdd,w1]));exact hK _ X
 ·rw[e]at hK;simp at hK;(with_reducible repeat' (first|refine y1 ?_|refine y2 ?_|refine y6 ?_|simp -dsimp only[↓WB,↓kX,WP,ae,Nat.reduceEqDiff,Nat.reduceAdd,w1]));exact hK _ X
 ·rw[e]at hK;simp at hK;(with_reducible repeat' (first|refine y1 ?_|refine y2 ?_|refine y3 (fun _=>?_) (fun _=>?_)|refine y6 ?_|simp -dsimp only[↓WB,↓kX,WP,ae,Nat.reduceEqDiff,Nat.reduceAdd,w1]));all_goals exact hK _ X
def dA (o a b c:UInt8):List UInt8:=if (dF o.toNat).2.2&&bZ o a b c then e_ o a b c else []
theorem se {a b c:UInt8}{h:Heap}{K:Value→Heap→Prop}(hK:∀ h',ai h.n h h'→K (aq (32::Lib.itoa a.toNat++(32::Lib.itoa b.toNat++(32::Lib.itoa c.toNat)))) h'):bT env (.func 114) [.int .u8 (a.toNat:Int),.int .u8 (b.toNat:Int),.int .u8 (c.toNat:Int)] h K:=by have ha:=a.toNat_lt;have hb:=b.toNat_lt;have hc:=c.toNat_lt;have la:=cA (a.toNat:Int) (by omega) (by omega);have lb:=cA (b.toNat:Int) (by omega) (by omega);have lc:=cA (c.toNat:Int) (by omega) (by omega);refine F114 rfl ?_;simp -dsimp only[↓WB,↓Td,WP,ae,Nat.reduceEqDiff,Nat.reduceAdd,QS];refine eL (by omega) (by omega) fun h1 X1=>?_;have n1:=X1.n;unfold aq;(with_reducible repeat' (first|refine y5 ?_|simp -dsimp only[↓WB,↓Td,WP,ae,Nat.reduceEqDiff,Nat.reduceAdd,QS,cM,aY,ak,List.length_append,List.length_cons,List.length_nil]));refine eL (by omega) (by omega) fun h2 X2=>?_;have n2:=X2.n;unfold aq;(with_reducible repeat' (first|refine y5 ?_|simp -dsimp only[↓WB,↓Td,WP,ae,Nat.reduceEqDiff,Nat.reduceAdd,QS,cM,aY,ak,List.length_append,List.length_cons,List.length_nil]));refine eL (by omega) (by omega) fun h3 X3=>?_;unfold aq at hK ⊢;(with_reducible repeat' (first|refine y5 ?_|simp -dsimp only[↓WB,↓Td,WP,ae,Nat.reduceEqDiff,Nat.reduceAdd,QS,cM,aY,ak,List.length_append,List.length_cons,List.length_nil]));have:=hK h3 ((X1.trans (X2.mono n1)).trans (X3.mono (by omega)));simpa using this
theorem C_ {o a b c:UInt8}{r:Bool}{B xb:Nat}{fr:Fr}{h:Heap}{K:Value→Heap→Prop}(hr:r=true↔(a.toNat=0∧b.toNat=0∧c.toNat=0)) (g1:fr.get 1=some (.pointer (some ⟨xb,0,none⟩))) (g3:fr.get 3=some (.bool r)) (g4:fr.get 4=some (.int .i64 (o.toNat:Int)))
  (hB:B≤h.n) (hx:dm h xb [.int .u8 (o.toNat:Int),.int .u8 (a.toNat:Int),.int .u8 (b.toNat:Int),.int .u8 (c.toNat:Int)] 125) (hK:∀ h',ai B h h'→K (aq (dA o a b c)) h'):Eh.wp env 130 none fr h (eY env [.tmp 2] K):=by
 have ho:=o.toNat_lt
 have ha:=a.toNat_lt
 have hb:=b.toNat_lt
 have hc:=c.toNat_lt
 have w1:=QS o
 have w2:=QS a
 have lA:=cA (a.toNat:Int) (by omega) (by omega)
 have lN:=cA ((256*b.toNat+c.toNat:Nat):Int) (by omega) (by omega)
 have jb : -32768≤bS (256*b.toNat+c.toNat)∧bS (256*b.toNat+c.toNat)≤65535:=by unfold bS;split<;>omega
 have lJ:=cA (bS (256*b.toNat+c.toNat)) (by omega) (by omega)
 have e1:=aj g1
 have e3:=aj g3
 have e4:=aj g4
 have xlt:=hx.lt
 have d0:=hx.at_ (j:=0) rfl
 have da:=hx.at_ (j:=1) rfl
 have db:=hx.at_ (j:=2) rfl
 have dc:=hx.at_ (j:=3) rfl
 have d4:ax h ⟨xb,0,none⟩ 4=some [.int .u8 (o.toNat:Int),.int .u8 (a.toNat:Int),.int .u8 (b.toNat:Int),.int .u8 (c.toNat:Int)]:=aJ (off:=0) (n:=4) hx.lt hx.get rfl rfl
 have X1:ai h.n h h:=ai.refl _ _
 have z0:∀ x:UInt8,x=0↔x.toNat=0:=fun x=>⟨fun e=>by rw[e];rfl,fun e=>UInt8.toNat_inj.1 e⟩
 rcases eM o.toNat with ⟨h0,e⟩|⟨h0,e⟩|⟨h0,e⟩|⟨h0,e⟩|⟨h0,e⟩|⟨h0,e⟩|⟨h0,e⟩|⟨h0,e⟩|⟨h0,e⟩|⟨h0,e⟩
 ·by_cases hz:a.toNat=0∧b.toNat=0∧c.toNat=0
  ·have hl:dA o a b c=[110,111,112]:=by obtain⟨ea,eb,ec⟩:=hz;rw[(z0 a).2 ea,(z0 b).2 eb,(z0 c).2 ec];simp[dA,bZ,e_,e,bR]
   rw[hl]at hK;unfold aq at hK;have er:r=true:=hr.2 hz;(with_reducible repeat' (first|refine y1 ?_|simp -dsimp only[↓WB,↓qn,WP,ae,Nat.reduceEqDiff,Nat.reduceAdd,↓e1,↓e3,↓e4,d0,da,db,dc,d4,w1,er]));exact hK _ (X1.mono hB)
  ·have er:r=false:=by
    cases r with
    | true=>exact absurd (hr.1 rfl) hz
    | false=>rfl
   have hl:dA o a b c=[]:=by
    have:¬((0,0,0)=(a,b,c)):=by intro hh;simp only[Prod.mk.injEq]at hh;exact hz ⟨(z0 a).1 hh.1.symm,(z0 b).1 hh.2.1.symm,(z0 c).1 hh.2.2.symm⟩
    simp[dA,bZ,e_,e,bR,this]
   rw[hl]at hK;unfold aq at hK
   (with_reducible repeat' (first|refine y1 ?_|refine y2 ?_|simp -dsimp only[↓WB,↓qn,WP,ae,Nat.reduceEqDiff,Nat.reduceAdd,↓e1,↓e3,↓e4,d0,da,db,dc,d4,w1,er]));all_goals first
    | (exfalso;omega)
    | exact hK _ (X1.mono hB)
 ·have hl:dA o a b c=[99,111,110,115,116]++(32::Lib.itoa a.toNat++(32::Lib.itoa (((256*b.toNat+c.toNat:Nat):Int)))):=by simp[dA,bZ,e_,e,bR,eF,gV,List.foldl]
  rw[hl]at hK;(with_reducible repeat' (first|refine y1 ?_|refine y2 ?_|simp -dsimp only[↓WB,↓qn,WP,ae,Nat.reduceEqDiff,Nat.reduceAdd,↓e1,↓e3,↓e4,d0,da,db,dc,d4,w1,w2]));refine eL (by omega) (by omega) fun h1 X2=>?_;have n1:=X2.n;have Y2:ai h.n h h1:=X2;have dd:ax h1 ⟨xb,0,none⟩ 4=some [.int .u8 (o.toNat:Int),.int .u8 (a.toNat:Int),.int .u8 (b.toNat:Int),.int .u8 (c.toNat:Int)]:=cJ X2 xlt d4;have d1:cellAt h1 ⟨xb,1,none⟩=some (.int .u8 (a.toNat:Int)):=by have:=fO dd (j:=1) (v:=.int .u8 (a.toNat:Int)) rfl;simpa using this
  unfold aq;refine⟨n1,?_,?_⟩;·simp -dsimp only[↓WB,↓qn,WP,ae,Nat.reduceEqDiff,Nat.reduceAdd,↓e1,↓e3,↓e4,d0,da,db,dc,d4,dd,d1];all_goals first|exact cZ _ _ _|exact gE
  (with_reducible repeat' (first|refine y5 ?_|simp -dsimp only[↓WB,↓qn,WP,ae,Nat.reduceEqDiff,Nat.reduceAdd,↓e1,↓e3,↓e4,d0,da,db,dc,d4,w1,w2,dd,d1,cM,aY,ak,List.length_append,List.length_cons,List.length_nil]));refine qY (o:=o) (a:=a) (b:=b) (c:=c) fun h2 X3=>?_;have n2:=X3.n;(with_reducible repeat' (first|refine y5 ?_|simp -dsimp only[↓WB,↓qn,WP,ae,Nat.reduceEqDiff,Nat.reduceAdd,↓e1,↓e3,↓e4,d0,da,db,dc,d4,w1,w2,cM,aY,ak,List.length_append,List.length_cons,List.length_nil]));refine eL (by omega) (by omega) fun h3 X4=>?_;have n3:=X4.n;have Y4:=(Y2.trans (X3.mono (by omega))).trans (X4.mono (by omega));unfold aq at hK ⊢;(with_reducible repeat' (first|refine y5 ?_|simp -dsimp only[↓WB,↓qn,WP,ae,Nat.reduceEqDiff,Nat.reduceAdd,↓e1,↓e3,↓e4,d0,da,db,dc,d4,w1,w2,cM,aY,ak,List.length_append,List.length_cons,List.length_nil]));have:=hK _ (Y4.mono hB);simpa using this
 ·have hl:dA o a b c=[97,100,100]++(32::Lib.itoa a.toNat++(32::Lib.itoa b.toNat++(32::Lib.itoa c.toNat))):=by simp[dA,bZ,e_,e,bR,eF,gV,List.foldl]
  rw[hl]at hK;have lB:=cA (b.toNat:Int) (by omega) (by omega);have lC:=cA (c.toNat:Int) (by omega) (by omega);(with_reducible repeat' (first|refine y1 ?_|refine y2 ?_|simp -dsimp only[↓WB,↓qn,WP,ae,Nat.reduceEqDiff,Nat.reduceAdd,↓e1,↓e3,↓e4,d0,da,db,dc,d4,w1]));refine se fun h1 X2=>?_;have n1:=X2.n;have Y2:ai h.n h h1:=X2;unfold aq at hK ⊢;(with_reducible repeat' (first|refine y5 ?_|simp -dsimp only[↓WB,↓qn,WP,ae,Nat.reduceEqDiff,Nat.reduceAdd,↓e1,↓e3,↓e4,d0,da,db,dc,d4,w1,cM,aY,ak,List.length_append,List.length_cons,List.length_nil]));have:=hK _ (Y2.mono hB);simpa using this
 ·have hl:dA o a b c=[115,117,98]++(32::Lib.itoa a.toNat++(32::Lib.itoa b.toNat++(32::Lib.itoa c.toNat))):=by simp[dA,bZ,e_,e,bR,eF,gV,List.foldl]
  rw[hl]at hK;have lB:=cA (b.toNat:Int) (by omega) (by omega);have lC:=cA (c.toNat:Int) (by omega) (by omega);(with_reducible repeat' (first|refine y1 ?_|refine y2 ?_|simp -dsimp only[↓WB,↓qn,WP,ae,Nat.reduceEqDiff,Nat.reduceAdd,↓e1,↓e3,↓e4,d0,da,db,dc,d4,w1]));refine se fun h1 X2=>?_;have n1:=X2.n;have Y2:ai h.n h h1:=X2;unfold aq at hK ⊢;(with_reducible repeat' (first|refine y5 ?_|simp -dsimp only[↓WB,↓qn,WP,ae,Nat.reduceEqDiff,Nat.reduceAdd,↓e1,↓e3,↓e4,d0,da,db,dc,d4,w1,cM,aY,ak,List.length_append,List.length_cons,List.length_nil]));have:=hK _ (Y2.mono hB);simpa using this
 ·have hl:dA o a b c=[109,117,108]++(32::Lib.itoa a.toNat++(32::Lib.itoa b.toNat++(32::Lib.itoa c.toNat))):=by simp[dA,bZ,e_,e,bR,eF,gV,List.foldl]
  rw[hl]at hK;have lB:=cA (b.toNat:Int) (by omega) (by omega);have lC:=cA (c.toNat:Int) (by omega) (by omega);(with_reducible repeat' (first|refine y1 ?_|refine y2 ?_|simp -dsimp only[↓WB,↓qn,WP,ae,Nat.reduceEqDiff,Nat.reduceAdd,↓e1,↓e3,↓e4,d0,da,db,dc,d4,w1]));refine se fun h1 X2=>?_;have n1:=X2.n;have Y2:ai h.n h h1:=X2;unfold aq at hK ⊢;(with_reducible repeat' (first|refine y5 ?_|simp -dsimp only[↓WB,↓qn,WP,ae,Nat.reduceEqDiff,Nat.reduceAdd,↓e1,↓e3,↓e4,d0,da,db,dc,d4,w1,cM,aY,ak,List.length_append,List.length_cons,List.length_nil]));have:=hK _ (Y2.mono hB);simpa using this
 ·by_cases hz:a.toNat=0
  ·have hl:dA o a b c=[106,117,109,112]++(32::Lib.itoa (bS (256*b.toNat+c.toNat))):=by rw[(z0 a).2 hz];simp[dA,bZ,e_,e,bR,eF,gV,List.foldl]
   rw[hl]at hK;(with_reducible repeat' (first|refine y1 ?_|refine y2 ?_|simp -dsimp only[↓WB,↓qn,WP,ae,Nat.reduceEqDiff,Nat.reduceAdd,↓e1,↓e3,↓e4,d0,da,db,dc,d4,w1]));refine wY (o:=o) (a:=a) (b:=b) (c:=c) fun h1 X2=>?_;have n1:=X2.n;have Y2:ai h.n h h1:=X2;simp -dsimp only[↓WB,↓qn,WP,ae,Nat.reduceEqDiff,Nat.reduceAdd,↓e1,↓e3,↓e4,d0,da,db,dc,d4,w1];refine eL (by omega) (by omega) fun h2 X3=>?_;have Y3:=Y2.trans (X3.mono n1);unfold aq at hK ⊢;(with_reducible repeat' (first|refine y5 ?_|simp -dsimp only[↓WB,↓qn,WP,ae,Nat.reduceEqDiff,Nat.reduceAdd,↓e1,↓e3,↓e4,d0,da,db,dc,d4,w1,cM,aY,ak,List.length_append,List.length_cons,List.length_nil]));have:=hK _ (Y3.mono hB);simpa using this
  ·have hl:dA o a b c=[]:=by
    have:¬((0,b,c)=(a,b,c)):=by intro hh;simp only[Prod.mk.injEq]at hh;exact hz ((z0 a).1 hh.1.symm)
    simp[dA,bZ,e_,e,bR,eF,List.foldl];intro hh;exact absurd ((z0 a).1 hh.symm) hz
   rw[hl]at hK;unfold aq at hK
   (with_reducible repeat' (first|refine y1 ?_|refine y2 ?_|simp -dsimp only[↓WB,↓qn,WP,ae,Nat.reduceEqDiff,Nat.reduceAdd,↓e1,↓e3,↓e4,d0,da,db,dc,d4,w1]));all_goals first
    | (exfalso;omega)
    | exact hK _ (X1.mono hB)
 ·have hl:dA o a b c=[122,101,114,111]++(32::Lib.itoa a.toNat++(32::Lib.itoa (bS (256*b.toNat+c.toNat)))):=by simp[dA,bZ,e_,e,bR,eF,gV,List.foldl]
  rw[hl]at hK;(with_reducible repeat' (first|refine y1 ?_|refine y2 ?_|simp -dsimp only[↓WB,↓qn,WP,ae,Nat.reduceEqDiff,Nat.reduceAdd,↓e1,↓e3,↓e4,d0,da,db,dc,d4,w1,w2]));refine eL (by omega) (by omega) fun h1 X2=>?_;have n1:=X2.n;have Y2:ai h.n h h1:=X2;have dd:ax h1 ⟨xb,0,none⟩ 4=some [.int .u8 (o.toNat:Int),.int .u8 (a.toNat:Int),.int .u8 (b.toNat:Int),.int .u8 (c.toNat:Int)]:=cJ X2 xlt d4;have d1:cellAt h1 ⟨xb,1,none⟩=some (.int .u8 (a.toNat:Int)):=by have:=fO dd (j:=1) (v:=.int .u8 (a.toNat:Int)) rfl;simpa using this
  unfold aq;refine⟨n1,?_,?_⟩;·simp -dsimp only[↓WB,↓qn,WP,ae,Nat.reduceEqDiff,Nat.reduceAdd,↓e1,↓e3,↓e4,d0,da,db,dc,d4,dd,d1];all_goals first|exact cZ _ _ _|exact gE
  (with_reducible repeat' (first|refine y5 ?_|simp -dsimp only[↓WB,↓qn,WP,ae,Nat.reduceEqDiff,Nat.reduceAdd,↓e1,↓e3,↓e4,d0,da,db,dc,d4,w1,w2,dd,d1,cM,aY,ak,List.length_append,List.length_cons,List.length_nil]));refine wY (o:=o) (a:=a) (b:=b) (c:=c) fun h2 X3=>?_;have n2:=X3.n;(with_reducible repeat' (first|refine y5 ?_|simp -dsimp only[↓WB,↓qn,WP,ae,Nat.reduceEqDiff,Nat.reduceAdd,↓e1,↓e3,↓e4,d0,da,db,dc,d4,w1,w2,cM,aY,ak,List.length_append,List.length_cons,List.length_nil]));refine eL (by omega) (by omega) fun h3 X4=>?_;have n3:=X4.n;have Y4:=(Y2.trans (X3.mono (by omega))).trans (X4.mono (by omega));unfold aq at hK ⊢;(with_reducible repeat' (first|refine y5 ?_|simp -dsimp only[↓WB,↓qn,WP,ae,Nat.reduceEqDiff,Nat.reduceAdd,↓e1,↓e3,↓e4,d0,da,db,dc,d4,w1,w2,cM,aY,ak,List.length_append,List.length_cons,List.length_nil]));have:=hK _ (Y4.mono hB);simpa using this
 ·by_cases hz:b.toNat=0∧c.toNat=0
  ·have hl:dA o a b c=[99,111,100,101]++(32::Lib.itoa a.toNat):=by rw[(z0 b).2 hz.1,(z0 c).2 hz.2];simp[dA,bZ,e_,e,bR,eF,gV,List.foldl]
   rw[hl]at hK;(with_reducible repeat' (first|refine y1 ?_|refine y2 ?_|simp -dsimp only[↓WB,↓qn,WP,ae,Nat.reduceEqDiff,Nat.reduceAdd,↓e1,↓e3,↓e4,d0,da,db,dc,d4,w1,w2]));refine eL (by omega) (by omega) fun h1 X2=>?_;have Y2:ai h.n h h1:=X2;unfold aq at hK ⊢;(with_reducible repeat' (first|refine y5 ?_|simp -dsimp only[↓WB,↓qn,WP,ae,Nat.reduceEqDiff,Nat.reduceAdd,↓e1,↓e3,↓e4,d0,da,db,dc,d4,w1,cM,aY,ak,List.length_append,List.length_cons,List.length_nil]));have:=hK _ (Y2.mono hB);simpa using this
  ·have hl:dA o a b c=[]:=by simp[dA,bZ,e_,e,bR,eF,List.foldl];intro h1 h2;exact absurd ⟨(z0 b).1 h1.symm,(z0 c).1 h2.symm⟩ hz
   rw[hl]at hK;unfold aq at hK
   (with_reducible repeat' (first|refine y1 ?_|refine y2 ?_|refine y3 (fun _=>?_) (fun _=>?_)|simp -dsimp only[↓WB,↓qn,WP,ae,Nat.reduceEqDiff,Nat.reduceAdd,↓e1,↓e3,↓e4,d0,da,db,dc,d4,w1]));all_goals first
    | (exfalso;omega)
    | exact hK _ (X1.mono hB)
 ·have h16:(o-16).toNat=o.toNat-16:=by rw[UInt8.toNat_sub];have:(16:UInt8).toNat=16:=rfl;rw[this];omega
  by_cases hz:a.toNat=0∧b.toNat=0∧c.toNat=0
  ·have hl:dA o a b c=[99,97,108,108]++(32::Lib.itoa ((o.toNat-16:Nat):Int)):=by obtain⟨ea,eb,ec⟩:=hz;rw[(z0 a).2 ea,(z0 b).2 eb,(z0 c).2 ec];simp[dA,bZ,e_,e,bR,eF,gV,List.foldl,h16]
   rw[hl]at hK;have w3:IntKind.wrap .i64 ((o.toNat:Int)-16)=((o.toNat-16:Nat):Int):=by rw[wrap_i64 (by omega) (by omega)];omega
   have lO:=cA ((o.toNat-16:Nat):Int) (by omega) (by omega);have er:r=true:=hr.2 hz;(with_reducible repeat' (first|refine y1 ?_|refine y2 ?_|simp -dsimp only[↓WB,↓qn,WP,ae,Nat.reduceEqDiff,Nat.reduceAdd,↓e1,↓e3,↓e4,d0,da,db,dc,d4,w1,w3,er]));refine eL (by omega) (by omega) fun h1 X2=>?_;have Y2:ai h.n h h1:=X2;unfold aq at hK ⊢;(with_reducible repeat' (first|refine y5 ?_|simp -dsimp only[↓WB,↓qn,WP,ae,Nat.reduceEqDiff,Nat.reduceAdd,↓e1,↓e3,↓e4,d0,da,db,dc,d4,w1,cM,aY,ak,List.length_append,List.length_cons,List.length_nil]));have:=hK _ (Y2.mono hB);simpa using this
  ·have hl:dA o a b c=[]:=by simp[dA,bZ,e_,e,bR,eF,List.foldl];intro h1 h2 h3;exact absurd ⟨(z0 a).1 h1.symm,(z0 b).1 h2.symm,(z0 c).1 h3.symm⟩ hz
   rw[hl]at hK;unfold aq at hK;have er:r=false:=by
    cases r with
    | true=>exact absurd (hr.1 rfl) hz
    | false=>rfl
   (with_reducible repeat' (first|refine y1 ?_|refine y2 ?_|simp -dsimp only[↓WB,↓qn,WP,ae,Nat.reduceEqDiff,Nat.reduceAdd,↓e1,↓e3,↓e4,d0,da,db,dc,d4,w1,er]));all_goals first
    | (exfalso;omega)
    | exact hK _ (X1.mono hB)
 ·have hl:dA o a b c=[]:=by simp[dA,e]
  rw[hl]at hK;unfold aq at hK
  (with_reducible repeat' (first|refine y2 ?_|refine y3 (fun _=>?_) (fun _=>?_)|simp -dsimp only[↓WB,↓qn,WP,ae,Nat.reduceEqDiff,Nat.reduceAdd,↓e1,↓e3,↓e4,d0,da,db,dc,d4,w1]));all_goals first
   | (exfalso;omega)
   | exact hK _ (X1.mono hB)
theorem pM {o a b c:UInt8}{h:Heap}{K:Value→Heap→Prop}(hK:∀ h',ai h.n h h'→K (aq (dA o a b c)) h'):bT env (.func 84) [fD o a b c] h K:=by
 refine F84 rfl ?_;unfold fD;have w1:=QS o;have B1:=dm.new h [.int .u8 (o.toNat:Int),.int .u8 (a.toNat:Int),.int .u8 (b.toNat:Int),.int .u8 (c.toNat:Int)] 125;have X1:ai h.n h (af h (.cells [.int .u8 (o.toNat:Int),.int .u8 (a.toNat:Int),.int .u8 (b.toNat:Int),.int .u8 (c.toNat:Int)] 125 true)):=ai.new _ (Nat.le_refl _);have n1:(af h (.cells [.int .u8 (o.toNat:Int),.int .u8 (a.toNat:Int),.int .u8 (b.toNat:Int),.int .u8 (c.toNat:Int)] 125 true)).n=h.n+1:=rfl
 (with_reducible repeat' (first|refine y3 (fun _=>?_) (fun _=>?_)|refine y6 ?_|simp -dsimp only[↓WB,↓To,↓T4,WP,ae,Nat.reduceEqDiff,Nat.reduceAdd,w1]));all_goals (
  refine C_ (B:=h.n) (xb:=h.n) (o:=o) (a:=a) (b:=b) (c:=c) (r:=decide (a.toNat=0∧b.toNat=0∧c.toNat=0)) (by simp) ?_ ?_ ?_ (by omega) B1 fun h' X2=>hK h' (X1.trans X2)
  ·simp[T.ah]
  ·first
    | (rw[decide_eq_true (by omega)];simp[T.ah])
    | (rw[decide_eq_false (by omega)];simp[T.ah])
  ·simp[T.ah])
theorem oL {x:UInt8}{h:Heap}{K:Value→Heap→Prop}(hx:x.toNat<16) (hK:K (aw (cW x)) h):bT env (.func 85) [.int .u8 (x.toNat:Int)] h K:=by
 refine F85 rfl ?_;by_cases h10:x.toNat<10
 ·have e:cW x=48+x:=by unfold cW;rw[if_pos (show x<10 from UInt8.lt_iff_toNat_lt.2 h10)]
  have e2:(48+x).toNat=48+x.toNat:=by rw[UInt8.toNat_add];have:(48:UInt8).toNat=48:=rfl;omega
  rw[e]at hK;unfold aw at hK;have w1:IntKind.wrap .u8 (48+(x.toNat:Int))=(((48+x).toNat:Nat):Int):=by rw[e2,wrap_u8 (by omega) (by omega)];omega
  (with_reducible repeat' (first|refine y1 ?_|simp -dsimp only[↓WB,↓W85,WP,ae,Nat.reduceEqDiff,Nat.reduceAdd,w1]));exact hK
 ·have e:cW x=87+x:=by unfold cW;rw[if_neg (show ¬x<10 from fun h=>h10 (UInt8.lt_iff_toNat_lt.1 h))]
  have e2:(87+x).toNat=87+x.toNat:=by rw[UInt8.toNat_add];have:(87:UInt8).toNat=87:=rfl;omega
  rw[e]at hK;unfold aw at hK;have w1:IntKind.wrap .u8 (IntKind.wrap .u8 (97+(x.toNat:Int))-10)=(((87+x).toNat:Nat):Int):=by rw[e2,wrap_u8 (n:=97+(x.toNat:Int)) (by omega) (by omega),wrap_u8 (by omega) (by omega)];omega
  (with_reducible repeat' (first|refine y2 ?_|simp -dsimp only[↓WB,↓W85,WP,ae,Nat.reduceEqDiff,Nat.reduceAdd,w1]));exact hK
theorem nu.Ck {B:Nat}{h:Heap}{i off n c:Nat}{l:List UInt8}(r:nu B h (.slice (some ⟨i,off,none⟩) n c) l) {k:Nat}(hk:k<l.length):i<B∧cellAt h ⟨i,off+k,none⟩=some (aw l[k]):=by obtain⟨a',c',e,q⟩:=r;cases e;obtain⟨i',o',e1,hi,hc⟩:=q (by intro e;rw[e]at hk;cases hk);cases e1;exact⟨hi,fO hc (j:=k) (v:=aw l[k]) (by rw[List.getElem?_map,List.getElem?_eq_getElem hk];rfl)⟩
theorem nu.addr {B:Nat}{h:Heap}{a:Option Addr}{n c:Nat}{l:List UInt8}(r:nu B h (.slice a n c) l) (hl:l≠[]):∃ i off,a=some ⟨i,off,none⟩:=by obtain⟨a',c',e,q⟩:=r;cases e;obtain⟨i',o',e1,_⟩:=q hl;exact⟨i',o',e1⟩
theorem zX {B:Nat}{v:Value}{p:List UInt8}{k:Nat}{h:Heap}{K:Value→Heap→Prop}(r:nu B h v p) (hB:B≤h.n) (hp:p.length≤50000) (hk:4*k<p.length)
   (hK1:∀ o a b c h',ai h.n h h'→chunk p k=[o,a,b,c]→eE o a b c=true→K (.tuple #[fD o a b c,.int .i64 0]) h')
   (hK2:∀ e h',ai h.n h h'→e≠0→(∀ o a b c,chunk p k=[o,a,b,c]→eE o a b c=false)→K (.tuple #[fD 0 0 0 0,.int .i64 e]) h'):bT env (.func 83) [v,.int .i64 k] h K:=by
 obtain⟨va,vc,rfl,_⟩:=id r
 have hpn:p≠[]:=by intro e;rw[e]at hk;simp at hk
 obtain⟨i,off,rfl⟩:=r.addr hpn
 have X1:ai h.n h (af h (.cells [.int .u8 0,.int .u8 0,.int .u8 0,.int .u8 0] 125 true)):=ai.new _ (Nat.le_refl _)
 have w4:IntKind.wrap .i64 (4*(k:Int))=((4*k:Nat):Int):=by rw[wrap_i64 (by omega) (by omega)];omega
 have w5:IntKind.wrap .i64 (((4*k:Nat):Int)+4)=((4*k+4:Nat):Int):=by rw[wrap_i64 (by omega) (by omega)];omega
 refine F83 rfl ?_
 by_cases hin:4*k+3<p.length
 case neg =>(with_reducible repeat' (first|refine y1 ?_|refine y2 ?_|refine y7 ?_|refine y9 ?_|simp -dsimp only[↓WB,↓Vi,WP,ae,Nat.reduceEqDiff,Nat.reduceAdd,w4,w5]));refine hK2 7 _ X1 (by decide) fun o a b c e=>?_;have:=fq p k;rw[e]at this;simp at this;omega
 case pos =>
 have hch:=PZ hin
 have v1:IntKind.wrap .i64 (((4*k:Nat):Int)+1)=((4*k+1:Nat):Int):=by rw[wrap_i64 (by omega) (by omega)];omega
 have v2:IntKind.wrap .i64 (((4*k:Nat):Int)+2)=((4*k+2:Nat):Int):=by rw[wrap_i64 (by omega) (by omega)];omega
 have v3:IntKind.wrap .i64 (((4*k:Nat):Int)+3)=((4*k+3:Nat):Int):=by rw[wrap_i64 (by omega) (by omega)];omega
 have B1:=dm.new h [.int .u8 0,.int .u8 0,.int .u8 0,.int .u8 0] 125
 have n1:(af h (.cells [.int .u8 0,.int .u8 0,.int .u8 0,.int .u8 0] 125 true)).n=h.n+1:=rfl
 have r1:=r.ext (X1.mono hB)
 have c0:=(r1.Ck (k:=4*k) (by omega)).2
 have c1:=(r1.Ck (k:=4*k+1) (by omega)).2
 have c2:=(r1.Ck (k:=4*k+2) (by omega)).2
 have c3:=(r1.Ck (k:=4*k+3) (by omega)).2
 generalize p[4*k]=o at c0 hch
 generalize p[4*k+1]=a at c1 hch
 generalize p[4*k+2]=b at c2 hch
 generalize p[4*k+3]=c at c3 hch
 simp only[aw]at c0 c1 c2 c3
 (with_reducible repeat' (first|refine y1 ?_|refine y2 ?_|refine y4 ?_|refine y5 ?_|refine y9 ?_|simp -dsimp only[↓WB,↓Vi,WP,ae,Nat.reduceEqDiff,Nat.reduceAdd,w4,w5,v1,v2,v3,c0,c1,c2,c3,Nat.mul_one]))
 generalize af h (.cells [.int .u8 0,.int .u8 0,.int .u8 0,.int .u8 0] 125 true)=h1 at X1 B1 n1 ⊢
 rw[← n1]
 refine q_ rfl ?_
 have B2:=B1.ext (ai.new (B:=h1.n) (.cells [.int .u8 (o.toNat:Int),.int .u8 (a.toNat:Int),.int .u8 (b.toNat:Int),.int .u8 (c.toNat:Int)] 125 true) (Nat.le_refl _)) B1.lt
 have B3:=dm.new h1 [.int .u8 (o.toNat:Int),.int .u8 (a.toNat:Int),.int .u8 (b.toNat:Int),.int .u8 (c.toNat:Int)] 125
 have X2:ai h.n h (af h1 (.cells [.int .u8 (o.toNat:Int),.int .u8 (a.toNat:Int),.int .u8 (b.toNat:Int),.int .u8 (c.toNat:Int)] 125 true)):=X1.trans (ai.new _ (by omega))
 have n2:(af h1 (.cells [.int .u8 (o.toNat:Int),.int .u8 (a.toNat:Int),.int .u8 (b.toNat:Int),.int .u8 (c.toNat:Int)] 125 true)).n=h1.n+1:=rfl
 have d4:ax (af h1 (.cells [.int .u8 (o.toNat:Int),.int .u8 (a.toNat:Int),.int .u8 (b.toNat:Int),.int .u8 (c.toNat:Int)] 125 true)) ⟨h1.n,0,none⟩ 4=some [.int .u8 (o.toNat:Int),.int .u8 (a.toNat:Int),.int .u8 (b.toNat:Int),.int .u8 (c.toNat:Int)]:=aJ (off:=0) (n:=4) B3.lt B3.get rfl rfl
 generalize af h1 (.cells [.int .u8 (o.toNat:Int),.int .u8 (a.toNat:Int),.int .u8 (b.toNat:Int),.int .u8 (c.toNat:Int)] 125 true)=h2 at B2 B3 X2 n2 d4 ⊢
 (with_reducible repeat' (first|refine y5 ?_|simp -dsimp only[↓WB,↓Vi,WP,ae,Nat.reduceEqDiff,Nat.reduceAdd,d4]))
 refine Lc (o:=o) (a:=a) (b:=b) (c:=c) fun h3 X3=>?_
 have n3:=X3.n
 have B2':=B2.ext X3 B2.lt
 have d4':=cJ X3 B3.lt d4
 cases hok:eE o a b c with
 | true =>
   simp -dsimp only[↓WB,↓Vi,WP,ae,Nat.reduceEqDiff,Nat.reduceAdd,d4']
   refine bN (cs':=[.int .u8 (o.toNat:Int),.int .u8 (a.toNat:Int),.int .u8 (b.toNat:Int),.int .u8 (c.toNat:Int)]) B2'.get rfl rfl rfl rfl (by decide) ?_
   have bx':=B2'.set (cs':=[.int .u8 (o.toNat:Int),.int .u8 (a.toNat:Int),.int .u8 (b.toNat:Int),.int .u8 (c.toNat:Int)])
   have cx:=aJ (off:=0) (n:=4) bx'.lt bx'.get rfl rfl
   simp -dsimp only[↓WB,↓Vi,WP,ae,Nat.reduceEqDiff,Nat.reduceAdd,cx]
   exact hK1 _ _ _ _ _ ((X2.trans (X3.mono (by omega))).trans (ai.set _ (Nat.le_refl _))) hch hok
 | false =>
   (with_reducible repeat' (first|refine y9 ?_|simp -dsimp only[↓WB,↓Vi,WP,ae,Nat.reduceEqDiff,Nat.reduceAdd,d4']))
   refine bN (cs':=[.int .u8 0,.int .u8 0,.int .u8 0,.int .u8 0]) B2'.get rfl rfl rfl rfl (by decide) ?_
   have bx':=B2'.set (cs':=[.int .u8 0,.int .u8 0,.int .u8 0,.int .u8 0])
   have cx:=aJ (off:=0) (n:=4) bx'.lt bx'.get rfl rfl
   simp -dsimp only[↓WB,↓Vi,WP,ae,Nat.reduceEqDiff,Nat.reduceAdd,cx]
   refine hK2 7 _ ((X2.trans (X3.mono (by omega))).trans (ai.set _ (Nat.le_refl _))) (by decide) fun o' a' b' c' e=>?_
   rw[hch]at e
   cases e
   exact hok
theorem Gy {o a b c:UInt8}(h:(dF o.toNat).2.2=true):e_ o a b c≠[]:=by
 intro e;have:(e_ o a b c).length=0:=by rw[e];rfl
 unfold e_ at this;rw[List.length_append]at this;rcases eM o.toNat with ⟨_,e⟩|⟨_,e⟩|⟨_,e⟩|⟨_,e⟩|⟨_,e⟩|⟨_,e⟩|⟨_,e⟩|⟨_,e⟩|⟨_,e⟩|⟨_,e⟩<;>rw[e]at this h<;>first|(simp at this;done)|(cases h)
theorem Jl {p:List UInt8}{k j:Nat}(hj:j<(chunk p k).length):∃ h:4*k+j<p.length,(chunk p k)[j]=p[4*k+j]:=by
 have hl:=fq p k;have h:4*k+j<p.length:=by omega
 refine⟨h,?_⟩;have e:(chunk p k)[j]?=p[4*k+j]?:=by unfold chunk;rw[List.getElem?_take,if_pos (by omega),List.getElem?_drop]
 rw[List.getElem?_eq_getElem hj,List.getElem?_eq_getElem h]at e;exact Option.some.inj e
theorem Yu (x:UInt8):IntKind.wrap .u8 ((x.toNat:Int).tdiv 16)=(((x / 16).toNat:Nat):Int):=by
 have h1:(x / 16).toNat=x.toNat / 16:=by rw[UInt8.toNat_div];rfl
 have h2:(x.toNat:Int).tdiv 16=((x.toNat / 16:Nat):Int):=rfl;have:=x.toNat_lt;rw[h1,h2];exact wrap_u8 (by omega) (by omega)
theorem Yk (x:UInt8):((x.toNat:Int).tmod 16)=(((x%16).toNat:Nat):Int):=by
 have h1:(x%16).toNat=x.toNat%16:=by rw[UInt8.toNat_mod];rfl
 rw[h1];rfl
theorem vO (x:UInt8):(x / 16).toNat<16:=by have h:=x.toNat_lt;have e:(16:UInt8).toNat=16:=rfl;rw[UInt8.toNat_div,e];omega
theorem mod_lt (x:UInt8):(x%16).toNat<16:=by have e:(16:UInt8).toNat=16:=rfl;rw[UInt8.toNat_mod,e];omega
theorem y_ {B i off c k:Nat}{p:List UInt8}{fr:Fr}{h:Heap}{Q:Ex→Fr→Heap→Prop}(r:nu B h (.slice (some ⟨i,off,none⟩) p.length c) p) (hB:B≤h.n) (hk:4*k<p.length) (hp:p.length≤50000)
  (g0:fr.get 0=some (.slice (some ⟨i,off,none⟩) p.length c)) (g4:fr.get 4=some (.int .i64 ((4*k:Nat):Int)))
  (q:∀ fr' h',(∀ t,t=0∨t=3∨t=4→fr'.get t=fr.get t)→fr'.get 7=some (aq (lH (chunk p k)))→ai h.n h h'→Q .normal fr' h'):DZ.wp env 64 none fr h Q:=by
 have e0:=aj g0
 have e4:=aj g4
 have hcl:=fq p k
 have w5:IntKind.wrap .i64 (((4*k:Nat):Int)+4)=((4*k+4:Nat):Int):=by rw[wrap_i64 (by omega) (by omega)];omega
 simp -dsimp only[↓WB,↓G_,WP,ae,Nat.reduceEqDiff,Nat.reduceAdd,↓e0,↓e4]
 refine aE (fun m fr' h'=>∃ j:Nat,j≤(chunk p k).length∧m=(chunk p k).length-j∧ai h.n h h'∧fr'.get 8=some (.int .i64 ((4*k+j:Nat):Int))∧fr'.get 7=some (aq (iR++gP ((chunk p k).take j)))) (chunk p k).length ?_ (by omega) ?_
 ·refine⟨0,by omega,by omega,ai.refl _ _,by simp[T.ah],by simp[T.ah,gP,iR,aq]⟩
 rintro m fr2 h2 ⟨j,hj,rfl,X2,f8,f7⟩ hag
 have e8:=aj f8
 have e7:=aj f7
 have b0:=au (hag 0 rfl)
 have b4:=au (hag 4 rfl)
 have n2:=X2.n
 by_cases aB:j<(chunk p k).length
 ·obtain⟨hpj,hcg⟩:=Jl aB;have d:=(r.ext (X2.mono hB)).Ck hpj;have dc:=d.2;rw[← hcg]at dc;have hsc:=zw aB;have hxl:=n9 ((chunk p k).take j);rw[List.length_take,Nat.min_eq_left (by omega)]at hxl;generalize (chunk p k)[j]=x at dc hsc;unfold aw at dc;have q16:=Yu x;have r16:=Yk x;have w6:IntKind.wrap .i64 (((4*k+j:Nat):Int)+1)=((4*k+(j+1):Nat):Int):=by rw[wrap_i64 (by omega) (by omega)];omega
  (with_reducible repeat' (first|refine y1 ?_|refine y4 ?_|refine y5 ?_|simp -dsimp only[↓WB,↓G_,WP,ae,Nat.reduceEqDiff,Nat.reduceAdd,↓e8,↓e7,↓b0,↓b4,↓e0,↓e4,w5,dc,Nat.mul_one,q16,r16]));refine oL (vO x) ?_;refine⟨Nat.le_refl _,?_,?_⟩;·simp -dsimp only[↓WB,↓G_,WP,ae,Nat.reduceEqDiff,Nat.reduceAdd,↓e8,↓e7,↓b0,↓b4,↓e0,↓e4,w5,dc,Nat.mul_one];all_goals exact cZ _ _ _
  simp -dsimp only[↓WB,↓G_,WP,ae,Nat.reduceEqDiff,Nat.reduceAdd,↓e8,↓e7,↓b0,↓b4,↓e0,↓e4,w5,dc,Nat.mul_one];refine oL (mod_lt x) ?_;refine⟨Nat.le_refl _,?_,?_⟩;·simp -dsimp only[↓WB,↓G_,WP,ae,Nat.reduceEqDiff,Nat.reduceAdd,↓e8,↓e7,↓b0,↓b4,↓e0,↓e4,w5,dc,Nat.mul_one]
  unfold aw;simp -dsimp only[↓WB,↓G_,WP,ae,Nat.reduceEqDiff,Nat.reduceAdd,↓e8,↓e7,↓b0,↓b4,↓e0,↓e4,w5,dc,Nat.mul_one];refine lf (l:=[aw (cW (x / 16)),aw (cW (x%16))]) rfl ?_;have n4:(af h2 (.cells [aw (cW (x / 16)),aw (cW (x%16))] 5 true)).n=h2.n+1:=rfl;have X4:ai h2.n h2 (af h2 (.cells [aw (cW (x / 16)),aw (cW (x%16))] 5 true)):=ai.new _ (Nat.le_refl _);have c4:ax (af h2 (.cells [aw (cW (x / 16)),aw (cW (x%16))] 5 true)) ⟨h2.n,0,none⟩ 2=some ([cW (x / 16),cW (x%16)].map aw):=bA rfl;generalize af h2 (.cells [aw (cW (x / 16)),aw (cW (x%16))] 5 true)=h3 at n4 X4 c4 ⊢;refine⟨by omega,?_,?_⟩;·simp -dsimp only[↓WB,↓G_,WP,ae,Nat.reduceEqDiff,Nat.reduceAdd,↓e8,↓e7,↓b0,↓b4,↓e0,↓e4,w5,dc,Nat.mul_one]
  simp -dsimp only[↓WB,↓G_,WP,ae,Nat.reduceEqDiff,Nat.reduceAdd,↓e8,↓e7,↓b0,↓b4,↓e0,↓e4,w5,dc,Nat.mul_one];refine jn (l:=[cW (x / 16),cW (x%16)]) c4 ?_;unfold aq;have rl:iR.length=4:=rfl;(with_reducible repeat' (first|refine y5 ?_|simp -dsimp only[↓WB,↓G_,WP,ae,Nat.reduceEqDiff,Nat.reduceAdd,↓e8,↓e7,↓b0,↓b4,↓e0,↓e4,aY,ak,List.length_append,List.length_cons,List.length_nil,rl,hxl]));refine⟨(chunk p k).length-(j+1),by omega,j+1,by omega,rfl,X2.trans (X4.mono n2),?_,?_⟩;·simp only[T.ah];simp;exact w6
  ·rw[hsc];simp[T.ah,aq]
 ·(with_reducible repeat' (first|refine y2 ?_|refine y3 (fun _=>?_) (fun _=>?_)|simp -dsimp only[↓WB,↓G_,WP,ae,Nat.reduceEqDiff,Nat.reduceAdd,↓e8,↓e7,↓b0,↓b4,↓e0,↓e4,w5]));all_goals (
   refine q _ _ ?_ ?_ X2
   ·rintro t (rfl|rfl|rfl);·simp[T.ah,hag 0 rfl]
    ·simp[T.ah,hag 3 rfl]
    ·simp[T.ah,hag 4 rfl]
   ·rw[List.take_of_length_le (by omega)]at f7;simp[T.ah];exact f7)
theorem tJ {B:Nat}{v:Value}{p:List UInt8}{h:Heap}{K:Value→Heap→Prop}(r:nu B h v p) (hB:B≤h.n) (hp:p.length≤50000) (hK:∀ h',ai h.n h h'→K (aq (c_ p)) h'):bT env (.func 49) [v] h K:=by
 obtain⟨va,vc,rfl,_⟩:=id r;refine F49 rfl ?_;simp -dsimp only[↓WB,↓G_,WP,ae,Nat.reduceEqDiff,Nat.reduceAdd];refine aE (fun m fr' h'=>∃ k:Nat,4*k≤p.length+3∧m=(p.length+3) / 4-k∧ai h.n h h'∧fr'.get 4=some (.int .i64 ((4*k:Nat):Int))∧fr'.get 3=some (aq (lp p k))) ((p.length+3) / 4) ?_ (by omega) ?_;·exact⟨0,by omega,by omega,ai.refl _ _,by simp[T.ah],by simp[T.ah,lp,aq]⟩
 rintro m fr2 h2 ⟨k,hk,rfl,X2,f4,f3⟩ hag;have e4:=aj f4;have e3:=aj f3;have b0:=au (hag 0 rfl);have n2:=X2.n;have tl:=sN p k;have q4:IntKind.wrap .i64 (((4*k:Nat):Int).tdiv 4)=(k:Int):=by have:((4*k:Nat):Int).tdiv 4=((4*k / 4:Nat):Int):=rfl;rw[this,wrap_i64 (by omega) (by omega)];omega
 by_cases aB:4*k<p.length
 ·have hll:=oU (chunk p k) (by rw[fq];omega);have hts:=pE p k;have hpn:p≠[]:=by intro e;rw[e]at aB;simp at aB
  obtain⟨i,off,rfl⟩:=r.addr hpn;have w4:IntKind.wrap .i64 (((4*k:Nat):Int)+4)=((4*(k+1):Nat):Int):=by rw[wrap_i64 (by omega) (by omega)];omega
  have f0:fr2.get 0=some (.slice (some ⟨i,off,none⟩) p.length vc):=by rw[hag 0 rfl];simp[T.ah]
  have fin:∀ (fr3:Fr) (s:List UInt8) (h3:Heap),ai h.n h h3→fk (chunk p k)=s→fr3.get 0=some (.slice (some ⟨i,off,none⟩) p.length vc)→fr3.get 4=some (.int .i64 ((4*k:Nat):Int))→fr3.get 3=some (aq (lp p k))→fr3.get 7=some (aq s) →
    Jy.wp env 64 none fr3 h3 (iM 1 (ue (K7.wp env 64 none) (tz (fun fr' h'=>∃ m,m<(p.length+3) / 4-k∧∃ k:Nat,4*k≤p.length+3∧m=(p.length+3) / 4-k∧ai h.n h h'∧fr'.get 4=some (.int .i64 ((4*k:Nat):Int))∧fr'.get 3=some (aq (lp p k)))
     (iM 0 (ue (Ll.wp env 64 none) (eY env [.tmp 2] K)))))):=by
   intro fr3 s h3 X3 hs g0 g4 g3 g7
   have k4:=aj g4
   have k3:=aj g3
   have k7:=aj g7
   rw[hs]at hll hts
   unfold aq at k3 k7
   have hend:∀ l:List UInt8,(⟨l.toArray⟩:ByteArray)++⟨⟨[10]⟩⟩=⟨(cL l).toArray⟩:=fun l=>aY l [10]
   have s10:(⟨⟨[10]⟩⟩:ByteArray).size=1:=rfl
   (with_reducible repeat' (first|refine y5 ?_|simp -dsimp only[↓WB,↓G_,WP,ae,Nat.reduceEqDiff,Nat.reduceAdd,↓k4,↓k3,↓k7,w4,aY,ak,List.length_append,s10]))
   refine⟨(p.length+3) / 4-(k+1),by omega,k+1,by omega,by omega,X3,?_,?_⟩
   ·simp only[T.ah];simp
   ·rw[hts];simp[T.ah,aq,cL,← aY]
  (with_reducible repeat' (first|refine y1 ?_|refine y5 ?_|simp -dsimp only[↓WB,↓G_,WP,ae,Nat.reduceEqDiff,Nat.reduceAdd,↓e4,↓e3,↓b0,q4]));refine zX (r.ext (X2.mono hB)) (by omega) hp aB (fun o a b c h3 X3 hc hok=>?_) (fun e h3 X3 he hno=>?_)
  ·have n3:=X3.n;have X4:ai h.n h (af h3 (.cells [.int .u8 (o.toNat:Int),.int .u8 (a.toNat:Int),.int .u8 (b.toNat:Int),.int .u8 (c.toNat:Int)] 125 true)):=(X2.trans (X3.mono n2)).trans (ai.new _ (by omega));have n4:(af h3 (.cells [.int .u8 (o.toNat:Int),.int .u8 (a.toNat:Int),.int .u8 (b.toNat:Int),.int .u8 (c.toNat:Int)] 125 true)).n=h3.n+1:=rfl;have d4:ax (af h3 (.cells [.int .u8 (o.toNat:Int),.int .u8 (a.toNat:Int),.int .u8 (b.toNat:Int),.int .u8 (c.toNat:Int)] 125 true)) ⟨h3.n,0,none⟩ 4=some [.int .u8 (o.toNat:Int),.int .u8 (a.toNat:Int),.int .u8 (b.toNat:Int),.int .u8 (c.toNat:Int)]:=bA rfl;unfold fD;(with_reducible repeat' (first|refine y7 ?_|simp -dsimp only[↓WB,↓yq,↓Bm,↓yE,↓rS,↓zt,↓zg,WP,ae,Nat.reduceEqDiff,Nat.reduceAdd,↓e4,↓e3,↓b0]));refine pM (o:=o) (a:=a) (b:=b) (c:=c) fun h5 X5=>?_;have X6:=X4.trans (X5.mono (by omega));have hkn:(dF o.toNat).2.2=true:=by unfold eE at hok;simp only[Bool.and_eq_true]at hok;exact hok.1
   by_cases hpl:bZ o a b c=true
   ·have hl:dA o a b c=e_ o a b c:=by unfold dA;rw[hkn,hpl];rfl
    have hne:¬((⟨(e_ o a b c).toArray⟩:ByteArray)=⟨⟨[]⟩⟩):=fun e=>Gy hkn (str_inj.1 e);rw[hl];unfold aq;simp -dsimp only[↓WB,↓yq,↓yE,↓rS,↓zt,↓qD,↓zg,WP,ae,Nat.reduceEqDiff,Nat.reduceAdd,↓e4,↓e3,↓b0,hne];refine fin _ (e_ o a b c) _ X6 ?_ ?_ ?_ ?_ ?_;·rw[hc,fk,hok,hpl];rfl
    ·simp[T.ah,f0]
    ·simp[T.ah,f4]
    ·simp[T.ah,f3]
    ·simp[T.ah,aq]
   ·have hpl':bZ o a b c=false:=by simpa using hpl
    have hl:dA o a b c=[]:=by unfold dA;rw[hpl',Bool.and_false];rfl
    have hne:((⟨([]:List UInt8).toArray⟩:ByteArray)=⟨⟨[]⟩⟩):=rfl;rw[hl];unfold aq;simp -dsimp only[↓WB,↓yq,↓yE,↓zt,↓qD,↓zg,WP,ae,Nat.reduceEqDiff,Nat.reduceAdd,↓e4,↓e3,↓b0,hne];refine y_ (k:=k) (p:=p) (r.ext (X6.mono hB)) (by have:=X6.n;omega) aB hp ?_ ?_ fun fr3 h6 hag2 h7 X7=>?_;·simp[T.ah,f0]
    ·simp[T.ah,f4]
    ·refine fin fr3 (lH (chunk p k)) _ (X6.trans (X7.mono (by have:=X6.n;omega))) ?_ ?_ ?_ ?_ h7;·rw[hc,fk,hok,hpl'];rfl
     ·rw[hag2 0 (.inl rfl)];simp[T.ah,f0]
     ·rw[hag2 4 (.inr (.inr rfl))];simp[T.ah,f4]
     ·rw[hag2 3 (.inr (.inl rfl))];simp[T.ah,f3]
  ·have n3:=X3.n;have X4:ai h.n h (af h3 (.cells [.int .u8 ((0:UInt8).toNat:Int),.int .u8 ((0:UInt8).toNat:Int),.int .u8 ((0:UInt8).toNat:Int),.int .u8 ((0:UInt8).toNat:Int)] 125 true)):=(X2.trans (X3.mono n2)).trans (ai.new _ (by omega));have n4:(af h3 (.cells [.int .u8 ((0:UInt8).toNat:Int),.int .u8 ((0:UInt8).toNat:Int),.int .u8 ((0:UInt8).toNat:Int),.int .u8 ((0:UInt8).toNat:Int)] 125 true)).n=h3.n+1:=rfl;have d4:ax (af h3 (.cells [.int .u8 ((0:UInt8).toNat:Int),.int .u8 ((0:UInt8).toNat:Int),.int .u8 ((0:UInt8).toNat:Int),.int .u8 ((0:UInt8).toNat:Int)] 125 true)) ⟨h3.n,0,none⟩ 4=some [.int .u8 ((0:UInt8).toNat:Int),.int .u8 ((0:UInt8).toNat:Int),.int .u8 ((0:UInt8).toNat:Int),.int .u8 ((0:UInt8).toNat:Int)]:=bA rfl;unfold fD;(with_reducible repeat' (first|refine y7 ?_|simp -dsimp only[↓WB,↓yq,↓Bm,↓yE,↓rS,↓zt,↓zg,WP,ae,Nat.reduceEqDiff,Nat.reduceAdd,↓e4,↓e3,↓b0]));refine pM (o:=0) (a:=0) (b:=0) (c:=0) fun h5 X5=>?_;have X6:=X4.trans (X5.mono (by omega));generalize dA 0 0 0 0=ln;unfold aq;simp -dsimp only[↓WB,↓yq,↓yE,↓zt,↓qD,↓zg,WP,ae,Nat.reduceEqDiff,Nat.reduceAdd,↓e4,↓e3,↓b0,he];refine y_ (k:=k) (p:=p) (r.ext (X6.mono hB)) (by have:=X6.n;omega) aB hp ?_ ?_ fun fr3 h6 hag2 h7 X7=>?_;·simp[T.ah,f0]
   ·simp[T.ah,f4]
   ·refine fin fr3 (lH (chunk p k)) _ (X6.trans (X7.mono (by have:=X6.n;omega))) ?_ ?_ ?_ ?_ h7;·exact yN hno
    ·rw[hag2 0 (.inl rfl)];simp[T.ah,f0]
    ·rw[hag2 4 (.inr (.inr rfl))];simp[T.ah,f4]
    ·rw[hag2 3 (.inr (.inl rfl))];simp[T.ah,f3]
 ·have hke:c_ p=lp p k:=by
   rw[Ab];by_cases h0:k=(p.length+3) / 4;·rw[h0]
   ·omega
  rw[hke]at hK;unfold aq at hK e3;(with_reducible repeat' (first|refine y2 ?_|simp -dsimp only[↓WB,↓G_,WP,ae,Nat.reduceEqDiff,Nat.reduceAdd,↓e4,↓e3,↓b0]));exact hK _ X2
theorem PT {i o:Nat}{xs:List (List UInt8)}{sep:List UInt8}{h:Heap}{K:Value→Heap→Prop}(hi:i<h.n) (hc:ax h ⟨i,o,none⟩ xs.length=some (xs.map aq))
  (h1:1≤xs.length) (h2:xs.length≤1000000) (hl:(Lib.join xs sep).length≤1000000) (hK:K (aq (Lib.join xs sep)) h):bT env (.func 65) [.slice (some ⟨i,o,none⟩) xs.length xs.length,aq sep] h K:=by
 refine i_ (g:=GP) (base:=Vl) rfl ?_ hK
 have e:xs.map aq=(xs.map fun x=>(⟨x.toArray⟩:ByteArray)).map Value.string:=by simp[aq,Function.comp_def]
 have hk:(xs.map fun x=>(⟨x.toArray⟩:ByteArray)).map (·.data.toList)=xs:=by simp[Function.comp_def]
 unfold GP aq
 dsimp only
 rw[hc]
 rw[e]
 simp only[Option.bind_some,LJ,hk]
 have hu:xs.length<cY:=by unfold cY;omega
 have:(Nat.blt i h.n&&Nat.ble xs.length xs.length&&Nat.blt xs.length cY&&Nat.ble (Lib.join xs sep).length 1000000&&Nat.ble 1 xs.length&&Nat.ble xs.length 1000000)=true:=by simp only[Bool.and_eq_true,blt_eq,ble_eq,decide_eq_true_eq];exact⟨⟨⟨⟨⟨hi,Nat.le_refl _⟩,hu⟩,hl⟩,h1⟩,h2⟩
 rw[this];rfl
theorem pA {i:Nat}{xs:List (List UInt8)}{h:Heap}{K:Value→Heap→Prop}(hi:i<h.n) (hc:ax h ⟨i,0,none⟩ xs.length=some (xs.map aq))
  (h1:1≤xs.length) (h2:xs.length≤1000000) (hl:(Lib.join xs [32]).length≤1000000) (hK:K (aq (Lib.join xs [32])) h):bT env (.func 29) [.slice (some ⟨i,0,none⟩) xs.length xs.length] h K:=by
 refine F29 rfl ?_
 simp -dsimp only[↓WB,↓W29,WP,ae,Nat.reduceEqDiff,Nat.reduceAdd]
 refine PT hi hc h1 h2 hl ?_
 unfold aq at hK ⊢
 simp -dsimp only[↓WB,↓W29,WP,ae,Nat.reduceEqDiff,Nat.reduceAdd]
 exact hK
def xA (a:ba):Prop:=(-9223372036854775808≤a.p∧a.p≤9223372036854775807)∧(-9223372036854775808≤a.v∧a.v≤9223372036854775807)∧(-9223372036854775808≤a.c∧a.c≤9223372036854775807)
def de (a:ba):List UInt8:=uM a.k a.p a.v a.c
theorem qs {a:ba}(ok:xA a):(de a).length≤70:=by
 have h1:=cA a.p ok.1.1 ok.1.2;have h2:=cA a.v ok.2.1.1 ok.2.1.2;have h3:=cA a.c ok.2.2.1 ok.2.2.2;unfold de uM;split;·decide
 ·simp;omega
theorem SY {a:ba}{h:Heap}{K:Value→Heap→Prop}(ok:xA a) (gk:rW h) (hK:∀ h',ai h.n h h'→K (aq (de a)) h'):bT env (.func 33) [.agg ⟨a.cells⟩] h K:=by
 have gn:=gk.n;have X1:ai h.n h (af h (.cells [.int .i64 a.k,.int .i64 a.p,.int .i64 a.v,.int .i64 a.c] 35 true)):=ai.new _ (Nat.le_refl _);have B1:=dm.new h [.int .i64 a.k,.int .i64 a.p,.int .i64 a.v,.int .i64 a.c] 35;have n1:(af h (.cells [.int .i64 a.k,.int .i64 a.p,.int .i64 a.v,.int .i64 a.c] 35 true)).n=h.n+1:=rfl;refine F33 rfl ?_;simp only[ba.cells];by_cases h2:a.k=2
 ·have e:de a=[99,108,111,99,107]:=by unfold de uM;rw[if_pos h2]
  rw[e]at hK;unfold aq at hK;(with_reducible repeat' (first|refine y6 ?_|simp -dsimp only[↓WB,↓N9,WP,ae,Nat.reduceEqDiff,Nat.reduceAdd,h2]));exact hK _ (ai.new _ (Nat.le_refl _))
 ·(with_reducible repeat' (first|refine y6 ?_|simp -dsimp only[↓WB,↓N9,WP,ae,Nat.reduceEqDiff,Nat.reduceAdd,h2]));generalize af h (.cells [.int .i64 a.k,.int .i64 a.p,.int .i64 a.v,.int .i64 a.c] 35 true)=h1 at X1 B1 n1 ⊢;have gk1:=gk.ext (B:=h.n) gn X1;refine nQ gk1.t (by omega) ok.1.1 ok.1.2 fun h3 X3=>?_;have n3:=X3.n;have B3:=B1.ext X3 B1.lt;have gk3:=gk1.ext (B:=h1.n) gk1.n X3;have d1:=B3.at_ (j:=1) rfl;have d2:=B3.at_ (j:=2) rfl;have d3:=B3.at_ (j:=3) rfl;refine⟨n3,?_,?_⟩;·simp -dsimp only[↓WB,↓N9,WP,ae,Nat.reduceEqDiff,Nat.reduceAdd,d1,d2,d3];all_goals (repeat' (first|exact cZ _ _ _|(with_reducible refine And.intro ?_ ?_)))
  simp -dsimp only[↓WB,↓N9,WP,ae,Nat.reduceEqDiff,Nat.reduceAdd,d1,d2,d3];refine nQ gk3.t (by have:=gk3.n;omega) ok.2.1.1 ok.2.1.2 fun h4 X4=>?_;have n4:=X4.n;have B4:=B3.ext X4 B3.lt;have gk4:=gk3.ext (B:=h3.n) gk3.n X4;have d3':=B4.at_ (j:=3) rfl;refine⟨n4,?_,?_⟩;·simp -dsimp only[↓WB,↓N9,WP,ae,Nat.reduceEqDiff,Nat.reduceAdd,d3'];all_goals (repeat' (first|exact cZ _ _ _|(with_reducible refine And.intro ?_ ?_)))
  simp -dsimp only[↓WB,↓N9,WP,ae,Nat.reduceEqDiff,Nat.reduceAdd,d3'];refine nQ gk4.t (by have:=gk4.n;omega) ok.2.2.1 ok.2.2.2 fun h5 X5=>?_;have n5:=X5.n;(with_reducible repeat' (first|refine y5 ?_|simp -dsimp only[↓WB,↓N9,WP,ae,Nat.reduceEqDiff,Nat.reduceAdd]));unfold qX;refine lf (l:=[aq [114,117,110],aq (Lib.itoa a.p),aq (Lib.itoa a.v),aq (Lib.itoa a.c)]) rfl ?_;have n6:(af h5 (.cells [aq [114,117,110],aq (Lib.itoa a.p),aq (Lib.itoa a.v),aq (Lib.itoa a.c)] 9 true)).n=h5.n+1:=rfl;have X6:ai h5.n h5 (af h5 (.cells [aq [114,117,110],aq (Lib.itoa a.p),aq (Lib.itoa a.v),aq (Lib.itoa a.c)] 9 true)):=ai.new _ (Nat.le_refl _);have c6:ax (af h5 (.cells [aq [114,117,110],aq (Lib.itoa a.p),aq (Lib.itoa a.v),aq (Lib.itoa a.c)] 9 true)) ⟨h5.n,0,none⟩ 4=some ([[114,117,110],Lib.itoa a.p,Lib.itoa a.v,Lib.itoa a.c].map aq):=bA rfl;generalize af h5 (.cells [aq [114,117,110],aq (Lib.itoa a.p),aq (Lib.itoa a.v),aq (Lib.itoa a.c)] 9 true)=h6 at n6 X6 c6 ⊢;refine⟨by omega,?_,?_⟩;·simp -dsimp only[↓WB,↓N9,WP,ae,Nat.reduceEqDiff,Nat.reduceAdd]
  have e:de a=Lib.join [[114,117,110],Lib.itoa a.p,Lib.itoa a.v,Lib.itoa a.c] [32]:=by unfold de uM;rw[if_neg h2];simp[Lib.join]
  have hl:=qs ok;rw[e]at hK hl;simp -dsimp only[↓WB,↓N9,WP,ae,Nat.reduceEqDiff,Nat.reduceAdd];refine pA (xs:=[[114,117,110],Lib.itoa a.p,Lib.itoa a.v,Lib.itoa a.c]) (by omega) c6 (by simp) (by simp) (by omega) ?_;refine⟨Nat.le_refl _,?_,?_⟩;·simp -dsimp only[↓WB,↓N9,WP,ae,Nat.reduceEqDiff,Nat.reduceAdd]
  unfold aq at hK ⊢;simp -dsimp only[↓WB,↓N9,WP,ae,Nat.reduceEqDiff,Nat.reduceAdd];exact hK _ (X1.trans ((X3.mono (by omega)).trans ((X4.mono (by omega)).trans ((X5.mono (by omega)).trans (X6.mono (by omega))))))
theorem ET {a:ba}{h:Heap}{K:Value→Heap→Prop}(ok:xA a) (hK:∀ h',ai h.n h h'→K (aq (de a)) h'):bT env (.func 50) [.agg ⟨a.cells⟩] h K:=by
 have l1:=cA a.p ok.1.1 ok.1.2;have l2:=cA a.v ok.2.1.1 ok.2.1.2;have l3:=cA a.c ok.2.2.1 ok.2.2.2;have X1:ai h.n h (af h (.cells [.int .i64 a.k,.int .i64 a.p,.int .i64 a.v,.int .i64 a.c] 35 true)):=ai.new _ (Nat.le_refl _);have B1:=dm.new h [.int .i64 a.k,.int .i64 a.p,.int .i64 a.v,.int .i64 a.c] 35;have n1:(af h (.cells [.int .i64 a.k,.int .i64 a.p,.int .i64 a.v,.int .i64 a.c] 35 true)).n=h.n+1:=rfl;refine F50 rfl ?_;simp only[ba.cells];by_cases h2:a.k=2
 ·have e:de a=[99,108,111,99,107]:=by unfold de uM;rw[if_pos h2]
  rw[e]at hK;unfold aq at hK;(with_reducible repeat' (first|refine y6 ?_|simp -dsimp only[↓WB,↓UC,WP,ae,Nat.reduceEqDiff,Nat.reduceAdd,h2]));exact hK _ (ai.new _ (Nat.le_refl _))
 ·have e:de a=[114,117,110,32]++Lib.itoa a.p++[32]++Lib.itoa a.v++[32]++Lib.itoa a.c:=by unfold de uM;rw[if_neg h2]
  rw[e]at hK;(with_reducible repeat' (first|refine y6 ?_|simp -dsimp only[↓WB,↓UC,WP,ae,Nat.reduceEqDiff,Nat.reduceAdd,h2]));generalize af h (.cells [.int .i64 a.k,.int .i64 a.p,.int .i64 a.v,.int .i64 a.c] 35 true)=h1 at X1 B1 n1 ⊢;refine j_ ok.1.1 ok.1.2 fun h3 X3=>?_;have n3:=X3.n;have B3:=B1.ext X3 B1.lt;have d1:=B3.at_ (j:=1) rfl;have d2:=B3.at_ (j:=2) rfl;have d3:=B3.at_ (j:=3) rfl;refine⟨n3,?_,?_⟩;·simp -dsimp only[↓WB,↓UC,WP,ae,Nat.reduceEqDiff,Nat.reduceAdd,d1,d2,d3];all_goals (repeat' (first|exact cZ _ _ _|(with_reducible refine And.intro ?_ ?_)))
  unfold aq;(with_reducible repeat' (first|refine y5 ?_|simp -dsimp only[↓WB,↓UC,WP,ae,Nat.reduceEqDiff,Nat.reduceAdd,d1,d2,d3,aY,ak,List.length_append,List.length_cons,List.length_nil]));refine j_ ok.2.1.1 ok.2.1.2 fun h4 X4=>?_;have n4:=X4.n;have B4:=B3.ext X4 B3.lt;have d3':=B4.at_ (j:=3) rfl;refine⟨n4,?_,?_⟩;·simp -dsimp only[↓WB,↓UC,WP,ae,Nat.reduceEqDiff,Nat.reduceAdd,d3'];all_goals (repeat' (first|exact cZ _ _ _|(with_reducible refine And.intro ?_ ?_)))
  unfold aq;(with_reducible repeat' (first|refine y5 ?_|simp -dsimp only[↓WB,↓UC,WP,ae,Nat.reduceEqDiff,Nat.reduceAdd,d3',aY,ak,List.length_append,List.length_cons,List.length_nil]));refine j_ ok.2.2.1 ok.2.2.2 fun h5 X5=>?_;have n5:=X5.n;refine⟨n5,?_,?_⟩;·simp -dsimp only[↓WB,↓UC,WP,ae,Nat.reduceEqDiff,Nat.reduceAdd,d3']
  unfold aq at hK ⊢;(with_reducible repeat' (first|refine y5 ?_|simp -dsimp only[↓WB,↓UC,WP,ae,Nat.reduceEqDiff,Nat.reduceAdd,aY,ak,List.length_append,List.length_cons,List.length_nil]));have:=hK _ (X1.trans ((X3.mono (by omega)).trans ((X4.mono (by omega)).trans (X5.mono (by omega)))));simpa using this
end Go.Proofs.YtohjaacnlmkhbaaGreatDoor
