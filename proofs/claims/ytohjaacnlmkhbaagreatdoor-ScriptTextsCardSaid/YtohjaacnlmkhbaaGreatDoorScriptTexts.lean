/- ScriptTexts: whatever the script is, the law answers true, and what came in reads as it did. Conditions: the row's own (library tables laid, as the card ties them). -/
import Derived.Test.YtohjaacnlmkhbaaGreatDoorIJ
import Derived.Test.YtohjaacnlmkhbaaGreatDoorIL
import Derived.Test.YtohjaacnlmkhbaaGreatDoorZE
import Derived.Shelf.Vars
import Derived.HandedShaped
import Derived.Test.YtohjaacnlmkhbaaGreatDoorRows
import Derived.Test.YtohjaacnlmkhbaaGreatDoorCards
import Derived.Test.YtohjaacnlmkhbaaGreatDoorTie
import Derived.LaidMore
import Derived.Lay
import Derived.SevenTiedAt
import Derived.Stop.Joined
import Derived.WalkKit
import Derived.ProofKit
import Derived.OpenShut
import Derived.SizedLaws
set_option linter.unusedSimpArgs false
set_option linter.unusedVariables false
namespace Go.Proofs.YtohjaacnlmkhbaaGreatDoor
open Go.Ev
set_option maxRecDepth 100000
set_option maxHeartbeats 1000000
theorem known_ret {h:Heap}{K:Value→Heap→Prop}(ht:tabsOk tabs h=true) (hK:K (.bool true) h):Ret env (.func 7) [] h K:=by
 refine Ret.ext (v:=.bool true) ?_ hK
 show extTab tabs ext14 7 7 [] h=_
 simp only[extTab,Nat.beq_refl,cond_true,ht]
def okIn (c:Nat→Int) (A:List ActD):Prop:=okC c∧∀ a∈A,okA a
theorem law4_ret {B:Nat}{c:Nat→Int}{pv av:Value}{P:List (List UInt8)}{A:List ActD}{h:Heap}(r:RdP B h pv P) (ra:RdA B h av A) (hB:B≤h.n) (gk:GOk h) (ok:okIn c A)
   (hsp:∀ n,sameV n pv pv=true) (hsa:∀ n,sameV n av av=true) (hs:P.length≤281474976710656∧∀ l∈P,l.length≤281474976710656) (hs2:A.length≤281474976710656) :
   Ret env (.func 4) [.agg ⟨scrL c pv av⟩] h fun v h'=>v=.bool true:=by
 have gn:=gk.n
 obtain⟨pa,pc,rfl,_⟩:=id r
 obtain⟨aa,ac,rfl,_⟩:=id ra
 refine F4 rfl ?_
 simp -dsimp only[↓WB,↓W4,WP,newBlk_n,Nat.reduceEqDiff,Nat.reduceAdd,scr_one]
 have V:=Box.new h (scrL c (.slice pa P.length pc) (.slice aa A.length ac)) 28
 have X:ExtB h.n h (newBlk h (.cells (scrL c (.slice pa P.length pc) (.slice aa A.length ac)) 28 true)):=ExtB.new _ (Nat.le_refl _)
 have hn1:(newBlk h (.cells (scrL c (.slice pa P.length pc) (.slice aa A.length ac)) 28 true)).n=h.n+1:=rfl
 generalize newBlk h (.cells (scrL c (.slice pa P.length pc) (.slice aa A.length ac)) 28 true)=h1 at V X hn1 ⊢
 have dv:=V.scr
 simp -dsimp only[↓WB,↓W4,WP,newBlk_n,Nat.reduceEqDiff,Nat.reduceAdd,dv.1]
 refine much_ret (B:=B) (r.ext (X.mono hB)) (ra.ext (X.mono hB)) (by omega) hs hs2 fun b h2 X2 hb=>?_
 have n2:=X2.n
 have X02:ExtB h.n h h2:=X.trans (X2.mono (by omega))
 have gk2:=gk.ext (B:=h.n) gn X02
 have V2:=V.ext X2 V.lt
 have dv2:=V2.scr
 cases b with
 | true =>
   simp -dsimp only[↓WB,↓W4,WP,newBlk_n,Nat.reduceEqDiff,Nat.reduceAdd]
   refine known_ret gk2.t ?_
   simp -dsimp only[↓WB,↓W4,WP,newBlk_n,Nat.reduceEqDiff,Nat.reduceAdd]
 | false =>
   obtain⟨hp,ha⟩:=hb rfl
   simp -dsimp only[↓WB,↓W4,WP,newBlk_n,Nat.reduceEqDiff,Nat.reduceAdd,dv2.1]
   refine own_ret (B:=B) (r.ext (X02.mono hB)) (ra.ext (X02.mono hB)) (by omega) hp ha fun pv' av' h3 X3 O3 oa3=>?_
   have n3:=X3.n
   obtain⟨qa,qc,rfl⟩:=O3.val
   obtain⟨ua,uc,rfl⟩:=ownS_val oa3
   have X03:ExtB h.n h h3:=X02.trans (X3.mono (by omega))
   have V3:=V2.ext X3 V2.lt
   (with_reducible repeat' (first|refine y7 ?_ (by with_unfolding_all rfl)|simp -dsimp only[↓WB,↓W4,WP,newBlk_n,Nat.reduceEqDiff,Nat.reduceAdd,scr_one]))
   have M4:=Box.new h3 (scrL c (.slice qa P.length qc) (.slice ua A.length uc)) 28
   have X4:ExtB h3.n h3 (newBlk h3 (.cells (scrL c (.slice qa P.length qc) (.slice ua A.length uc)) 28 true)):=ExtB.new _ (Nat.le_refl _)
   have n4:(newBlk h3 (.cells (scrL c (.slice qa P.length qc) (.slice ua A.length uc)) 28 true)).n=h3.n+1:=rfl
   generalize newBlk h3 (.cells (scrL c (.slice qa P.length qc) (.slice ua A.length uc)) 28 true)=h4 at M4 X4 n4 ⊢
   have V4:=V3.ext X4 V3.lt
   have X04:ExtB h.n h h4:=X03.trans (X4.mono (by omega))
   have O4:=O3.ext X4 (Nat.le_refl _)
   have oa4:=oa3.ext X4 (Nat.le_refl _)
   have gk4:=gk.ext (B:=h.n) gn X04
   have rp4:=RdPU.own O4
   have ra4:=RdA.own oa4
   have dm4:=M4.scr
   have spq:∀ n,sameV n (.slice qa P.length qc) (.slice qa P.length qc)=true:=fun n=>O4.same
   have saq:∀ n,sameV n (.slice ua A.length uc) (.slice ua A.length uc)=true:=fun n=>same_own oa4
   have main:∀ (t:List UInt8) (e:Int) (h5:Heap),ExtB h4.n h4 h5→e=mayS c P A→(e=0→t=TextL c P A)→(e≠0→t=[])→(fun (v:Value) (h':Heap)=>True) .nilFunc h5:=fun _ _ _ _ _ _ _=>trivial
   simp -dsimp only[↓WB,↓W4,WP,newBlk_n,Nat.reduceEqDiff,Nat.reduceAdd,dm4.1]
   have okk:=ok
   refine text_ret rp4 ra4 gk4 (Nat.le_refl _) ok.1 ok.2 (by omega) (by omega) (fun hm h5 X5=>?_) (fun hm h5 X5=>?_)
   · have n5:=X5.n
     have g:=good_of hm ok.2
     have V5:=V4.ext X5 (by have:=V4.lt;omega)
     have M5:=M4.ext X5 M4.lt
     have dv5:=V5.scr
     have dm5:=M5.scr
     have X05:ExtB h.n h h5:=X04.trans (X5.mono (by omega))
     unfold strV
     simp -dsimp only[↓WB,↓W4,WP,newBlk_n,Nat.reduceEqDiff,Nat.reduceAdd,dv5.1,dm5.1]
     refine refMay_ret (B:=B) (c:=c) (P:=P) (A:=A) (r.ext (X05.mono hB)) (ra.ext (X05.mono hB)) (by omega) (by omega) (by omega) fun h6 X6=>?_
     have n6:=X6.n
     have V6:=V5.ext X6 (by have:=V5.lt;omega)
     have M6:=M5.ext X6 M5.lt
     have dv6:=V6.scr
     have dm6:=M6.scr
     have X06:ExtB h.n h h6:=X05.trans (X6.mono (by omega))
     have X46:ExtB h4.n h4 h6:=X5.trans (X6.mono (by omega))
     rw[hm]
     simp -dsimp only[↓WB,↓W4,WP,newBlk_n,Nat.reduceEqDiff,Nat.reduceAdd,dv6.1,dm6.1]
     refine may_ret (B:=h4.n) (c:=c) (P:=P) (A:=A) (rp4.rd.ext X46) (ra4.ext X46) (by omega) (by omega) (by omega) fun h7 X7=>?_
     have n7:=X7.n
     have V7:=V6.ext X7 (by have:=V6.lt;omega)
     have M7:=M6.ext X7 M6.lt
     have dv7:=V7.scr
     have dm7:=M7.scr
     have X07:ExtB h.n h h7:=X06.trans (X7.mono (by omega))
     have X47:ExtB h4.n h4 h7:=X46.trans (X7.mono (by omega))
     rw[hm]
     simp -dsimp only[↓WB,↓W4,WP,newBlk_n,Nat.reduceEqDiff,Nat.reduceAdd,dv7.1,dm7.1]
     refine refSame_ret (B:=h4.n) (rp4.rd.ext X47) ((r.ext (X07.mono hB)).mono (by omega)) (ra4.ext X47) ((ra.ext (X07.mono hB)).mono (by omega)) (by omega) spq hsp saq hsa (by omega) (by omega) fun b h8 X8 hb8=>?_
     obtain rfl:b=true:=hb8.2 ⟨fun _ _=>rfl,rfl,rfl⟩
     have n8:=X8.n
     have V8:=V7.ext X8 (by have:=V7.lt;omega)
     have X08:ExtB h.n h h8:=X07.trans (X8.mono (by omega))
     have gk8:=gk.ext (B:=h.n) gn X08
     simp -dsimp only[↓WB,↓W4,WP,newBlk_n,Nat.reduceEqDiff,Nat.reduceAdd]
     refine of_ret (t:=TextL c P A) gk8 (.inr ⟨c,P,A,g,ha,rfl⟩) (fun c' P' A' pv' av' h9 g' ht hu hA' X9 rP rA sp sa=>?_) (fun hno h9 X9=>absurd rfl (hno c P A g (by omega)))
     have n9:=X9.n
     obtain⟨ec,rfl,rfl⟩:=hu c P A g rfl
     obtain⟨ya,yc,rfl,_⟩:=id rP
     obtain⟨za,zc',rfl,_⟩:=id rA
     (with_reducible repeat' (first|refine y7 ?_ (by with_unfolding_all rfl)|simp -dsimp only[↓WB,↓W4,WP,newBlk_n,Nat.reduceEqDiff,Nat.reduceAdd,scr_one]))
     have W9:=Box.new h9 (scrL c' (.slice ya P'.length yc) (.slice za A'.length zc')) 28
     have X10:ExtB h9.n h9 (newBlk h9 (.cells (scrL c' (.slice ya P'.length yc) (.slice za A'.length zc')) 28 true)):=ExtB.new _ (Nat.le_refl _)
     have n10:(newBlk h9 (.cells (scrL c' (.slice ya P'.length yc) (.slice za A'.length zc')) 28 true)).n=h9.n+1:=rfl
     generalize newBlk h9 (.cells (scrL c' (.slice ya P'.length yc) (.slice za A'.length zc')) 28 true)=h10 at W9 X10 n10 ⊢
     have V10:=(V8.ext X9 (by have:=V8.lt;omega)).ext X10 (by have:=V8.lt;omega)
     have dv10:=V10.scr
     have X0a:ExtB h.n h h10:=(X08.trans (X9.mono (by omega))).trans (X10.mono (by omega))
     simp -dsimp only[↓WB,↓W4,WP,newBlk_n,Nat.reduceEqDiff,Nat.reduceAdd,dv10.1]
     refine refTextS_ret (B:=B) (c:=c) (P:=P') (A:=A') g (r.ext (X0a.mono hB)) (ra.ext (X0a.mono hB)) (by omega) (by omega) fun h11 X11=>?_
     have n11:=X11.n
     have V11:=V10.ext X11 V10.lt
     have W11:=W9.ext X11 W9.lt
     have dv11:=V11.scr
     have dw11:=W11.scr
     have X0b:ExtB h.n h h11:=X0a.trans (X11.mono (by omega))
     have X9b:ExtB h9.n h9 h11:=X10.trans (X11.mono (by omega))
     unfold strV
     simp -dsimp only[↓WB,↓W4,WP,newBlk_n,Nat.reduceEqDiff,Nat.reduceAdd,dv11.1,dw11.1,eq_self]
     refine refSame_ret (B:=h9.n) (rP.ext X9b) ((r.ext (X0b.mono hB)).mono (by omega)) (rA.ext X9b) ((ra.ext (X0b.mono hB)).mono (by omega)) (by omega) sp hsp sa hsa (by omega) (by omega) fun b h12 X12 hb12=>?_
     obtain rfl:b=true:=hb12.2 ⟨ec,rfl,rfl⟩
     have gk12:=(gk.ext (B:=h.n) gn X0b).ext (B:=h11.n) (by omega) X12
     simp -dsimp only[↓WB,↓W4,WP,newBlk_n,Nat.reduceEqDiff,Nat.reduceAdd]
     refine known_ret gk12.t ?_
     simp -dsimp only[↓WB,↓W4,WP,newBlk_n,Nat.reduceEqDiff,Nat.reduceAdd]
   · have n5:=X5.n
     have V5:=V4.ext X5 (by have:=V4.lt;omega)
     have M5:=M4.ext X5 M4.lt
     have dv5:=V5.scr
     have dm5:=M5.scr
     have X05:ExtB h.n h h5:=X04.trans (X5.mono (by omega))
     unfold strV
     simp -dsimp only[↓WB,↓W4,WP,newBlk_n,Nat.reduceEqDiff,Nat.reduceAdd,dv5.1,dm5.1]
     refine refMay_ret (B:=B) (c:=c) (P:=P) (A:=A) (r.ext (X05.mono hB)) (ra.ext (X05.mono hB)) (by omega) (by omega) (by omega) fun h6 X6=>?_
     have n6:=X6.n
     have V6:=V5.ext X6 (by have:=V5.lt;omega)
     have M6:=M5.ext X6 M5.lt
     have dv6:=V6.scr
     have dm6:=M6.scr
     have X06:ExtB h.n h h6:=X05.trans (X6.mono (by omega))
     have X46:ExtB h4.n h4 h6:=X5.trans (X6.mono (by omega))
     simp -dsimp only[↓WB,↓W4,WP,newBlk_n,Nat.reduceEqDiff,Nat.reduceAdd,dv6.1,dm6.1]
     refine may_ret (B:=h4.n) (c:=c) (P:=P) (A:=A) (rp4.rd.ext X46) (ra4.ext X46) (by omega) (by omega) (by omega) fun h7 X7=>?_
     have n7:=X7.n
     have V7:=V6.ext X7 (by have:=V6.lt;omega)
     have M7:=M6.ext X7 M6.lt
     have dv7:=V7.scr
     have dm7:=M7.scr
     have X07:ExtB h.n h h7:=X06.trans (X7.mono (by omega))
     have X47:ExtB h4.n h4 h7:=X46.trans (X7.mono (by omega))
     simp -dsimp only[↓WB,↓W4,WP,newBlk_n,Nat.reduceEqDiff,Nat.reduceAdd,dv7.1,dm7.1,eq_self]
     refine refSame_ret (B:=h4.n) (rp4.rd.ext X47) ((r.ext (X07.mono hB)).mono (by omega)) (ra4.ext X47) ((ra.ext (X07.mono hB)).mono (by omega)) (by omega) spq hsp saq hsa (by omega) (by omega) fun b h8 X8 hb8=>?_
     obtain rfl:b=true:=hb8.2 ⟨fun _ _=>rfl,rfl,rfl⟩
     have n8:=X8.n
     have X08:ExtB h.n h h8:=X07.trans (X8.mono (by omega))
     have gk8:=gk.ext (B:=h.n) gn X08
     simp -dsimp only[↓WB,↓W4,WP,newBlk_n,Nat.reduceEqDiff,Nat.reduceAdd,hm,eq_self]
     refine known_ret gk8.t ?_
     simp -dsimp only[↓WB,↓W4,WP,newBlk_n,Nat.reduceEqDiff,Nat.reduceAdd]
end Go.Proofs.YtohjaacnlmkhbaaGreatDoor
set_option linter.unusedSimpArgs false
set_option linter.unusedVariables false
namespace Go.Proofs.YtohjaacnlmkhbaaGreatDoor
open Go.ChangeShapes Go.WideShapes Go.ChangeAt Go.RowKit
open Go.Ev (Leaf Leafs LeafU heapOf renB SlF RowAt)
set_option maxRecDepth 100000
theorem own:ownKnob Tryz.prog.godebug=none:=by kernel_rfl
theorem laidOut:laidOutB Tryz.prog=true:=by kernel_rfl
theorem gAsc:Tryz.prog.globalNamed "strings.asciiSpace"=some 0:=by kernel_rfl
theorem tAsc:(Tryz.prog.globals[0]?).map (·.type)=some 138:=by kernel_rfl
theorem arr138:Tryz.prog.underlying 138=some (.array 256 5):=by kernel_rfl
theorem int5:Tryz.prog.underlying 5=some (.int .u8):=by kernel_rfl
theorem int22:Tryz.prog.underlying 22=some (.int .u64):=by kernel_rfl
theorem cells5:Tryz.prog.cellsOf 5=1:=by kernel_rfl
theorem cells22:Tryz.prog.cellsOf 22=1:=by kernel_rfl
theorem gP10:Tryz.prog.globalNamed "internal/strconv.uint64pow10"=some 2:=by kernel_rfl
theorem tP10:(Tryz.prog.globals[2]?).map (·.type)=some 207:=by kernel_rfl
theorem arr207:Tryz.prog.underlying 207=some (.array 20 22):=by kernel_rfl
abbrev laid9:List (String×DataW Unit):=Rows.scriptTextsRow.laid
theorem met9 (os:Os) (args:Array Value):laidMetH Tryz.prog laid9 ((World.laidAll Tryz.prog os laid9).forCall (fun _ _=>0) ⟨#[],args,[]⟩).memory:=by
 rw[MakeChecks.laidMetH_plain _ _ _ (by kernel_rfl)];exact laidMet_laidAll _ (by kernel_rfl) (by kernel_rfl)
def ascn:List Int:=asc.map fun v=>match v with|.int _ n=>n|_=>0
def p10n:List Int:=p10.map fun v=>match v with|.int _ n=>n|_=>0
theorem asc_n:asc=ascn.map fun n=>.int .u8 n:=by kernel_rfl
theorem laid_a:(Rows.laid_strings_asciiSpace:DataW Unit)=.agg (ascn.map fun n=>.lit (.int .u8 n)):=by kernel_rfl
theorem p10_n:p10=p10n.map fun n=>.int .u64 n:=by kernel_rfl
theorem laid_p:(Rows.laid_internal_strconv_uint64pow10:DataW Unit)=.agg (p10n.map fun n=>.lit (.int .u64 n)):=by kernel_rfl
theorem ascn_len:ascn.length=256:=by kernel_rfl
theorem p10n_len:p10n.length=20:=by kernel_rfl
theorem tab_cells {W:World}{n:Nat}{t e:TypeId}{k:IntKind}{l:List Int}{x:DataW Unit}{cs:Array Value}{fuel:Nat}{hh:Bool}{p:List MemPlace}(ha:Tryz.prog.underlying t=some (.array n e)) (he:Tryz.prog.underlying e=some (.int k)) (hc:Tryz.prog.cellsOf e=1) (hx:x=.agg (l.map fun m=>.lit (.int k m))) (hl:l.length=n)
  (hd:DataW.trod (fun _=>()) Tryz.prog W 0 (fun _=>true) hh fuel t cs.toList=some (x,p)):∀ (i:Nat) (v:Value),(l.map fun m=>Value.int k m)[i]?=some v→cs.toList[i]?=some v:=by
 subst hx
 obtain⟨xs,m1,_,hx1,hlen,hn,hel⟩:=DataW.trod_array ha hd
 rw[hc]at hel
 have hx2:l.map (fun b=>DataW.lit (.int k b))=xs.map (·.1):=DataW.agg.inj (Prod.mk.inj hx1).1
 intro i v hv
 rw[List.getElem?_map]at hv
 obtain⟨b,hb,rfl⟩:=Option.map_eq_some_iff.1 hv
 have hi:i<n:=by have:=(List.getElem?_eq_some_iff.1 hb).1;omega
 have h1:=hel i hi
 rw[Nat.mul_one,List.getElem?_eq_getElem (by omega)]at h1
 obtain⟨s,e1,e2,_⟩:=DataW.trod_int he h1
 have h2:=congrArg (·[i]?) hx2
 simp only[List.getElem?_map,hb,Option.map_some,List.getElem?_eq_getElem (show i<xs.length by omega)]at h2
 rw[e2]at h2
 have h3:b=s:=by simpa using h2
 have:=congrArg (·[0]?) e1
 simp only[List.getElem?_take_of_lt (show 0<1 by omega),List.getElem?_drop,Nat.add_zero]at this
 rw[this,h3]
 rfl
theorem cell_tab1 {W:World}{b:Nat}{l:List Value}(h0:∃ v,l[0]?=some v) (hc:l.all Go.Ev.constOk0=true) (h:∀ (i:Nat) (v:Value),l[i]?=some v→W.cell? ⟨b,i,none⟩=some v):Go.Ev.tabsOk [(b,l)] (heapOf W)=true:=by
 simp only[Go.Ev.tabsOk,List.all_cons,List.all_nil,Bool.and_true]
 obtain⟨v0,h0⟩:=h0
 have c0:=h 0 _ h0
 unfold World.cell? at c0
 simp only at c0
 rw[Go.Ev.heapOf_get]
 split at c0
 ·rename_i c el f hb
  simp only[hb,Option.map_some,Go.Ev.roOf]
  refine Go.Ev.rowOk_of (i:=0) (fun v hv=>?_) (fun j v e=>?_) ?_
  ·unfold Go.Ev.constOk0 at hv
   split at hv<;>first|(cases hv;done)|(simp[Go.Ev.sameV,Go.Ev.eqStr])
  ·have:=h j v e
   rw[show j=0+j by omega,Go.Ev.cell_of hb]at this
   rw[this,Option.bind_some]
   have hv:Go.Ev.constOk0 v=true:=List.all_eq_true.1 hc v (List.mem_of_getElem? e)
   unfold Go.Ev.constOk0 at hv
   split at hv<;>first|(cases hv;done)|(simp[Go.Ev.absV,Go.Ev.okV0];done)|(simp[Go.Ev.absV,Go.Ev.okV0,Go.Ev.blt_eq,Go.Ev.UNK])
  ·exact hc
 ·cases c0
theorem trod_ptr_inv {w:World}{n:Nat}{t:TypeId}{cs:List Value}{d:DataW Unit}{q:List MemPlace}{enc:TypeId×Value→Unit}(h:DataW.trod enc Tryz.prog w 0 (fun _=>true) false n t cs=some (.ptr d,q)) :
   ∃ e,Tryz.prog.underlying t=some (.pointer e):=by
 cases n with
 | zero=>simp[DataW.trod]at h
 | succ n =>
   unfold DataW.trod at h
   cases hu:Tryz.prog.underlying t with
   | none=>rw[hu]at h;simp at h
   | some k =>
     cases k with
     | pointer e=>exact⟨e,rfl⟩
     | _ =>
       exfalso
       rw[hu]at h
       split at h<;>simp_all[Option.bind_eq_some_iff,Option.map_eq_some_iff]
       all_goals (repeat' split at h)<;>simp_all[Option.bind_eq_some_iff,Option.map_eq_some_iff]
theorem trod_iface_inv {w:World}{n:Nat}{t:TypeId}{ms:Array (String×TypeId)}{cs:List Value}{nm:String}{d:DataW Unit}{q:List MemPlace}{enc:TypeId×Value→Unit}(ht:Tryz.prog.underlying t=some (.interface ms)) (h:DataW.trod enc Tryz.prog w 0 (fun _=>true) false n t cs=some (.iface nm (.ptr d),q)) :
   ∃ m u v q',cs=[.iface u v]∧DataW.trod enc Tryz.prog w 0 (fun _=>true) false m u v.cells.toList=some (.ptr d,q'):=by
 cases n with
 | zero=>simp[DataW.trod]at h
 | succ n =>
   unfold DataW.trod at h
   rw[ht]at h
   split at h<;>simp_all[Option.map_eq_some_iff]
   split at h
   · cases h
   · simp only[Option.map_eq_some_iff,Prod.mk.injEq]at h
     obtain⟨y,hy,h1,h2⟩:=h
     obtain⟨y1,y2⟩:=y
     simp only[DataW.iface.injEq]at h1
     obtain⟨_,rfl⟩:=h1
     exact⟨_,_,_,⟨rfl,rfl⟩,_,hy⟩
   · cases h
theorem int58:∃ ms,Tryz.prog.underlying 58=some (.interface ms):=⟨_,Tryz.underlying58⟩
theorem err_cell {W:World}{g n:Nat}{nm name:String}{cs:Array Value}{d:DataW Unit}{p ps:List MemPlace}(hg:Tryz.prog.globalNamed name=some g) (hv:W.var? Tryz.prog name=some cs)
   (hd:DataW.trod (fun _=>()) Tryz.prog W 0 (fun _=>true) false n 58 cs.toList=some (.iface nm (.ptr d),p)) (hsub:∀ x∈MemPlace.row ⟨g,0,none⟩ cs.size,x∈ps)
   (hok:∀ b off,MemPlace.cell b off∈ps→(∃ c t,W.heap[b]?=some (.cells c t (0,0)))∧∀ u v,W.cell? ⟨b,off,none⟩=some (.iface u v)→Value.okWide Tryz.prog W .any 0 u v) :
   g<W.heap.size∧isIf (Go.Ev.cellAt (heapOf W) ⟨g,0,none⟩)=true:=by
 obtain⟨ms,h58⟩:=int58
 obtain⟨m,u,v,q',hcs,hin⟩:=trod_iface_inv h58 hd
 obtain⟨e,hu⟩:=trod_ptr_inv hin
 have h0:cs[0]?=some (.iface u v):=by rw[← Array.getElem?_toList,hcs];rfl
 have hc:=World.var?_cell hg hv 0
 rw[h0]at hc
 have hsz:0<cs.size:=(Array.getElem?_eq_some_iff.1 h0).1
 have hmem:MemPlace.cell g 0∈ps:=hsub _ (by
   unfold MemPlace.row
   exact List.mem_map.2 ⟨0,List.mem_range.2 hsz,rfl⟩)
 have ok:=(hok g 0 hmem).2 u v hc
 rcases DataW.trod_pointer hu hin with ⟨_,h2⟩|⟨a,cs',y,n',_,hva,_,hcell,_⟩
 · cases h2
 · unfold Value.okWide at ok
   rw[hu]at ok
   simp only[Cell.okWide,hu,Cell.ok]at ok
   have hvv:v=.pointer (some a):=by
     cases v with
     | pointer o =>
       have:(Value.pointer o).cells.toList=[.pointer o]:=rfl
       rw[this]at hva
       exact(List.cons.inj hva).1
     | _=>exact absurd ok (by simp)
   subst hvv
   obtain⟨_,hs,row,cells,hsh,_⟩:=ok
   have hlt:a.block<W.heap.size:=by
     cases hb:W.heap[a.block]? with
     | none=>simp[World.shape?,hb]at hsh
     | some o=>exact(Array.getElem?_eq_some_iff.1 hb).1
   obtain⟨ab,ao,sp⟩:=a
   simp only at hs hlt
   subst hs
   refine⟨(Go.Ev.cell_lt hc).1,?_⟩
   rw[Go.Ev.heapOf_cell hc (u:=.iface u (.pointer (some ⟨ab,ao,none⟩))) ?_]
   · rfl
   · simp[Go.Ev.absV,Go.Ev.okV0,Go.Ev.blt_eq,hlt]
theorem gRng:Tryz.prog.globalNamed "strconv.ErrRange"=some 5:=by kernel_rfl
theorem tRng:(Tryz.prog.globals[5]?).map (·.type)=some 58:=by kernel_rfl
theorem gSyn:Tryz.prog.globalNamed "strconv.ErrSyntax"=some 4:=by kernel_rfl
theorem tSyn:(Tryz.prog.globals[4]?).map (·.type)=some 58:=by kernel_rfl
theorem int3:Tryz.prog.underlying 3=some (.int .i64):=by kernel_rfl
theorem of_laid {W:World}(h:laidMetH Tryz.prog laid9 W):5<W.heap.size∧Go.Ev.tabsOk tabs (heapOf W)=true∧errsOk (heapOf W)=true:=by
 rw[MakeChecks.laidMetH_plain _ _ _ (by kernel_rfl)]at h
 obtain⟨ps,⟨_,_,_,_,_,_,_,_,_,_,⟨_,_,_,_,_,_,_,_,_,_,⟨g1,t1,cs1,f1,p1,q1,hg1,ht1,hv1,hd1,⟨_,_,_,_,_,_,_,_,_,_,⟨g2,t2,cs2,f2,p2,q2,hg2,ht2,hv2,hd2,⟨g3,t3,cs3,f3,p3,q3,hg3,ht3,hv3,hd3,⟨_,_,_,_,_,_,_,_,_,_,⟨g0,t0,cs0,f0,p0,q0,hg0,ht0,hv0,hd0,_,_⟩,e6⟩,e5⟩,e4⟩,e3⟩,e2⟩,e1⟩,e0⟩,_,hokk⟩:=h
 obtain rfl:=Option.some.inj (gAsc.symm.trans hg0)
 obtain rfl:=Option.some.inj (tAsc.symm.trans ht0)
 obtain rfl:=Option.some.inj (gP10.symm.trans hg1)
 obtain rfl:=Option.some.inj (tP10.symm.trans ht1)
 have key:=tab_cells arr138 int5 cells5 laid_a ascn_len hd0
 have key2:=tab_cells arr207 int22 cells22 laid_p p10n_len hd1
 rw[← asc_n]at key
 rw[← p10_n]at key2
 have cell:∀ (i:Nat) (v:Value),asc[i]?=some v→W.cell? ⟨0,i,none⟩=some v:=by
  intro i v hv
  rw[World.var?_cell hg0 hv0 i,← Array.getElem?_toList]
  exact key i v hv
 have cell2:∀ (i:Nat) (v:Value),p10[i]?=some v→W.cell? ⟨2,i,none⟩=some v:=by
  intro i v hv
  rw[World.var?_cell hg1 hv1 i,← Array.getElem?_toList]
  exact key2 i v hv
 obtain rfl:=Option.some.inj (gRng.symm.trans hg2)
 obtain rfl:=Option.some.inj (tRng.symm.trans ht2)
 obtain rfl:=Option.some.inj (gSyn.symm.trans hg3)
 obtain rfl:=Option.some.inj (tSyn.symm.trans ht3)
 have s2:∀ x∈MemPlace.row ⟨5,0,none⟩ cs2.size,x∈ps:=fun x hx=>by
  rw[e0,e1,e2,e3,e4];simp[hx]
 have s3:∀ x∈MemPlace.row ⟨4,0,none⟩ cs3.size,x∈ps:=fun x hx=>by
  rw[e0,e1,e2,e3,e4,e5];simp[hx]
 obtain⟨l5,i5⟩:=err_cell hg2 hv2 hd2 s2 hokk
 obtain⟨l4,i4⟩:=err_cell hg3 hv3 hd3 s3 hokk
 refine⟨l5,?_,by unfold errsOk;rw[i4,i5];rfl⟩
 have a:=cell_tab1 (b:=0) (l:=asc) ⟨_,rfl⟩ (tab_const (0,asc) (by simp[tabs])) cell
 have b:=cell_tab1 (b:=2) (l:=p10) ⟨_,rfl⟩ (tab_const (2,p10) (by simp[tabs])) cell2
 simp only[Go.Ev.tabsOk,tabs,List.all_cons,List.all_nil,Bool.and_true,Bool.and_eq_true]at a b ⊢
 exact⟨a,b⟩
theorem of_shape {W:World}(h:W.ShapedOpen Tryz.prog):3<W.heap.size∧isI (Go.Ev.cellAt (heapOf W) ⟨3,0,none⟩)=true:=by
 obtain⟨m,hm⟩:=cell_of_shapedOpen_int (P:=Tryz.prog) (g:=3) (t:=3) (zero:=#[.int .i64 0]) (k:=.i64) h (of_decide_eq_true (by kernel_rfl)) (by kernel_rfl) rfl (by kernel_rfl) (by kernel_rfl) int3
 refine⟨(Go.Ev.cell_lt hm).1,?_⟩
 rw[Go.Ev.heapOf_cell hm (u:=.int .i64 m) rfl]
 rfl
theorem handed_shaped {H:Type}{enc:TypeId×Value→H}{C:Checked}{os:Os}{f:FuncId}{fn:Func}{s:ChangeSpec}{X:World→Array Value→Prop}(hX:∀ (w w':World) (args:Array Value),w.heap=w'.heap→X w args→X w' args)
  (own:ownKnob C.prog.godebug=none) (started:os.Started) (noInit:C.prog.inits.idxOf? f=none) (hfn:C.prog.funcs[f]?=some fn)
  (wit:∃ (w:World) (tape:Tape) (i:Input),w.os=os∧(w.forCall tape i).Shaped C.prog∧i.vars=[]∧Input.okWide C.prog (w.forCall tape i) .any w.heap.size f i ∧
   ((s.pre enc C.prog fn [] false (w.forCall tape i).memory i.args∧X (w.forCall tape i).memory i.args)∧sizedMet enc C.prog fn (OpenSpec.ofChange s) false (w.forCall tape i).memory i.args)∧({}:Assume).holds C.prog (lone (Frame.enter C.prog f i.args .normal) [] (w.forCall tape i)))
  (law:∀ (W:World) (base:Nat) (args:Array Value) (ds gs:List (DataW H)) (before:List MemPlace),W.ShapedOpen C.prog→X W args→(DataW.weightsEach C.prog (fn.params.toList++s.plain.varTypes C.prog) (ds++gs)).all (·≤reachBytes)=true →
   (∀ (j:Nat) t v,fn.params[j]?=some t→args[j]?=some v→Value.okWide C.prog W .any base t v)→DataW.Whole enc C.prog fn.params.toList s.vars false W args.toList ds gs before →
   Calls C.prog f args W fun e W'=>∃ v,e=.returned v∧s.post enc C.prog fn false true false false W args v W') :
  ReturnsInHanded {} C os f .any (fun w args=>(s.pre enc C.prog fn [] false w args∧X w args)∧sizedMet enc C.prog fn (OpenSpec.ofChange s) false w args) (s.post enc C.prog fn false true false false) :=
 returnsInHanded_of_calls own started noInit wit fun w tape i _ shaped _ ok pre _=>by
  obtain⟨_,_,_,f',hf',_,_,_,_,hv⟩:=ok
  cases hf'.symm.trans hfn
  obtain⟨⟨⟨ds,gs,b,whole,_⟩,x⟩,hz⟩:=pre
  exact(law (w.forCall tape i) w.heap.size i.args ds gs b shaped (hX _ _ _ (by rfl) x) (hz.weights whole) hv (DataW.Whole.of_heap (w':=w.forCall tape i) (by rfl) whole)).mono fun e W' ⟨v,h1,h2⟩=>by
   subst h1
   exact ChangeSpec.post_blind h2
theorem gok_of {W:World}(hL:laidMetH Tryz.prog laid9 W) (hS:W.ShapedOpen Tryz.prog):GOk (heapOf W):=by
 obtain⟨h5,ht,he⟩:=of_laid hL
 exact⟨h5,ht,(of_shape hS).2,he⟩
end Go.Proofs.YtohjaacnlmkhbaaGreatDoor
set_option linter.unusedSimpArgs false
set_option linter.unusedVariables false
namespace Go.Proofs.YtohjaacnlmkhbaaGreatDoor
open Go.ChangeShapes Go.WideShapes Go.ChangeAt Go.RowKit
open Go.Ev (Leaf Leafs LeafU heapOf renB SlF RowAt)
set_option maxRecDepth 100000
theorem flat28:Go.Ev.flat Tryz.prog 5 28=some [.int .i64,.int .i64,.int .i64,.int .i64,.int .i64,.int .i64,.int .i64,.int .i64,.int .i64,.int .i64,.int .u64,.int .u64,.int .u64,.int .u64,.slc 36,.slc 35]:=by kernel_rfl
theorem flat36:Go.Ev.flat Tryz.prog 3 36=some [.slc 5]:=by kernel_rfl
theorem flat35:Go.Ev.flat Tryz.prog 3 35=some [.int .i64,.int .i64,.int .i64,.int .i64]:=by kernel_rfl
theorem flat5:Go.Ev.flat Tryz.prog 3 5=some [.int .u8]:=by kernel_rfl
theorem cells36:Tryz.prog.cellsOf 36=1:=by kernel_rfl
theorem cells35:Tryz.prog.cellsOf 35=4:=by kernel_rfl
theorem bytes36:Tryz.prog.bytesOf 36=24:=by kernel_rfl
theorem bytes35:Tryz.prog.bytesOf 35=32:=by kernel_rfl
theorem bytes5:Tryz.prog.bytesOf 5=1:=by kernel_rfl
theorem leafInt {P:Program}{W:World}{n:Nat}{k:IntKind}{u:Value}(h:LeafU P W n (.int k) u):∃ m,u=.int k m∧(Lit.int k m).wf=true:=by cases n<;>exact h
theorem same_slc {a:Option Addr}{l c k:Nat}(h:SlF a l c):Go.Ev.sameV k (.slice a l c) (.slice a l c)=true:=by
 rcases h with ⟨rfl,rfl,rfl⟩|⟨⟨b,off,rfl⟩,_⟩
 ·cases k<;>simp[Go.Ev.sameV]
 ·cases k<;>simp[Go.Ev.sameV]
theorem rows_byte {l:List (List Value)}{W:World}{n:Nat}(h:∀ r∈l,Leafs (LeafU Tryz.prog W n) [.int .u8] r):∃ us:List UInt8,l=us.map fun b=>[Go.Ev.byteV b]:=by
 induction l with
 | nil=>exact⟨[],rfl⟩
 | cons r l ih =>
   obtain⟨us,rfl⟩:=ih fun r hr=>h r (List.mem_cons_of_mem _ hr)
   obtain⟨h1,h2⟩:=h r (List.mem_cons_self ..)
   match r,h1 with
   | [a],_ =>
     obtain⟨n0,rfl,w⟩:=leafInt (h2 0 _ _ rfl rfl)
     simp only[Lit.wf,Bool.and_eq_true,decide_eq_true_eq]at w
     have e1:IntKind.u8.max=255:=rfl
     have e2:IntKind.u8.min=0:=rfl
     have w2:n0<256:=by omega
     have w1:0≤n0:=by omega
     refine⟨UInt8.ofNat n0.toNat::us,?_⟩
     have:((UInt8.ofNat n0.toNat).toNat:Int)=n0:=by simp only[UInt8.toNat_ofNat'];omega
     simp only[List.map_cons,Go.Ev.byteV,this]
theorem flat_bytes (us:List UInt8):(us.map fun b=>[Go.Ev.byteV b]).flatten=us.map Go.Ev.byteV:=by
 induction us with
 | nil=>rfl
 | cons b us ih=>simp[ih]
theorem rdB_of {W:World}{n:Nat}{u:Value}(h:LeafU Tryz.prog W (n+1) (.slc 5) u):∃ l:List UInt8,RdB W.heap.size (heapOf W) u l∧l.length≤281474976710656:=by
 obtain⟨a,len,cap,rfl,hw,hs,hr⟩:=h
 obtain⟨rows,h1,h2,h3⟩:=hr 3 _ flat5 cells5
 obtain⟨us,rfl⟩:=rows_byte h3
 rw[bytes5]at hw
 rw[List.length_map]at h1
 subst h1
 refine⟨us,⟨a,cap,rfl,fun hne=>?_⟩,by have:=reachBytes_lt;omega⟩
 obtain⟨b,off,rfl,hb,e⟩:=Go.Ev.RowAt.cells h2 (by simp) (by decide) (by simpa using hne)
 rw[flat_bytes]at e
 refine⟨b,off,rfl,hb,?_⟩
 simpa using e
theorem rdP_of {W:World}{u:Value}(h:LeafU Tryz.prog W 2 (.slc 36) u):∃ P:List (List UInt8),RdP W.heap.size (heapOf W) u P∧(P.length≤281474976710656∧∀ l∈P,l.length≤281474976710656)∧∀ n,Go.Ev.sameV n u u=true:=by
 obtain⟨a,len,cap,rfl,hw,hs,hr⟩:=h
 obtain⟨rows,h1,h2,h3⟩:=hr 3 _ flat36 cells36
 rw[bytes36]at hw
 have each:∀ i,i<rows.length→∃ l:List UInt8,∃ u,rows[i]?=some [u]∧RdB W.heap.size (heapOf W) u l∧l.length≤281474976710656:=by
   intro i hi
   obtain⟨g1,g2⟩:=h3 _ (List.getElem_mem hi)
   generalize hrow:rows[i]=row at g1 g2
   match row,g1 with
   | [u],_ =>
     obtain⟨l,r1,r2⟩:=rdB_of (g2 0 _ _ rfl rfl)
     exact⟨l,u,by rw[List.getElem?_eq_getElem hi,hrow],r1,r2⟩
 obtain⟨P,p1,p2⟩:=Go.Ev.exists_rows rows.length each
 refine⟨P,⟨a,cap,by rw[p1,h1],fun k l hl=>?_⟩,⟨by rw[p1,h1];have:=reachBytes_lt;omega,fun l hl=>?_⟩,fun n=>same_slc hs⟩
 · have hk:=(List.getElem?_eq_some_iff.1 hl).1
   obtain⟨u,e1,e2,_⟩:=p2 k hk
   rw[(List.getElem?_eq_some_iff.1 hl).2]at e2
   obtain⟨b,off,rfl,hb,e⟩:=h2 k (by omega)
   have e1':=(List.getElem?_eq_some_iff.1 e1).2
   rw[e1']at e
   refine⟨b,off,u,rfl,hb,?_,e2⟩
   have:=Go.Ev.cellAt_of e (j:=0) rfl
   simpa using this
 · obtain⟨k,hk,rfl⟩:=List.getElem_of_mem hl
   obtain⟨u,_,_,e3⟩:=p2 k hk
   exact e3
theorem i64_bd {m:Int}(h:(Lit.int .i64 m).wf=true) : -9223372036854775808≤m∧m≤9223372036854775807:=by
 simp only[Lit.wf,Bool.and_eq_true,decide_eq_true_eq]at h
 have e1:IntKind.i64.max=9223372036854775807:=rfl
 have e2:IntKind.i64.min = -9223372036854775808:=rfl
 omega
theorem u64_bd {m:Int}(h:(Lit.int .u64 m).wf=true):0≤m∧m≤18446744073709551615:=by
 simp only[Lit.wf,Bool.and_eq_true,decide_eq_true_eq]at h
 have e1:IntKind.u64.max=18446744073709551615:=rfl
 have e2:IntKind.u64.min=0:=rfl
 omega
theorem rows_act {l:List (List Value)}{W:World}{n:Nat}(h:∀ r∈l,Leafs (LeafU Tryz.prog W n) [.int .i64,.int .i64,.int .i64,.int .i64] r):∃ us:List ActD,l=us.map ActD.cells∧∀ a∈us,okA a:=by
 induction l with
 | nil=>exact⟨[],rfl,fun a h=>by cases h⟩
 | cons r l ih =>
   obtain⟨us,rfl,ok⟩:=ih fun r hr=>h r (List.mem_cons_of_mem _ hr)
   obtain⟨h1,h2⟩:=h r (List.mem_cons_self ..)
   match r,h1 with
   | [a,b,c,d],_ =>
     obtain⟨n0,rfl,w0⟩:=leafInt (h2 0 _ _ rfl rfl)
     obtain⟨n1,rfl,w1⟩:=leafInt (h2 1 _ _ rfl rfl)
     obtain⟨n2,rfl,w2⟩:=leafInt (h2 2 _ _ rfl rfl)
     obtain⟨n3,rfl,w3⟩:=leafInt (h2 3 _ _ rfl rfl)
     refine⟨⟨n0,n1,n2,n3⟩::us,rfl,fun a ha=>?_⟩
     rcases List.mem_cons.1 ha with rfl|ha
     · exact⟨i64_bd w1,i64_bd w2,i64_bd w3⟩
     · exact ok a ha
theorem rdA_of {W:World}{u:Value}(h:LeafU Tryz.prog W 2 (.slc 35) u):∃ A:List ActD,RdA W.heap.size (heapOf W) u A∧(A.length≤281474976710656∧∀ a∈A,okA a)∧∀ n,Go.Ev.sameV n u u=true:=by
 obtain⟨a,len,cap,rfl,hw,hs,hr⟩:=h
 obtain⟨rows,h1,h2,h3⟩:=hr 3 _ flat35 cells35
 rw[bytes35]at hw
 obtain⟨A,rfl,ok⟩:=rows_act h3
 rw[List.length_map]at h1
 subst h1
 exact⟨A,⟨a,cap,rfl,h2⟩,⟨by have:=reachBytes_lt;omega,ok⟩,fun n=>same_slc hs⟩
theorem scr_of {W:World}{us:List Value}(hl:Leafs (LeafU Tryz.prog W 2) [.int .i64,.int .i64,.int .i64,.int .i64,.int .i64,.int .i64,.int .i64,.int .i64,.int .i64,.int .i64,.int .u64,.int .u64,.int .u64,.int .u64,.slc 36,.slc 35] us) :
   ∃ (c:Nat→Int) (pv av:Value) (P:List (List UInt8)) (A:List ActD),us=scrL c pv av∧RdP W.heap.size (heapOf W) pv P∧RdA W.heap.size (heapOf W) av A∧(P.length≤281474976710656∧∀ l∈P,l.length≤281474976710656)∧A.length≤281474976710656∧okIn c A∧(∀ n,Go.Ev.sameV n pv pv=true)∧∀ n,Go.Ev.sameV n av av=true:=by
 obtain⟨h1,h2⟩:=hl
 match us,h1 with
 | [x0,x1,x2,x3,x4,x5,x6,x7,x8,x9,x10,x11,x12,x13,x14,x15],_ =>
   obtain⟨m0,rfl,w0⟩:=leafInt (h2 0 _ _ rfl rfl)
   obtain⟨m1,rfl,w1⟩:=leafInt (h2 1 _ _ rfl rfl)
   obtain⟨m2,rfl,w2⟩:=leafInt (h2 2 _ _ rfl rfl)
   obtain⟨m3,rfl,w3⟩:=leafInt (h2 3 _ _ rfl rfl)
   obtain⟨m4,rfl,w4⟩:=leafInt (h2 4 _ _ rfl rfl)
   obtain⟨m5,rfl,w5⟩:=leafInt (h2 5 _ _ rfl rfl)
   obtain⟨m6,rfl,w6⟩:=leafInt (h2 6 _ _ rfl rfl)
   obtain⟨m7,rfl,w7⟩:=leafInt (h2 7 _ _ rfl rfl)
   obtain⟨m8,rfl,w8⟩:=leafInt (h2 8 _ _ rfl rfl)
   obtain⟨m9,rfl,w9⟩:=leafInt (h2 9 _ _ rfl rfl)
   obtain⟨m10,rfl,w10⟩:=leafInt (h2 10 _ _ rfl rfl)
   obtain⟨m11,rfl,w11⟩:=leafInt (h2 11 _ _ rfl rfl)
   obtain⟨m12,rfl,w12⟩:=leafInt (h2 12 _ _ rfl rfl)
   obtain⟨m13,rfl,w13⟩:=leafInt (h2 13 _ _ rfl rfl)
   obtain⟨P,r1,r2,r3⟩:=rdP_of (h2 14 _ _ rfl rfl)
   obtain⟨A,a1,a2,a3⟩:=rdA_of (h2 15 _ _ rfl rfl)
   refine⟨fun i=>[m0,m1,m2,m3,m4,m5,m6,m7,m8,m9,m10,m11,m12,m13].getD i 0,x14,x15,P,A,rfl,r1,a1,r2,a2.1,⟨⟨fun k hk=>?_,fun k h1 h2=>?_⟩,a2.2⟩,r3,a3⟩
   · rcases k with _|_|_|_|_|_|_|_|_|_|k
     · exact i64_bd w0
     · exact i64_bd w1
     · exact i64_bd w2
     · exact i64_bd w3
     · exact i64_bd w4
     · exact i64_bd w5
     · exact i64_bd w6
     · exact i64_bd w7
     · exact i64_bd w8
     · exact i64_bd w9
     · omega
   · obtain rfl|rfl|rfl|rfl:k=10∨k=11∨k=12∨k=13:=by omega
     · exact u64_bd w10
     · exact u64_bd w11
     · exact u64_bd w12
     · exact u64_bd w13
theorem body7:Tryz.f7.body.isSome=true:=by kernel_rfl
theorem okX:Go.Ev.ExtOK Tryz.prog (Go.Ev.envOf Tryz.prog 6 (Go.Ev.extTab tabs ext14 7)):=by
 obtain⟨c,hc⟩:=Option.isSome_iff_exists.1 body7
 exact Go.Ev.extTab_ok ok14 rfl tab_const Tryz.func7 hc (Go.Ev.namesOK names_ok) fun w ht=>known_calls w (tab3 ht)
theorem envX_ok:Go.Ev.EnvOK Tryz.prog envX :=
 let e:=Go.Ev.envOK Tryz.prog 6 (Go.Ev.extTab tabs ext14 7) mixed
 ⟨e.tab,e.funs,e.mixed,e.dfr,e.qc⟩
theorem ext0_ok:Go.Ev.ExtOK Tryz.prog envQ:=Go.Ev.noExt Tryz.prog 0
theorem env_ok:Go.Ev.EnvOK Tryz.prog env:=Go.Ev.quietC_ok envX_ok (Go.Ev.envOK Tryz.prog 0 ext0 mixed) ext0_ok (Go.Ev.namesOK names_ok) rfl quiets
theorem ext_ok:Go.Ev.ExtOK Tryz.prog env:=okX
end Go.Proofs.YtohjaacnlmkhbaaGreatDoor
set_option linter.unusedSimpArgs false
set_option linter.unusedVariables false
namespace Go.Proofs.YtohjaacnlmkhbaaGreatDoor
open Go.ChangeShapes Go.WideShapes Go.ChangeAt Go.RowKit
open Go.Ev (Leaf Leafs LeafU heapOf renB)
set_option maxRecDepth 100000
def isStrT:Option TypeDesc→Bool
 | some (.struct _)=>true
 | _=>false
theorem str28:isStrT (Tryz.prog.underlying 28)=true:=by kernel_rfl
theorem one_agg {P:Program}{W:World}{b:Nat}{t:TypeId}{v:Value}(hs:isStrT (P.underlying t)=true) (h:Value.okWide P W .any b t v):∃ cs,v=.agg cs:=by
 unfold isStrT at hs
 split at hs
 ·rename_i fs hu
  unfold Value.okWide at h
  rw[hu]at h
  obtain⟨cs,rfl,_⟩:=h
  exact⟨cs,rfl⟩
 ·cases hs
theorem walk4 {W:World}(hL:laidMetH Tryz.prog laid9 W) (hS:W.ShapedOpen Tryz.prog) {v0:Value}{us:List Value}
  (hu:Leafs (LeafU Tryz.prog W 2) [.int .i64,.int .i64,.int .i64,.int .i64,.int .i64,.int .i64,.int .i64,.int .i64,.int .i64,.int .i64,.int .u64,.int .u64,.int .u64,.int .u64,.slc 36,.slc 35] us) (hv:Go.Ev.VR (renB W.heap.size) (.agg ⟨us⟩) v0) :
  Calls Tryz.prog 4 #[v0] W fun e w'=>e=.returned (.bool true)∧Below W.heap.size W w':=by
 have gk:=gok_of hL hS
 obtain⟨c,pv,av,P,A,rfl,r1,a1,r2,a2,ok,r3,a3⟩:=scr_of hu
 have h5:5<W.heap.size:=(of_laid hL).1
 refine Go.Ev.open_calls (E:=env) (us:=[.agg ⟨scrL c pv av⟩]) env_ok ext_ok (Go.Ev.namesOK names_ok) (fun g hg=>⟨0,by
  have:g<6:=hg
  simp only[renB];rw[if_pos (by omega)]⟩) (.cons hv .nil) rfl ?_
 exact law4_ret (B:=W.heap.size) r1 a1 (Nat.le_refl _) gk ok r3 a3 r2 a2
def zeroS:Value:=.agg ⟨scrL zc (.slice none 0 0) (.slice none 0 0)⟩
theorem lifted (os:Os) (started:os.Started) (H:Type) (enc:TypeId×Value→H) :
  ReturnsInHanded {} Tryz.checked os 4 .any (fun w args=>(Rows.scriptTextsSpec.pre enc Tryz.prog Tryz.f4 [] false w args∧laidMetH Tryz.prog laid9 w)∧sizedMet enc Tryz.prog Tryz.f4 (OpenSpec.ofChange Rows.scriptTextsSpec) false w args)
   (Rows.scriptTextsSpec.post enc Tryz.prog Tryz.f4 false true false false):=by
 refine handed_shaped (C:=Tryz.checked) (X:=fun w _=>laidMetH Tryz.prog laid9 w) (fun _ _ _ hh h=>h.of_heap hh) own started (by kernel_rfl) Tryz.func4
  (ChangeSpec.witness_shaped (enc:=enc) (C:=Tryz.checked) (os:=os) (X:=fun w _=>laidMetH Tryz.prog laid9 w) false (World.laidAll Tryz.prog os laid9) #[zeroS] 8 (World.laidAll_os _ _ _)
   (World.shaped_of_ZipB (by kernel_rfl) (by kernel_rfl)) (by kernel_rfl) (by kernel_rfl) (by kernel_rfl) (met9 os _)) ?_
 intro W base args ds gs before hS hL hwt hval0 hW
 have hval:∀ (j:Nat) t v,Tryz.f4.params[j]?=some t→args[j]?=some v→Value.okWide Tryz.prog W .any base t v:=hval0
 have hW':=hW
 obtain⟨p,q,hA0,hV,hpq,hfz,hnd⟩:=hW
 have hA:DataW.TrodAll enc Tryz.prog W 0 (fun _=>true) true Tryz.f4.params.toList args.toList ds p:=hA0
 have hA2:=hA
 rw[Tryz.params4]at hA2 hval
 obtain⟨v0,vs0,d0,ds0,p0,q0,ha0,rfl,rfl,h0,r0⟩:=trodAll_cons hA2
 obtain⟨rfl,rfl,rfl⟩:=trodAll_nil r0
 obtain rfl:args=#[v0]:=by cases args;simp_all
 have hV2:=hV
 obtain⟨rfl,rfl⟩:=trodVars_none hV2
 obtain⟨cs0,rfl⟩:=one_agg str28 (hval 0 28 v0 rfl rfl)
 have hw0:Go.Ev.WT Tryz.prog 28 d0:=Go.Ev.WT.of hwt (j:=0) rfl rfl
 obtain⟨us,hl,hvr⟩:=Go.Ev.arg_abs flat28 h0 hw0 2
 refine(walk4 hL hS hl (.agg _ _ hvr)).mono fun e W' ⟨he,hg⟩=>?_
 subst he
 exact⟨_,rfl,Go.Ev.post_law laidOut hW' hA hV hpq (by kernel_rfl) (by kernel_rfl) (fun _ _ _=>trodAll_cons_mk (shut_bool Tryz.underlying4 _) trodAll_mk0) rfl rfl hg⟩
theorem over:Rows.ScriptTextsSaid :=
 OpenClaim.holds_of_wide 4 Tryz.f4 rfl rfl rfl rfl rfl rfl rfl ⟨rfl,rfl,rfl,rfl,rfl⟩ rfl rfl rfl rfl rfl (by kernel_rfl) Tryz.func4 (by kernel_rfl)
  (of_decide_eq_true (by kernel_rfl)) (by unfold Func.isWrapper;first|(rw[if_pos (by decide +kernel)];kernel_rfl)|(rw[if_neg (by decide +kernel)];exact⟨rfl,rfl⟩))
  (fun os started H enc _=>lifted os started H enc)
theorem scriptTexts_card:Rows.ScriptTextsCardSaid :=
 Claim7.holds_tied_plain_at .later [] [.data,.data,.data,.data,.sentinel,.sentinel,.listed,.data,.pinned] true (true,"ed36c2c767f9272bd5d0bd004cfb46a2a9332e2f3755c709d48757040e08c744") true
  over (fun _ h=>by cases h) (by kernel_rfl) (fun _ h=>by cases h) scriptTexts_row_tie rfl ⟨rfl,rfl⟩ (by kernel_rfl) rfl
  (fun f fn hf hfn=>by
   obtain rfl:f=4:=Option.some.inj ((show Tryz.prog.funcNamed "helmsman/helmsmanlaw26.ScriptTexts"=some 4 by kernel_rfl).symm.trans hf) |>.symm
   obtain rfl:fn=Tryz.f4:=(Option.some.inj (Tryz.func4.symm.trans hfn)).symm
   exact⟨by kernel_rfl,fun j t ht=>by
    rw[Tryz.params4]at ht
    have hm:t∈[28]:=by simpa using Array.mem_of_getElem? ht
    have hall:([28].all fun u=>!Tryz.prog.wantsStandIn u)=true:=by kernel_rfl
    exact(show Tryz.prog.wantsStandIn t=false by simpa using List.all_eq_true.1 hall t (by simpa using hm))⟩)
  (by kernel_rfl)
end Go.Proofs.YtohjaacnlmkhbaaGreatDoor
namespace Go.Proofs.YtohjaacnlmkhbaaGreatDoor.scriptTexts
theorem proved:Rows.ScriptTextsCardSaid:=Go.Proofs.YtohjaacnlmkhbaaGreatDoor.scriptTexts_card
#print axioms proved
end Go.Proofs.YtohjaacnlmkhbaaGreatDoor.scriptTexts
