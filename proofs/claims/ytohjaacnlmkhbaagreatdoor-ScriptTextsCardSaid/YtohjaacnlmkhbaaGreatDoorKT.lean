/- QUIET FUNCTIONS, by their reckoned words. Conditions: none beyond each theorem's own. -/
import Derived.Test.YtohjaacnlmkhbaaGreatDoorZF
import Derived.Test.YtohjaacnlmkhbaaGreatDoorKA
import Derived.Test.YtohjaacnlmkhbaaGreatDoorChecked
import Derived.KernelRfl
set_option linter.unusedSimpArgs false
set_option linter.unusedVariables false
namespace Go.Proofs.YtohjaacnlmkhbaaGreatDoor
open Go.Ev Go.RowKit
set_option maxRecDepth 100000
def extI:ExtT:=extLib 143 idxG ext0
noncomputable def envI:Env:=envOf Tryz.prog 0 extI
theorem extI_ok:ExtOK Tryz.prog envI:=by
 obtain⟨c,hc⟩:=Option.isSome_iff_exists.1 body143
 refine extLib_ok (noExt Tryz.prog 0) Tryz.func143 hc (namesOK names_ok) fun args h v e ρ w args' hr hg ra=>?_
 unfold idxG at e
 split at e
 · rename_i s c
   simp only[Option.some.injEq]at e
   subst e
   obtain⟨l⟩:=args'
   simp only at ra
   cases ra with
   | cons r1 t=>cases r1;cases t with
     | cons r2 t=>cases r2;cases t;exact(Tryz.stringslite_IndexByte s c w).mono fun e w' ⟨h1,h2⟩=>⟨_,h1,.int _ _,by rw[h2];exact Below.refl _ _⟩
 · cases e
noncomputable def shapeG (args:List Value) (_:Heap):Option Value:=qval envI 20 94 args
theorem body94:Tryz.f94.body.isSome=true:=by kernel_rfl
theorem quietFun_ok {P:Program}{ng k:Nat}{base:ExtT}{E0:Env}{d:Nat}(h0:ExtOK P (envOf P ng base)) (hm:P.follows .mixedOrders=true) (hE0:EnvOK P E0) (hx0:ExtOK P E0) (hz:E0.ng=0) {fn:Func}{c:Code}(hf:P.funcs[k]?=some fn) (hb:fn.body=some c) (hn:NamesOK P) :
  ExtOK P (envOf P ng (extLib k (fun args _=>qval E0 d k args) base)) :=
 extLib_ok h0 hf hb hn fun args h v e ρ w args' hr hg ra =>
  ((quiet_ok (E:=envOf P ng base) (E0:=E0) (envOK P ng base hm) hE0 hx0 hn hz d (fun _=>true)).qc k args v rfl e ρ w args' ra).2
theorem ok_mono {P:Program}{ng ng':Nat}{ext:ExtT}(h:ExtOK P (envOf P ng ext)) (hle:ng≤ng'):ExtOK P (envOf P ng' ext) :=
 fun f a x v h' e ρ w args' hr hg ra=>h f a x v h' e ρ w args' hr (fun i hi=>hg i (Nat.lt_of_lt_of_le hi hle)) ra
def isI (o:Option Value):Bool:=match o with
 | some (.int .i64 _)=>true
 | _=>false
def spl (c:UInt8):List UInt8→List (List UInt8)
 | []=>[[]]
 | x::l=>if x=c then []::spl c l else match spl c l with
   | []=>[[x]]
   | y::ys=>(x::y)::ys
def splitG (args:List Value) (h:Heap):Option (Value×Blk) :=
 match args with
 | [.string s,.string ⟨⟨[c]⟩⟩]=>cond (Nat.blt s.size 1000000&&isI (cellAt h ⟨3,0,none⟩))
   (some (.slice (some ⟨h.n,0,none⟩) (spl c s.data.toList).length (spl c s.data.toList).length,.cells ((spl c s.data.toList).map fun l=>.string ⟨l.toArray⟩) 9 true)) none
 | _=>none
def hasPG (args:List Value) (_:Heap):Option Value :=
 match args with
 | [.string s,.string p]=>some (.bool (Lib.hasPrefix s.data.toList p.data.toList))
 | _=>none
def isIf (o:Option Value):Bool:=match o with
 | some (.iface _ _)=>true
 | _=>false
def errsOk (h:Heap):Bool:=isIf (cellAt h ⟨4,0,none⟩)&&isIf (cellAt h ⟨5,0,none⟩)
def errV (h:Heap):Value:=.iface 191 (.pointer (some ⟨h.n,0,none⟩))
def atoiG (args:List Value) (h:Heap):Option (Value×Bool) :=
 match args with
 | [.string s]=>cond (Nat.ble s.size 1000000&&errsOk h) (some (match Lib.atoiAll s.data.toList with
   | .ok n=>(.tuple ⟨[.int .i64 n,.nilIface]⟩,false)
   | .range=>(.tuple ⟨[.int .i64 (Lib.atoiSat s.data.toList),errV h]⟩,true)
   | _=>(.tuple ⟨[.int .i64 0,errV h]⟩,true))) none
 | _=>none
def toErrG (args:List Value) (h:Heap):Option (Value×Bool) :=
 match args with
 | [.string _,.string s,.int .i64 _,.int .i64 _,.iface 188 (.int .i64 n)]=>cond (Nat.ble s.size 1000000&&errsOk h&&(decide (n=1) || decide (n=2))) (some (errV h,true)) none
 | _=>none
def lenG (args:List Value) (_:Heap):Option Value :=
 match args with
 | [.int .u64 x]=>cond (decide (0≤x)&&decide (x≤18446744073709551615)) (some (.int .i64 (Lib.bitLen x.toNat))) none
 | _=>none
def smallG (args:List Value) (_:Heap):Option Value :=
 match args with
 | [.int .i64 x]=>cond (decide (0≤x)&&decide (x<100)) (some (.string ⟨(Lib.decDigits x.toNat).toArray⟩)) none
 | _=>none
def wordsB:List (List UInt8):=["ps","ring","gs","contexts","domains","nodes","slots","refills","audit","slice","cpu","period","budget","each"].map fun s=>s.toUTF8.data.toList
def wordsL:List Value:=[.string ⟨⟨[112,115]⟩⟩,.string ⟨⟨[114,105,110,103]⟩⟩,.string ⟨⟨[103,115]⟩⟩,.string ⟨⟨[99,111,110,116,101,120,116,115]⟩⟩,.string ⟨⟨[100,111,109,97,105,110,115]⟩⟩,.string ⟨⟨[110,111,100,101,115]⟩⟩,.string ⟨⟨[115,108,111,116,115]⟩⟩,.string ⟨⟨[114,101,102,105,108,108,115]⟩⟩,.string ⟨⟨[97,117,100,105,116]⟩⟩,.string ⟨⟨[115,108,105,99,101]⟩⟩,.string ⟨⟨[99,112,117]⟩⟩,.string ⟨⟨[112,101,114,105,111,100]⟩⟩,.string ⟨⟨[98,117,100,103,101,116]⟩⟩,.string ⟨⟨[101,97,99,104]⟩⟩]
noncomputable def ext6:ExtT:=extLib 94 shapeG ext5
noncomputable def ext7:ExtT:=extNew 40 splitG ext6
noncomputable def ext8:ExtT:=extLib 41 hasPG ext7
noncomputable def ext9:ExtT:=extDead 76 atoiG ext8
noncomputable def ext10:ExtT:=extDead 106 toErrG ext9
noncomputable def ext11:ExtT:=extTabN tabs 28 wordsL 9 ext10
noncomputable def ext12:ExtT:=extLib 108 idxG ext11
noncomputable def ext13:ExtT:=extLib 149 lenG ext12
noncomputable def ext14:ExtT:=extLib 122 smallG ext13
theorem ok6:ExtOK Tryz.prog (envOf Tryz.prog 6 ext6):=by
 obtain⟨c,hc⟩:=Option.isSome_iff_exists.1 body94
 exact quietFun_ok (ok_mono ok5 (by decide)) mixed (envOK Tryz.prog 0 extI mixed) extI_ok rfl Tryz.func94 hc (namesOK names_ok)
theorem spl_ne (c:UInt8) (l:List UInt8):spl c l≠[]:=by
 cases l with
 | nil=>simp[spl]
 | cons x l => unfold spl;split;· simp
               split<;>simp
theorem spl_miss {c:UInt8}:∀ {l:List UInt8},Lib.indexByte l c = -1→spl c l=[l]
 | [],_=>rfl
 | x::l,h=>by
   unfold Lib.indexByte at h
   have h0:=Lib.indexByte_ge l c
   by_cases hx:x=c
   · subst hx;simp at h
   · have hxb:(x==c)=false:=by simp[hx]
     rw[hxb]at h
     by_cases h1:Lib.indexByte l c = -1
     · rw[spl,if_neg hx,spl_miss h1]
     · have h1b:(Lib.indexByte l c==-1)=false:=by simp[h1]
       rw[h1b]at h
       simp at h
       omega
theorem spl_hit {c:UInt8}:∀ {l:List UInt8}{i:Nat},Lib.indexByte l c=i→spl c l=l.take i::spl c (l.drop (i+1))
 | [],i,h=>by simp only[Lib.indexByte]at h;omega
 | x::l,i,h=>by
   unfold Lib.indexByte at h
   have h0:=Lib.indexByte_ge l c
   by_cases hx:x=c
   · subst hx
     simp at h
     have:i=0:=by omega
     subst this
     rw[spl,if_pos rfl];simp
   · have hxb:(x==c)=false:=by simp[hx]
     rw[hxb]at h
     by_cases h1:Lib.indexByte l c = -1
     · rw[h1]at h;simp at h
     · have h1b:(Lib.indexByte l c==-1)=false:=by simp[h1]
       rw[h1b]at h
       simp at h
       obtain⟨j,rfl⟩:∃ j,i=j+1:=⟨i-1,by omega⟩
       rw[spl,if_neg hx,spl_hit (i:=j) (by omega)]
       rfl
theorem splitB_spl (c:UInt8):∀ (k:Nat) (s:ByteArray),s.size≤k→Lib.splitB ⟨⟨[c]⟩⟩ 0 (Lib.countB s ⟨⟨[c]⟩⟩) s=(spl c s.data.toList).map (fun l=>⟨l.toArray⟩)∧Lib.countB s ⟨⟨[c]⟩⟩+1=(spl c s.data.toList).length:=by
 intro k
 induction k with
 | zero =>
   intro s hs
   have hl:s.data.toList=[]:=by
     rw[Lib.size_eq]at hs
     exact List.length_eq_zero_iff.1 (by omega)
   have hi:Lib.indexB s ⟨⟨[c]⟩⟩ = -1:=by unfold Lib.indexB;rw[hl];rfl
   rw[Lib.countB_miss s _ hi,Lib.splitB_zero,hl]
   obtain⟨⟨sl⟩⟩:=s
   simp only at hl
   subst hl
   exact⟨rfl,rfl⟩
 | succ k ih =>
   intro s hs
   have hone:Lib.indexB s ⟨⟨[c]⟩⟩=Lib.indexByte s.data.toList c:=Lib.index_one _ _
   rcases Lib.indexB_cases s ⟨⟨[c]⟩⟩ with hix|⟨i,hix,hroom⟩
   · rw[Lib.countB_miss s _ hix,Lib.splitB_zero,spl_miss (by rw[← hone];exact hix)]
     obtain⟨⟨sl⟩⟩:=s
     exact⟨rfl,rfl⟩
   · have h1:(1:Nat)≤(⟨⟨[c]⟩⟩:ByteArray).size:=Nat.le_refl 1
     have hsz:(⟨⟨[c]⟩⟩:ByteArray).size=1:=rfl
     rw[hsz]at hroom
     have hdl:(s.extract (i+1) s.size).data.toList=s.data.toList.drop (i+1):=Lib.extract_to_end s (i+1)
     have hds:(s.extract (i+1) s.size).size=s.size-(i+1):=by rw[Lib.size_eq,hdl,List.length_drop,← Lib.size_eq]
     obtain⟨h2,h3⟩:=ih (s.extract (i+1) s.size) (by omega)
     have hc:=Lib.countB_hit s ⟨⟨[c]⟩⟩ i h1 hix
     rw[hsz]at hc
     have hh:=spl_hit (c:=c) (l:=s.data.toList) (i:=i) (by rw[← hone];exact hix)
     rw[hdl]at h2 h3
     refine⟨?_,?_⟩
     · rw[hc,Nat.add_comm,Lib.splitB]
       have hb:(Lib.indexB s ⟨⟨[c]⟩⟩==-1)=false:=by rw[hix];simp
       rw[hb,hix]
       simp only[Int.toNat_natCast,Nat.add_zero,hsz,Bool.false_eq_true,if_false]
       rw[h2,hh,List.map_cons]
       congr 1
       obtain⟨⟨sl⟩⟩:=s
       rw[str_extract];rfl
     · rw[hc,hh,List.length_cons,← h3];omega
theorem cell_of {ρ:Ren}{h:Heap}{w:World}{g:Nat}{v:Value}(hr:HR Tryz.prog ρ h w) (hg:∀ i,i<6→∃ c,ρ i=some (i,c)) (h6:g<6) (hv:cellAt h ⟨g,0,none⟩=some v):∃ v',w.cell? ⟨g,0,none⟩=some v'∧VR ρ v v':=by
 obtain⟨c,hc⟩:=hg g h6
 have hl:cellsAt h ⟨g,0,none⟩ 1=some [v]:=by
  unfold cellAt at hv
  split at hv
  ·rename_i v e;cases hv;exact e
  ·cases hv
 obtain⟨l',hvl,hll,hcell⟩:=cellsAt_sim hr hc hl
 obtain⟨v',ev,r⟩:=hvl.get 0 _ rfl
 have:=hcell 0 _ ev
 rw[Addr.add_lit]at this
 exact⟨v',this,r⟩
theorem isIf_of {ρ:Ren}{h:Heap}{w:World}{g:Nat}(hr:HR Tryz.prog ρ h w) (hg:∀ i,i<6→∃ c,ρ i=some (i,c)) (h6:g<6) (hv:isIf (cellAt h ⟨g,0,none⟩)=true):∃ ev,w.cell? ⟨g,0,none⟩=some ev∧∃ te pe,ev=.iface te pe:=by
 unfold isIf at hv
 split at hv
 ·rename_i t v e
  obtain⟨v',e1,r⟩:=cell_of hr hg h6 e
  cases r
  exact⟨_,e1,_,_,rfl⟩
 ·cases hv
theorem isI_of {ρ:Ren}{h:Heap}{w:World}{g:Nat}(hr:HR Tryz.prog ρ h w) (hg:∀ i,i<6→∃ c,ρ i=some (i,c)) (h6:g<6) (hv:isI (cellAt h ⟨g,0,none⟩)=true):∃ m,w.cell? ⟨g,0,none⟩=some (.int .i64 m):=by
 unfold isI at hv
 split at hv
 ·rename_i v e
  obtain⟨v',e1,r⟩:=cell_of hr hg h6 e
  cases r
  exact⟨_,e1⟩
 ·cases hv
theorem errV_r {ρ:Ren}{h:Heap}{N:Nat}:VR (ρ.upd h.n (N,0)) (errV h) (.iface 191 (.pointer (some ⟨N,0,none⟩))):=.iface _ _ _ (.ptr (c:=0) _ (Ren.upd_same _ _ _))
theorem one_str {ρ:Ren}{s:ByteArray}{args':Array Value}(ra:VRL ρ [.string s] args'.toList):args'=#[.string s]:=by
 obtain⟨l⟩:=args'
 simp only at ra
 cases ra with
 | cons r1 t=>cases r1;cases t;rfl
theorem two_str {ρ:Ren}{s p:ByteArray}{args':Array Value}(ra:VRL ρ [.string s,.string p] args'.toList):args'=#[.string s,.string p]:=by
 obtain⟨l⟩:=args'
 simp only at ra
 cases ra with
 | cons r1 t=>cases r1;cases t with
   | cons r2 t=>cases r2;cases t;rfl
theorem body40:Tryz.f40.body.isSome=true:=by kernel_rfl
theorem body41:Tryz.f41.body.isSome=true:=by kernel_rfl
theorem body76:Tryz.f76.body.isSome=true:=by kernel_rfl
theorem body106:Tryz.f106.body.isSome=true:=by kernel_rfl
theorem body28:Tryz.f28.body.isSome=true:=by kernel_rfl
theorem body108:Tryz.f108.body.isSome=true:=by kernel_rfl
theorem body149:Tryz.f149.body.isSome=true:=by kernel_rfl
theorem body122:Tryz.f122.body.isSome=true:=by kernel_rfl
theorem ok7:ExtOK Tryz.prog (envOf Tryz.prog 6 ext7):=by
 obtain⟨c,hc⟩:=Option.isSome_iff_exists.1 body40
 refine extNew_ok ok6 Tryz.func40 hc (namesOK names_ok) fun args h v bk e ρ w args' hr hg ra=>?_
 unfold splitG at e
 split at e
 · rename_i s c
   rw[two_str ra]
   cases hck:(Nat.blt s.size 1000000&&isI (cellAt h ⟨3,0,none⟩)) with
   | false=>rw[hck]at e;cases e
   | true =>
     rw[hck]at e
     simp only[cond_true,Option.some.injEq,Prod.mk.injEq]at e
     obtain⟨rfl,rfl⟩:=e
     simp only[Bool.and_eq_true,blt_eq,decide_eq_true_eq]at hck
     obtain⟨hs,h3⟩:=hck
     obtain⟨m,hm⟩:=isI_of hr hg (by decide) h3
     obtain⟨e1,e2⟩:=splitB_spl c s.size s (Nat.le_refl _)
     have hle:=Lib.countB_le ⟨⟨[c]⟩⟩ (Nat.le_refl 1) s.size s (Nat.le_refl _)
     refine(Tryz.strings_Split s ⟨⟨[c]⟩⟩ m w (by omega) hm (Nat.le_refl 1)).mono fun e w' hh=>?_
     obtain⟨rfl,rfl⟩:=hh
     rw[e1,e2]
     refine⟨_,_,rfl,rfl,.slice _ _ _ (Ren.upd_same _ _ _) (by rw[← e2];unfold UNK;omega),.cells _ _ _ _ (fun i v ev=>?_) (by simp)⟩
     rw[List.getElem?_map,Option.map_eq_some_iff]at ev
     obtain⟨x,hx,rfl⟩:=ev
     exact⟨.string ⟨x.toArray⟩,by simp[hx],.string _⟩
 · cases e
theorem ok8:ExtOK Tryz.prog (envOf Tryz.prog 6 ext8):=by
 obtain⟨c,hc⟩:=Option.isSome_iff_exists.1 body41
 refine extLib_ok ok7 Tryz.func41 hc (namesOK names_ok) fun args h v e ρ w args' hr hg ra=>?_
 unfold hasPG at e
 split at e
 ·rename_i s c
  simp only[Option.some.injEq]at e
  subst e
  rw[two_str ra]
  exact(Tryz.strings_HasPrefix s c w).mono fun e w' ⟨h1,h2⟩=>⟨_,h1,.bool _,by rw[h2];exact Below.refl _ _⟩
 ·cases e
theorem ok9:ExtOK Tryz.prog (envOf Tryz.prog 6 ext9):=by
 obtain⟨c,hc⟩:=Option.isSome_iff_exists.1 body76
 refine extDead_ok ok8 Tryz.func76 hc (namesOK names_ok) fun args h v b e ρ w args' hr hg ra=>?_
 unfold atoiG at e
 split at e
 · rename_i s
   rw[one_str ra]
   cases hck:(Nat.ble s.size 1000000&&errsOk h) with
   | false=>rw[hck]at e;cases e
   | true =>
     rw[hck]at e
     unfold errsOk at hck
     simp only[Bool.and_eq_true,ble_eq,decide_eq_true_eq]at hck
     obtain⟨hs,h4,h5⟩:=hck
     obtain⟨e4,c4,i4⟩:=isIf_of hr hg (by decide) h4
     obtain⟨e5,c5,i5⟩:=isIf_of hr hg (by decide) h5
     cases ha:Lib.atoiAll s.data.toList with
     | ok n =>
       rw[ha]at e
       simp only[cond_true,Option.some.injEq,Prod.mk.injEq]at e
       obtain⟨rfl,rfl⟩:=e
       refine(Tryz.strconv_Atoi_ok s (by omega) n ha w).mono fun e w' ⟨h1,h2⟩=>⟨_,h1,?_,(fun hb=>by cases hb),fun _=>.tuple _ _ (.cons (.int _ _) (.cons .nilIface .nil))⟩
       rcases h2 with rfl|⟨t,rfl⟩
       · exact Below.refl _ _
       · exact Go.Lib.bytesWorld_below _ _ _
     | range =>
       rw[ha]at e
       simp only[cond_true,Option.some.injEq,Prod.mk.injEq]at e
       obtain⟨rfl,rfl⟩:=e
       exact(Tryz.strconv_Atoi_range s (by omega) ha e5 w c5 (.inr i5)).mono fun e w' ⟨N,h1,h2,h3,h4⟩ =>
         ⟨_,h1,h4,fun _=>⟨N,_,h2,h3,.tuple _ _ (.cons (.int _ _) (.cons errV_r .nil))⟩,fun hb=>by cases hb⟩
     | _ =>
       rw[ha]at e
       simp only[cond_true,Option.some.injEq,Prod.mk.injEq]at e
       obtain⟨rfl,rfl⟩:=e
       exact(Tryz.strconv_Atoi_syntax s (by omega) ha e4 w c4 (.inr i4)).mono fun e w' ⟨N,h1,h2,h3,h4⟩ =>
         ⟨_,h1,h4,fun _=>⟨N,_,h2,h3,.tuple _ _ (.cons (.int _ _) (.cons errV_r .nil))⟩,fun hb=>by cases hb⟩
 · cases e
theorem ok10:ExtOK Tryz.prog (envOf Tryz.prog 6 ext10):=by
 obtain⟨c,hc⟩:=Option.isSome_iff_exists.1 body106
 refine extDead_ok ok9 Tryz.func106 hc (namesOK names_ok) fun args h v b e ρ w args' hr hg ra=>?_
 unfold toErrG at e
 split at e
 · rename_i fn s k1 k2 n
   have hargs:args'=#[.string fn,.string s,.int .i64 k1,.int .i64 k2,.iface 188 (.int .i64 n)]:=by
     obtain⟨l⟩:=args'
     simp only at ra
     cases ra with
     | cons r1 t =>
       cases r1
       cases t with
       | cons r2 t =>
         cases r2
         cases t with
         | cons r3 t =>
           cases r3
           cases t with
           | cons r4 t =>
             cases r4
             cases t with
             | cons r5 t =>
               cases t
               cases r5 with
               | iface _ _ _ r=>cases r;rfl
   subst hargs
   cases hck:(Nat.ble s.size 1000000&&errsOk h&&(decide (n=1) || decide (n=2))) with
   | false=>rw[hck]at e;cases e
   | true =>
     rw[hck]at e
     unfold errsOk at hck
     simp only[Bool.and_eq_true,Bool.or_eq_true,ble_eq,decide_eq_true_eq]at hck
     obtain⟨⟨hs,h4,h5⟩,hn⟩:=hck
     obtain⟨e4,c4,i4⟩:=isIf_of hr hg (by decide) h4
     obtain⟨e5,c5,i5⟩:=isIf_of hr hg (by decide) h5
     simp only[cond_true,Option.some.injEq,Prod.mk.injEq]at e
     obtain⟨rfl,rfl⟩:=e
     rcases hn with rfl|rfl
     · exact(Tryz.strconv_toError_range fn s k1 k2 e5 w (by omega) c5 (.inr i5)).mono fun e w' ⟨N,h1,h2,h3,h4⟩ =>
         ⟨_,h1,h4,fun _=>⟨N,_,h2,h3,errV_r⟩,fun hb=>by cases hb⟩
     · exact(Tryz.strconv_toError_syntax fn s k1 k2 e4 w (by omega) c4 (.inr i4)).mono fun e w' ⟨N,h1,h2,h3,h4⟩ =>
         ⟨_,h1,h4,fun _=>⟨N,_,h2,h3,errV_r⟩,fun hb=>by cases hb⟩
 · cases e
def strL (cs:List Value) (xs:List (List UInt8)):Bool:=match strs cs with
 | some l=>decide (l.map (·.data.toList)=xs)
 | none=>false
theorem strL_of {cs:List Value}{xs:List (List UInt8)}(h:strL cs xs=true):cs=xs.map fun l=>.string ⟨l.toArray⟩:=by
 unfold strL at h
 split at h
 ·rename_i l hl
  rw[strs_get hl,← of_decide_eq_true h,List.map_map]
  rfl
 ·cases h
def chkW (r:Option (Value×Heap)):Bool:=match r with
 | some (.slice (some ⟨b,0,none⟩) n c,h')=>Nat.beq n 14&&Nat.beq c 14&&Nat.ble 3 b&&match h'.b.get b with
   | some (.cells cs 9 true)=>strL cs wordsB
   | _=>false
 | _=>false
theorem reckonedW:chkW (callF env0 60 (.func 28) [] (heap0 tabs 3))=true:=by kernel_rfl
theorem wordsL_eq:wordsL=wordsB.map fun l=>.string ⟨l.toArray⟩:=strL_of (by decide +kernel)
theorem words_calls (w:World) (ht:TabW tabs 3 w):Calls Tryz.prog 28 #[] w fun e w'=>∃ N,e=.returned (.slice (some ⟨N,0,none⟩) wordsL.length wordsL.length)∧w.heap.size≤N∧w'.heap[N]?=some (.cells wordsL.toArray 9 (0,0))∧Below w.heap.size w w':=by
 have h:=reckonedW
 unfold chkW at h
 split at h
 ·rename_i b n c h' e
  simp only[Bool.and_eq_true,Nat.beq_eq,ble_eq,decide_eq_true_eq]at h
  obtain⟨⟨⟨rfl,rfl⟩,hb⟩,h⟩:=h
  split at h
  ·rename_i cs hcs
   have:=strL_of h
   rw[← wordsL_eq]at this
   subst this
   exact tabN_calls (E:=env0) env0_ok ok5 (namesOK names_ok) tab_const rfl rfl (by decide) e hcs hb w ht
  ·cases h
 ·cases h
theorem tab3 {w:World}(h:TabW tabs 6 w):TabW tabs 3 w:=by
 refine⟨by have:=h.1;omega,fun p hp=>⟨?_,(h.2 p hp).2⟩⟩
 simp only[tabs,List.mem_cons,List.not_mem_nil,or_false]at hp
 rcases hp with rfl|rfl<;>decide
theorem ok11:ExtOK Tryz.prog (envOf Tryz.prog 6 ext11):=by
 obtain⟨c,hc⟩:=Option.isSome_iff_exists.1 body28
 exact extTabN_ok ok10 rfl tab_const rfl (by decide) Tryz.func28 hc (namesOK names_ok) fun w ht=>words_calls w (tab3 ht)
theorem ok12:ExtOK Tryz.prog (envOf Tryz.prog 6 ext12):=by
 obtain⟨c,hc⟩:=Option.isSome_iff_exists.1 body108
 refine extLib_ok ok11 Tryz.func108 hc (namesOK names_ok) fun args h v e ρ w args' hr hg ra=>?_
 unfold idxG at e
 split at e
 · rename_i s c
   simp only[Option.some.injEq]at e
   subst e
   obtain⟨l⟩:=args'
   simp only at ra
   cases ra with
   | cons r1 t=>cases r1;cases t with
     | cons r2 t=>cases r2;cases t;exact(Tryz.strings_IndexByte s c w).mono fun e w' ⟨h1,h2⟩=>⟨_,h1,.int _ _,by rw[h2];exact Below.refl _ _⟩
 · cases e
theorem one_int {ρ:Ren}{k:IntKind}{n:Int}{args':Array Value}(ra:VRL ρ [.int k n] args'.toList):args'=#[.int k n]:=by
 obtain⟨l⟩:=args'
 simp only at ra
 cases ra with
 | cons r1 t=>cases r1;cases t;rfl
theorem ok13:ExtOK Tryz.prog (envOf Tryz.prog 6 ext13):=by
 obtain⟨c,hc⟩:=Option.isSome_iff_exists.1 body149
 refine extLib_ok ok12 Tryz.func149 hc (namesOK names_ok) fun args h v e ρ w args' hr hg ra=>?_
 unfold lenG at e
 split at e
 ·rename_i x
  rw[one_int ra]
  by_cases hx:0≤x∧x≤18446744073709551615
  ·simp only[hx.1,hx.2,decide_true,Bool.and_self,cond_true,Option.some.injEq]at e
   subst e
   exact(Tryz.bits_Len64 x w hx.1 hx.2).mono fun e w' ⟨h1,h2⟩=>⟨_,h1,.int _ _,by rw[h2];exact Below.refl _ _⟩
  ·have:(decide (0≤x)&&decide (x≤18446744073709551615))=false:=by
    simp only[Bool.and_eq_false_iff,decide_eq_false_iff_not];omega
   rw[this]at e;cases e
 ·cases e
theorem ok14:ExtOK Tryz.prog (envOf Tryz.prog 6 ext14):=by
 obtain⟨c,hc⟩:=Option.isSome_iff_exists.1 body122
 refine extLib_ok ok13 Tryz.func122 hc (namesOK names_ok) fun args h v e ρ w args' hr hg ra=>?_
 unfold smallG at e
 split at e
 ·rename_i x
  rw[one_int ra]
  by_cases hx:0≤x∧x<100
  ·obtain⟨i,rfl⟩:=Int.eq_ofNat_of_zero_le hx.1
   simp only[hx.1,hx.2,decide_true,Bool.and_self,cond_true,Option.some.injEq,Int.toNat_natCast]at e
   subst e
   exact(Tryz.internal_strconv_small i (by omega) w).mono fun e w' ⟨h1,h2⟩=>⟨_,h1,.string _,by rw[h2];exact Below.refl _ _⟩
  ·have:(decide (0≤x)&&decide (x<100))=false:=by
    simp only[Bool.and_eq_false_iff,decide_eq_false_iff_not];omega
   rw[this]at e;cases e
 ·cases e
def smaps2 (t:TypeId):Bool:=Nat.beq t 62 || Nat.beq t 148
end Go.Proofs.YtohjaacnlmkhbaaGreatDoor
namespace Go.Proofs.YtohjaacnlmkhbaaGreatDoor.Qq
open Go.Ev
set_option maxRecDepth 100000
noncomputable def env:Env:=envQ
section
variable {fr:Fr}{h:Heap}{K:Value→Heap→Prop}{x y z:Operand}{ps:List (Nat×Operand)}
theorem callE:∀ {f:FuncId}{xs:List Operand}{ts:Array TypeId},opW env (.call ⟨.value (.func f),⟨xs⟩,ts⟩) fr h K=evsK env fr xs fun us=>Ret env (.func f) us h K:=opW_call rfl
theorem fa_125_2:opW env (.fieldAddr 125 x 2) fr h K=evK env fr x fun v=>fldAK 2 v fun u=>K u h:=opW_fieldAddr (by kernel_rfl)
theorem ld_5:opW env (.load 5 x) fr h K=evK env fr x fun v=>ld1K h v fun u=>K u h:=opW_load1 (by kernel_rfl)
theorem cv_5_3:opW env (.convert 5 3 x) fr h K=evK env fr x fun v=>cintK .i64 v fun u=>K u h:=opW_cint (k':=.u8) (by kernel_rfl) (by kernel_rfl)
theorem fa_125_3:opW env (.fieldAddr 125 x 3) fr h K=evK env fr x fun v=>fldAK 3 v fun u=>K u h:=opW_fieldAddr (by kernel_rfl)
theorem ld_125:opW env (.load 125 x) fr h K=evK env fr x fun v=>ldNK h 4 v fun u=>K u h:=opW_loadN (by kernel_rfl)
theorem callE_96:∀ {xs:List Operand}{ts:Array TypeId},opW env (.call ⟨.value (.func 96),⟨xs⟩,ts⟩) fr h K=evsK env fr xs fun us=>Ret env (.func 96) us h K:=opW_call rfl
theorem cv_3_181:opW env (.convert 3 181 x) fr h K=evK env fr x fun v=>cintK .i16 v fun u=>K u h:=opW_cint (k':=.i64) (by kernel_rfl) (by kernel_rfl)
theorem cv_181_3:opW env (.convert 181 3 x) fr h K=evK env fr x fun v=>cintK .i64 v fun u=>K u h:=opW_cint (k':=.i16) (by kernel_rfl) (by kernel_rfl)
end
def r96_0:List GO:=[⟨none,some 3,.fieldAddr 125 (.tmp 1) 2⟩,
 ⟨none,some 4,.load 5 (.tmp 3)⟩,
 ⟨none,some 5,.convert 5 3 (.tmp 4)⟩,
 ⟨none,some 6,.binOp .shl 3 (.tmp 5) (.const (.int .u64 8)) 149⟩,
 ⟨none,some 7,.fieldAddr 125 (.tmp 1) 3⟩,
 ⟨none,some 8,.load 5 (.tmp 7)⟩,
 ⟨none,some 9,.convert 5 3 (.tmp 8)⟩,
 ⟨none,some 10,.binOp .or 3 (.tmp 6) (.tmp 9) 3⟩,
 ⟨none,some 2,.assign (.tmp 10)⟩]
theorem r96_0_w {E:Env}{fr:Fr}{h:Heap}{Q:Fr→Heap→Prop}:opsW E r96_0 fr h Q=opsW E [⟨none,some 3,.fieldAddr 125 (.tmp 1) 2⟩,
 ⟨none,some 4,.load 5 (.tmp 3)⟩,
 ⟨none,some 5,.convert 5 3 (.tmp 4)⟩,
 ⟨none,some 6,.binOp .shl 3 (.tmp 5) (.const (.int .u64 8)) 149⟩,
 ⟨none,some 7,.fieldAddr 125 (.tmp 1) 3⟩,
 ⟨none,some 8,.load 5 (.tmp 7)⟩,
 ⟨none,some 9,.convert 5 3 (.tmp 8)⟩,
 ⟨none,some 10,.binOp .or 3 (.tmp 6) (.tmp 9) 3⟩,
 ⟨none,some 2,.assign (.tmp 10)⟩] fr h Q:=Eq.trans rfl rfl
def s96_1:GC:=.seq (.ops r96_0) .ret
theorem s96_1_w {E:Env}{nt:Nat}{rd:Option Nat}{fr:Fr}{h:Heap}{Q:Ex→Fr→Heap→Prop}:s96_1.wp E nt rd fr h Q=(GC.seq (.ops r96_0) .ret).wp E nt rd fr h Q:=Eq.trans rfl rfl
def r96_2:List GO:=[⟨none,some 1,.box 125 (.tmp 0)⟩,
 ⟨none,some 2,.assign (.const (.int .i64 0))⟩]
theorem r96_2_w {E:Env}{fr:Fr}{h:Heap}{Q:Fr→Heap→Prop}:opsW E r96_2 fr h Q=opsW E [⟨none,some 1,.box 125 (.tmp 0)⟩,
 ⟨none,some 2,.assign (.const (.int .i64 0))⟩] fr h Q:=Eq.trans rfl rfl
def s96_3:GC:=.seq (.ops r96_2) s96_1
theorem s96_3_w {E:Env}{nt:Nat}{rd:Option Nat}{fr:Fr}{h:Heap}{Q:Ex→Fr→Heap→Prop}:s96_3.wp E nt rd fr h Q=(GC.seq (.ops r96_2) s96_1).wp E nt rd fr h Q:=Eq.trans rfl rfl
theorem c96:Tryz.f96.body.bind (clean env 11)=some s96_3:=by kernel_rfl
theorem e96:env.funs.get 96=some Tryz.f96:=by kernel_rfl
theorem F96 {args:List Value}{h:Heap}{K:Value→Heap→Prop}(hl:args.length=1) (w:s96_3.wp env 11 none (setAll args 0 .leaf) h (resK env [.tmp 2] K)):Ret env (.func 96) args h K :=
 Ret.of_body' rfl e96 c96 rfl rfl (by rw[hl];decide) w
def r97_0:List GO:=[⟨none,some 3,.load 125 (.tmp 1)⟩,
 ⟨none,some 4,.call ⟨.value (.func 96),⟨[.tmp 3]⟩,⟨[125]⟩⟩⟩,
 ⟨none,some 5,.convert 3 181 (.tmp 4)⟩,
 ⟨none,some 6,.convert 181 3 (.tmp 5)⟩,
 ⟨none,some 2,.assign (.tmp 6)⟩]
theorem r97_0_w {E:Env}{fr:Fr}{h:Heap}{Q:Fr→Heap→Prop}:opsW E r97_0 fr h Q=opsW E [⟨none,some 3,.load 125 (.tmp 1)⟩,
 ⟨none,some 4,.call ⟨.value (.func 96),⟨[.tmp 3]⟩,⟨[125]⟩⟩⟩,
 ⟨none,some 5,.convert 3 181 (.tmp 4)⟩,
 ⟨none,some 6,.convert 181 3 (.tmp 5)⟩,
 ⟨none,some 2,.assign (.tmp 6)⟩] fr h Q:=Eq.trans rfl rfl
def s97_1:GC:=.seq (.ops r97_0) .ret
theorem s97_1_w {E:Env}{nt:Nat}{rd:Option Nat}{fr:Fr}{h:Heap}{Q:Ex→Fr→Heap→Prop}:s97_1.wp E nt rd fr h Q=(GC.seq (.ops r97_0) .ret).wp E nt rd fr h Q:=Eq.trans rfl rfl
def r97_2:List GO:=[⟨none,some 1,.box 125 (.tmp 0)⟩,
 ⟨none,some 2,.assign (.const (.int .i64 0))⟩]
theorem r97_2_w {E:Env}{fr:Fr}{h:Heap}{Q:Fr→Heap→Prop}:opsW E r97_2 fr h Q=opsW E [⟨none,some 1,.box 125 (.tmp 0)⟩,
 ⟨none,some 2,.assign (.const (.int .i64 0))⟩] fr h Q:=Eq.trans rfl rfl
def s97_3:GC:=.seq (.ops r97_2) s97_1
theorem s97_3_w {E:Env}{nt:Nat}{rd:Option Nat}{fr:Fr}{h:Heap}{Q:Ex→Fr→Heap→Prop}:s97_3.wp E nt rd fr h Q=(GC.seq (.ops r97_2) s97_1).wp E nt rd fr h Q:=Eq.trans rfl rfl
theorem c97:Tryz.f97.body.bind (clean env 7)=some s97_3:=by kernel_rfl
theorem e97:env.funs.get 97=some Tryz.f97:=by kernel_rfl
theorem F97 {args:List Value}{h:Heap}{K:Value→Heap→Prop}(hl:args.length=1) (w:s97_3.wp env 7 none (setAll args 0 .leaf) h (resK env [.tmp 2] K)):Ret env (.func 97) args h K :=
 Ret.of_body' rfl e97 c97 rfl rfl (by rw[hl];decide) w
end Go.Proofs.YtohjaacnlmkhbaaGreatDoor.Qq
