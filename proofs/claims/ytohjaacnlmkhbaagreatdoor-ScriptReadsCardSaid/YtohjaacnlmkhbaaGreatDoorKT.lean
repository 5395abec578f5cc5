/- QUIET FUNCTIONS, by their reckoned words. Conditions: none beyond each theorem's own. -/
import Derived.Test.YtohjaacnlmkhbaaGreatDoorZF
import Derived.Test.YtohjaacnlmkhbaaGreatDoorKA
import Derived.Test.YtohjaacnlmkhbaaGreatDoorChecked
import Derived.KernelRfl
set_option linter.unusedSimpArgs false
set_option linter.unusedVariables false
namespace Go.Proofs.YtohjaacnlmkhbaaGreatDoor
open Go.Ev Go.RowKit
set_option maxRecDepth 100000
def Za:fU:=iP 143 C9 EG
noncomputable def Wv:Env:=bP Tryz.prog 0 Za
theorem Sv:cf Tryz.prog Wv:=by
 obtain⟨c,hc⟩:=Option.isSome_iff_exists.1 Gk;refine gQ (FY Tryz.prog 0) Tryz.func143 hc (dI cP) fun args h v e ρ w args' hr hg ra=>?_;unfold C9 at e;split at e
 · rename_i s c;simp only[Option.some.injEq]at e;subst e;obtain⟨l⟩:=args';simp only at ra;cases ra with
   | cons r1 t=>cases r1;cases t with
     | cons r2 t=>cases r2;cases t;exact(Tryz.stringslite_IndexByte s c w).mono fun e w' ⟨h1,h2⟩=>⟨_,h1,.int _ _,by rw[h2];exact Below.refl _ _⟩
 · cases e
noncomputable def Bj (args:List Value) (_:Heap):Option Value:=td Wv 20 94 args
theorem VQ:Tryz.f94.body.isSome=true:=by kernel_rfl
theorem CL {P:Program}{ng k:Nat}{base:fU}{E0:Env}{d:Nat}(h0:cf P (bP P ng base)) (hm:P.follows .mixedOrders=true) (hE0:aH P E0) (hx0:cf P E0) (hz:E0.ng=0) {fn:Func}{c:Code}(hf:P.funcs[k]?=some fn) (hb:fn.body=some c) (hn:eC P) :
  cf P (bP P ng (iP k (fun args _=>td E0 d k args) base)) :=
 gQ h0 hf hb hn fun args h v e ρ w args' hr hg ra =>
  ((xc (E:=bP P ng base) (E0:=E0) (yX P ng base hm) hE0 hx0 hn hz d (fun _=>true)).qc k args v rfl e ρ w args' ra).2
theorem RC {P:Program}{ng ng':Nat}{ext:fU}(h:cf P (bP P ng ext)) (hle:ng≤ng'):cf P (bP P ng' ext) :=
 fun f a x v h' e ρ w args' hr hg ra=>h f a x v h' e ρ w args' hr (fun i hi=>hg i (Nat.lt_of_lt_of_le hi hle)) ra
def U' (o:Option Value):Bool:=match o with
 | some (.int .i64 _)=>true
 | _=>false
def aZ (c:UInt8):List UInt8→List (List UInt8)
 | []=>[[]]
 | x::l=>if x=c then []::aZ c l else match aZ c l with
   | []=>[[x]]
   | y::ys=>(x::y)::ys
def AE (args:List Value) (h:Heap):Option (Value×fa) :=
 match args with
 | [.string s,.string ⟨⟨[c]⟩⟩]=>cond (Nat.blt s.size 1000000&&U' (cellAt h ⟨3,0,none⟩))
   (some (.slice (some ⟨h.n,0,none⟩) (aZ c s.data.toList).length (aZ c s.data.toList).length,.cells ((aZ c s.data.toList).map fun l=>.string ⟨l.toArray⟩) 9 true)) none
 | _=>none
def LV (args:List Value) (_:Heap):Option Value :=
 match args with
 | [.string s,.string p]=>some (.bool (Lib.hasPrefix s.data.toList p.data.toList))
 | _=>none
def isIf (o:Option Value):Bool:=match o with
 | some (.iface _ _)=>true
 | _=>false
def hJ (h:Heap):Bool:=isIf (cellAt h ⟨4,0,none⟩)&&isIf (cellAt h ⟨5,0,none⟩)
def Dm (h:Heap):Value:=.iface 191 (.pointer (some ⟨h.n,0,none⟩))
def tU (args:List Value) (h:Heap):Option (Value×Bool) :=
 match args with
 | [.string s]=>cond (Nat.ble s.size 1000000&&hJ h) (some (match Lib.atoiAll s.data.toList with
   | .ok n=>(.tuple ⟨[.int .i64 n,.nilIface]⟩,false)
   | .range=>(.tuple ⟨[.int .i64 (Lib.atoiSat s.data.toList),Dm h]⟩,true)
   | _=>(.tuple ⟨[.int .i64 0,Dm h]⟩,true))) none
 | _=>none
def toErrG (args:List Value) (h:Heap):Option (Value×Bool) :=
 match args with
 | [.string _,.string s,.int .i64 _,.int .i64 _,.iface 188 (.int .i64 n)]=>cond (Nat.ble s.size 1000000&&hJ h&&(decide (n=1) || decide (n=2))) (some (Dm h,true)) none
 | _=>none
def Te (args:List Value) (_:Heap):Option Value :=
 match args with
 | [.int .u64 x]=>cond (decide (0≤x)&&decide (x≤18446744073709551615)) (some (.int .i64 (Lib.bitLen x.toNat))) none
 | _=>none
def AX (args:List Value) (_:Heap):Option Value :=
 match args with
 | [.int .i64 x]=>cond (decide (0≤x)&&decide (x<100)) (some (.string ⟨(Lib.decDigits x.toNat).toArray⟩)) none
 | _=>none
def LR:List (List UInt8):=["ps","ring","gs","contexts","domains","nodes","slots","refills","audit","slice","cpu","period","budget","each"].map fun s=>s.toUTF8.data.toList
def iH:List Value:=[.string ⟨⟨[112,115]⟩⟩,.string ⟨⟨[114,105,110,103]⟩⟩,.string ⟨⟨[103,115]⟩⟩,.string ⟨⟨[99,111,110,116,101,120,116,115]⟩⟩,.string ⟨⟨[100,111,109,97,105,110,115]⟩⟩,.string ⟨⟨[110,111,100,101,115]⟩⟩,.string ⟨⟨[115,108,111,116,115]⟩⟩,.string ⟨⟨[114,101,102,105,108,108,115]⟩⟩,.string ⟨⟨[97,117,100,105,116]⟩⟩,.string ⟨⟨[115,108,105,99,101]⟩⟩,.string ⟨⟨[99,112,117]⟩⟩,.string ⟨⟨[112,101,114,105,111,100]⟩⟩,.string ⟨⟨[98,117,100,103,101,116]⟩⟩,.string ⟨⟨[101,97,99,104]⟩⟩]
noncomputable def VM:fU:=iP 94 Bj H4
noncomputable def WN:fU:=xo 40 AE VM
noncomputable def M0:fU:=iP 41 LV WN
noncomputable def Wa:fU:=oQ 76 tU M0
noncomputable def KJ:fU:=oQ 106 toErrG Wa
noncomputable def Ju:fU:=rJ bz 28 iH 9 KJ
noncomputable def Ok:fU:=iP 108 C9 Ju
noncomputable def JW:fU:=iP 149 Te Ok
noncomputable def Di:fU:=iP 122 AX JW
theorem ok6:cf Tryz.prog (bP Tryz.prog 6 VM):=by obtain⟨c,hc⟩:=Option.isSome_iff_exists.1 VQ;exact CL (RC ok5 (by decide)) mixed (yX Tryz.prog 0 Za mixed) Sv rfl Tryz.func94 hc (dI cP)
theorem lT (c:UInt8) (l:List UInt8):aZ c l≠[]:=by
 cases l with
 | nil=>simp[aZ]
 | cons x l => unfold aZ;split;· simp
               split<;>simp
theorem BC {c:UInt8}:∀ {l:List UInt8},Lib.indexByte l c = -1→aZ c l=[l]
 | [],_=>rfl
 | x::l,h=>by
   unfold Lib.indexByte at h;have h0:=Lib.indexByte_ge l c;by_cases hx:x=c;· subst hx;simp at h
   · have hxb:(x==c)=false:=by simp[hx]
     rw[hxb]at h;by_cases h1:Lib.indexByte l c = -1;· rw[aZ,if_neg hx,BC h1]
     · have h1b:(Lib.indexByte l c==-1)=false:=by simp[h1]
       rw[h1b]at h;simp at h;omega
theorem Ge {c:UInt8}:∀ {l:List UInt8}{i:Nat},Lib.indexByte l c=i→aZ c l=l.take i::aZ c (l.drop (i+1))
 | [],i,h=>by simp only[Lib.indexByte]at h;omega
 | x::l,i,h=>by
   unfold Lib.indexByte at h;have h0:=Lib.indexByte_ge l c;by_cases hx:x=c
   · subst hx;simp at h;have:i=0:=by omega
     subst this;rw[aZ,if_pos rfl];simp
   · have hxb:(x==c)=false:=by simp[hx]
     rw[hxb]at h;by_cases h1:Lib.indexByte l c = -1;· rw[h1]at h;simp at h
     · have h1b:(Lib.indexByte l c==-1)=false:=by simp[h1]
       rw[h1b]at h;simp at h;obtain⟨j,rfl⟩:∃ j,i=j+1:=⟨i-1,by omega⟩;rw[aZ,if_neg hx,Ge (i:=j) (by omega)];rfl
theorem EE (c:UInt8):∀ (k:Nat) (s:ByteArray),s.size≤k→Lib.splitB ⟨⟨[c]⟩⟩ 0 (Lib.countB s ⟨⟨[c]⟩⟩) s=(aZ c s.data.toList).map (fun l=>⟨l.toArray⟩)∧Lib.countB s ⟨⟨[c]⟩⟩+1=(aZ c s.data.toList).length:=by
 intro k;induction k with
 | zero =>
   intro s hs
   have hl:s.data.toList=[]:=by rw[Lib.size_eq]at hs;exact List.length_eq_zero_iff.1 (by omega)
   have hi:Lib.indexB s ⟨⟨[c]⟩⟩ = -1:=by unfold Lib.indexB;rw[hl];rfl
   rw[Lib.countB_miss s _ hi,Lib.splitB_zero,hl]
   obtain⟨⟨sl⟩⟩:=s
   simp only at hl
   subst hl
   exact⟨rfl,rfl⟩
 | succ k ih =>
   intro s hs
   have hone:Lib.indexB s ⟨⟨[c]⟩⟩=Lib.indexByte s.data.toList c:=Lib.index_one _ _
   rcases Lib.indexB_cases s ⟨⟨[c]⟩⟩ with hix|⟨i,hix,hroom⟩
   · rw[Lib.countB_miss s _ hix,Lib.splitB_zero,BC (by rw[← hone];exact hix)];obtain⟨⟨sl⟩⟩:=s;exact⟨rfl,rfl⟩
   · have h1:(1:Nat)≤(⟨⟨[c]⟩⟩:ByteArray).size:=Nat.le_refl 1;have hsz:(⟨⟨[c]⟩⟩:ByteArray).size=1:=rfl;rw[hsz]at hroom;have hdl:(s.extract (i+1) s.size).data.toList=s.data.toList.drop (i+1):=Lib.extract_to_end s (i+1);have hds:(s.extract (i+1) s.size).size=s.size-(i+1):=by rw[Lib.size_eq,hdl,List.length_drop,← Lib.size_eq]
     obtain⟨h2,h3⟩:=ih (s.extract (i+1) s.size) (by omega);have hc:=Lib.countB_hit s ⟨⟨[c]⟩⟩ i h1 hix;rw[hsz]at hc;have hh:=Ge (c:=c) (l:=s.data.toList) (i:=i) (by rw[← hone];exact hix);rw[hdl]at h2 h3;refine⟨?_,?_⟩
     · rw[hc,Nat.add_comm,Lib.splitB];have hb:(Lib.indexB s ⟨⟨[c]⟩⟩==-1)=false:=by rw[hix];simp
       rw[hb,hix];simp only[Int.toNat_natCast,Nat.add_zero,hsz,Bool.false_eq_true,if_false];rw[h2,hh,List.map_cons];congr 1;obtain⟨⟨sl⟩⟩:=s;rw[oK];rfl
     · rw[hc,hh,List.length_cons,← h3];omega
theorem cell_of {ρ:Ren}{h:Heap}{w:World}{g:Nat}{v:Value}(hr:HR Tryz.prog ρ h w) (hg:∀ i,i<6→∃ c,ρ i=some (i,c)) (h6:g<6) (hv:cellAt h ⟨g,0,none⟩=some v):∃ v',w.cell? ⟨g,0,none⟩=some v'∧VR ρ v v':=by
 obtain⟨c,hc⟩:=hg g h6;have hl:ax h ⟨g,0,none⟩ 1=some [v]:=by
  unfold cellAt at hv;split at hv;·rename_i v e;cases hv;exact e
  ·cases hv
 obtain⟨l',hvl,hll,hcell⟩:=gh hr hc hl;obtain⟨v',ev,r⟩:=hvl.get 0 _ rfl;have:=hcell 0 _ ev;rw[Addr.add_lit]at this;exact⟨v',this,r⟩
theorem uv {ρ:Ren}{h:Heap}{w:World}{g:Nat}(hr:HR Tryz.prog ρ h w) (hg:∀ i,i<6→∃ c,ρ i=some (i,c)) (h6:g<6) (hv:isIf (cellAt h ⟨g,0,none⟩)=true):∃ ev,w.cell? ⟨g,0,none⟩=some ev∧∃ te pe,ev=.iface te pe:=by
 unfold isIf at hv;split at hv;·rename_i t v e;obtain⟨v',e1,r⟩:=cell_of hr hg h6 e;cases r;exact⟨_,e1,_,_,rfl⟩
 ·cases hv
theorem We {ρ:Ren}{h:Heap}{w:World}{g:Nat}(hr:HR Tryz.prog ρ h w) (hg:∀ i,i<6→∃ c,ρ i=some (i,c)) (h6:g<6) (hv:U' (cellAt h ⟨g,0,none⟩)=true):∃ m,w.cell? ⟨g,0,none⟩=some (.int .i64 m):=by
 unfold U' at hv;split at hv;·rename_i v e;obtain⟨v',e1,r⟩:=cell_of hr hg h6 e;cases r;exact⟨_,e1⟩
 ·cases hv
theorem AA {ρ:Ren}{h:Heap}{N:Nat}:VR (ρ.tK h.n (N,0)) (Dm h) (.iface 191 (.pointer (some ⟨N,0,none⟩))):=.iface _ _ _ (.ptr (c:=0) _ (Ren.bh _ _ _))
theorem Rr {ρ:Ren}{s:ByteArray}{args':Array Value}(ra:dp ρ [.string s] args'.toList):args'=#[.string s]:=by
 obtain⟨l⟩:=args';simp only at ra;cases ra with
 | cons r1 t=>cases r1;cases t;rfl
theorem Hm {ρ:Ren}{s p:ByteArray}{args':Array Value}(ra:dp ρ [.string s,.string p] args'.toList):args'=#[.string s,.string p]:=by
 obtain⟨l⟩:=args';simp only at ra;cases ra with
 | cons r1 t=>cases r1;cases t with
   | cons r2 t=>cases r2;cases t;rfl
theorem Wc:Tryz.f40.body.isSome=true:=by kernel_rfl
theorem VW:Tryz.f41.body.isSome=true:=by kernel_rfl
theorem VB:Tryz.f76.body.isSome=true:=by kernel_rfl
theorem Sr:Tryz.f106.body.isSome=true:=by kernel_rfl
theorem Vk:Tryz.f28.body.isSome=true:=by kernel_rfl
theorem Tj:Tryz.f108.body.isSome=true:=by kernel_rfl
theorem Ta:Tryz.f149.body.isSome=true:=by kernel_rfl
theorem S9:Tryz.f122.body.isSome=true:=by kernel_rfl
theorem ok7:cf Tryz.prog (bP Tryz.prog 6 WN):=by
 obtain⟨c,hc⟩:=Option.isSome_iff_exists.1 Wc;refine I4 ok6 Tryz.func40 hc (dI cP) fun args h v bk e ρ w args' hr hg ra=>?_;unfold AE at e;split at e
 · rename_i s c;rw[Hm ra];cases hck:(Nat.blt s.size 1000000&&U' (cellAt h ⟨3,0,none⟩)) with
   | false=>rw[hck]at e;cases e
   | true =>rw[hck]at e;simp only[cond_true,Option.some.injEq,Prod.mk.injEq]at e;obtain⟨rfl,rfl⟩:=e;simp only[Bool.and_eq_true,blt_eq,decide_eq_true_eq]at hck;obtain⟨hs,h3⟩:=hck;obtain⟨m,hm⟩:=We hr hg (by decide) h3;obtain⟨e1,e2⟩:=EE c s.size s (Nat.le_refl _);have hle:=Lib.countB_le ⟨⟨[c]⟩⟩ (Nat.le_refl 1) s.size s (Nat.le_refl _);refine(Tryz.strings_Split s ⟨⟨[c]⟩⟩ m w (by omega) hm (Nat.le_refl 1)).mono fun e w' hh=>?_;obtain⟨rfl,rfl⟩:=hh;rw[e1,e2];refine⟨_,_,rfl,rfl,.slice _ _ _ (Ren.bh _ _ _) (by rw[← e2];unfold cY;omega),.cells _ _ _ _ (fun i v ev=>?_) (by simp)⟩;rw[List.getElem?_map,Option.map_eq_some_iff]at ev;obtain⟨x,hx,rfl⟩:=ev;exact⟨.string ⟨x.toArray⟩,by simp[hx],.string _⟩
 · cases e
theorem ok8:cf Tryz.prog (bP Tryz.prog 6 M0):=by
 obtain⟨c,hc⟩:=Option.isSome_iff_exists.1 VW;refine gQ ok7 Tryz.func41 hc (dI cP) fun args h v e ρ w args' hr hg ra=>?_;unfold LV at e;split at e;·rename_i s c;simp only[Option.some.injEq]at e;subst e;rw[Hm ra];exact(Tryz.strings_HasPrefix s c w).mono fun e w' ⟨h1,h2⟩=>⟨_,h1,.bool _,by rw[h2];exact Below.refl _ _⟩
 ·cases e
theorem ok9:cf Tryz.prog (bP Tryz.prog 6 Wa):=by
 obtain⟨c,hc⟩:=Option.isSome_iff_exists.1 VB;refine vz ok8 Tryz.func76 hc (dI cP) fun args h v b e ρ w args' hr hg ra=>?_;unfold tU at e;split at e
 · rename_i s;rw[Rr ra];cases hck:(Nat.ble s.size 1000000&&hJ h) with
   | false=>rw[hck]at e;cases e
   | true =>
     rw[hck]at e;unfold hJ at hck;simp only[Bool.and_eq_true,ble_eq,decide_eq_true_eq]at hck;obtain⟨hs,h4,h5⟩:=hck;obtain⟨e4,c4,i4⟩:=uv hr hg (by decide) h4;obtain⟨e5,c5,i5⟩:=uv hr hg (by decide) h5;cases ha:Lib.atoiAll s.data.toList with
     | ok n =>
       rw[ha]at e
       simp only[cond_true,Option.some.injEq,Prod.mk.injEq]at e
       obtain⟨rfl,rfl⟩:=e
       refine(Tryz.strconv_Atoi_ok s (by omega) n ha w).mono fun e w' ⟨h1,h2⟩=>⟨_,h1,?_,(fun hb=>by cases hb),fun _=>.tuple _ _ (.cons (.int _ _) (.cons .nilIface .nil))⟩
       rcases h2 with rfl|⟨t,rfl⟩
       · exact Below.refl _ _
       · exact Go.Lib.bytesWorld_below _ _ _
     | range =>
       rw[ha]at e
       simp only[cond_true,Option.some.injEq,Prod.mk.injEq]at e
       obtain⟨rfl,rfl⟩:=e
       exact(Tryz.strconv_Atoi_range s (by omega) ha e5 w c5 (.inr i5)).mono fun e w' ⟨N,h1,h2,h3,h4⟩ =>
         ⟨_,h1,h4,fun _=>⟨N,_,h2,h3,.tuple _ _ (.cons (.int _ _) (.cons AA .nil))⟩,fun hb=>by cases hb⟩
     | _ =>
       rw[ha]at e
       simp only[cond_true,Option.some.injEq,Prod.mk.injEq]at e
       obtain⟨rfl,rfl⟩:=e
       exact(Tryz.strconv_Atoi_syntax s (by omega) ha e4 w c4 (.inr i4)).mono fun e w' ⟨N,h1,h2,h3,h4⟩ =>
         ⟨_,h1,h4,fun _=>⟨N,_,h2,h3,.tuple _ _ (.cons (.int _ _) (.cons AA .nil))⟩,fun hb=>by cases hb⟩
 · cases e
theorem ok10:cf Tryz.prog (bP Tryz.prog 6 KJ):=by
 obtain⟨c,hc⟩:=Option.isSome_iff_exists.1 Sr;refine vz ok9 Tryz.func106 hc (dI cP) fun args h v b e ρ w args' hr hg ra=>?_;unfold toErrG at e;split at e
 · rename_i fn s k1 k2 n;have hargs:args'=#[.string fn,.string s,.int .i64 k1,.int .i64 k2,.iface 188 (.int .i64 n)]:=by
     obtain⟨l⟩:=args';simp only at ra;cases ra with
     | cons r1 t =>
       cases r1
       cases t with
       | cons r2 t =>
         cases r2
         cases t with
         | cons r3 t =>
           cases r3
           cases t with
           | cons r4 t =>
             cases r4
             cases t with
             | cons r5 t =>
               cases t
               cases r5 with
               | iface _ _ _ r=>cases r;rfl
   subst hargs;cases hck:(Nat.ble s.size 1000000&&hJ h&&(decide (n=1) || decide (n=2))) with
   | false=>rw[hck]at e;cases e
   | true =>
     rw[hck]at e
     unfold hJ at hck
     simp only[Bool.and_eq_true,Bool.or_eq_true,ble_eq,decide_eq_true_eq]at hck
     obtain⟨⟨hs,h4,h5⟩,hn⟩:=hck
     obtain⟨e4,c4,i4⟩:=uv hr hg (by decide) h4
     obtain⟨e5,c5,i5⟩:=uv hr hg (by decide) h5
     simp only[cond_true,Option.some.injEq,Prod.mk.injEq]at e
     obtain⟨rfl,rfl⟩:=e
     rcases hn with rfl|rfl
     · exact(Tryz.strconv_toError_range fn s k1 k2 e5 w (by omega) c5 (.inr i5)).mono fun e w' ⟨N,h1,h2,h3,h4⟩ =>
         ⟨_,h1,h4,fun _=>⟨N,_,h2,h3,AA⟩,fun hb=>by cases hb⟩
     · exact(Tryz.strconv_toError_syntax fn s k1 k2 e4 w (by omega) c4 (.inr i4)).mono fun e w' ⟨N,h1,h2,h3,h4⟩ =>
         ⟨_,h1,h4,fun _=>⟨N,_,h2,h3,AA⟩,fun hb=>by cases hb⟩
 · cases e
def VN (cs:List Value) (xs:List (List UInt8)):Bool:=match strs cs with
 | some l=>decide (l.map (·.data.toList)=xs)
 | none=>false
theorem Gv {cs:List Value}{xs:List (List UInt8)}(h:VN cs xs=true):cs=xs.map fun l=>.string ⟨l.toArray⟩:=by
 unfold VN at h;split at h;·rename_i l hl;rw[vX hl,← of_decide_eq_true h,List.map_map];rfl
 ·cases h
def XH (r:Option (Value×Heap)):Bool:=match r with
 | some (.slice (some ⟨b,0,none⟩) n c,h')=>Nat.beq n 14&&Nat.beq c 14&&Nat.ble 3 b&&match h'.b.get b with
   | some (.cells cs 9 true)=>VN cs LR
   | _=>false
 | _=>false
theorem H_:XH (dj P4 60 (.func 28) [] (po bz 3))=true:=by kernel_rfl
theorem I3:iH=LR.map fun l=>.string ⟨l.toArray⟩:=Gv (by decide +kernel)
theorem BJ (w:World) (ht:uY bz 3 w):Calls Tryz.prog 28 #[] w fun e w'=>∃ N,e=.returned (.slice (some ⟨N,0,none⟩) iH.length iH.length)∧w.heap.size≤N∧w'.heap[N]?=some (.cells iH.toArray 9 (0,0))∧Below w.heap.size w w':=by
 have h:=H_;unfold XH at h;split at h
 ·rename_i b n c h' e;simp only[Bool.and_eq_true,Nat.beq_eq,ble_eq,decide_eq_true_eq]at h;obtain⟨⟨⟨rfl,rfl⟩,hb⟩,h⟩:=h;split at h;·rename_i cs hcs;have:=Gv h;rw[← I3]at this;subst this;exact D_ (E:=P4) Hi ok5 (dI cP) ko rfl rfl (by decide) e hcs hb w ht
  ·cases h
 ·cases h
theorem Yc {w:World}(h:uY bz 6 w):uY bz 3 w:=by refine⟨by have:=h.1;omega,fun p hp=>⟨?_,(h.2 p hp).2⟩⟩;simp only[bz,List.mem_cons,List.not_mem_nil,or_false]at hp;rcases hp with rfl|rfl<;>decide
theorem ok11:cf Tryz.prog (bP Tryz.prog 6 Ju):=by obtain⟨c,hc⟩:=Option.isSome_iff_exists.1 Vk;exact EU ok10 rfl ko rfl (by decide) Tryz.func28 hc (dI cP) fun w ht=>BJ w (Yc ht)
theorem ok12:cf Tryz.prog (bP Tryz.prog 6 Ok):=by
 obtain⟨c,hc⟩:=Option.isSome_iff_exists.1 Tj;refine gQ ok11 Tryz.func108 hc (dI cP) fun args h v e ρ w args' hr hg ra=>?_;unfold C9 at e;split at e
 · rename_i s c;simp only[Option.some.injEq]at e;subst e;obtain⟨l⟩:=args';simp only at ra;cases ra with
   | cons r1 t=>cases r1;cases t with
     | cons r2 t=>cases r2;cases t;exact(Tryz.strings_IndexByte s c w).mono fun e w' ⟨h1,h2⟩=>⟨_,h1,.int _ _,by rw[h2];exact Below.refl _ _⟩
 · cases e
theorem Hk {ρ:Ren}{k:IntKind}{n:Int}{args':Array Value}(ra:dp ρ [.int k n] args'.toList):args'=#[.int k n]:=by
 obtain⟨l⟩:=args';simp only at ra;cases ra with
 | cons r1 t=>cases r1;cases t;rfl
theorem ok13:cf Tryz.prog (bP Tryz.prog 6 JW):=by
 obtain⟨c,hc⟩:=Option.isSome_iff_exists.1 Ta;refine gQ ok12 Tryz.func149 hc (dI cP) fun args h v e ρ w args' hr hg ra=>?_;unfold Te at e;split at e
 ·rename_i x;rw[Hk ra];by_cases hx:0≤x∧x≤18446744073709551615;·simp only[hx.1,hx.2,decide_true,Bool.and_self,cond_true,Option.some.injEq]at e;subst e;exact(Tryz.bits_Len64 x w hx.1 hx.2).mono fun e w' ⟨h1,h2⟩=>⟨_,h1,.int _ _,by rw[h2];exact Below.refl _ _⟩
  ·have:(decide (0≤x)&&decide (x≤18446744073709551615))=false:=by simp only[Bool.and_eq_false_iff,decide_eq_false_iff_not];omega
   rw[this]at e;cases e
 ·cases e
theorem ok14:cf Tryz.prog (bP Tryz.prog 6 Di):=by
 obtain⟨c,hc⟩:=Option.isSome_iff_exists.1 S9;refine gQ ok13 Tryz.func122 hc (dI cP) fun args h v e ρ w args' hr hg ra=>?_;unfold AX at e;split at e
 ·rename_i x;rw[Hk ra];by_cases hx:0≤x∧x<100;·obtain⟨i,rfl⟩:=Int.eq_ofNat_of_zero_le hx.1;simp only[hx.1,hx.2,decide_true,Bool.and_self,cond_true,Option.some.injEq,Int.toNat_natCast]at e;subst e;exact(Tryz.internal_strconv_small i (by omega) w).mono fun e w' ⟨h1,h2⟩=>⟨_,h1,.string _,by rw[h2];exact Below.refl _ _⟩
  ·have:(decide (0≤x)&&decide (x<100))=false:=by simp only[Bool.and_eq_false_iff,decide_eq_false_iff_not];omega
   rw[this]at e;cases e
 ·cases e
def VC (t:TypeId):Bool:=Nat.beq t 62 || Nat.beq t 148
end Go.Proofs.YtohjaacnlmkhbaaGreatDoor
namespace Go.Proofs.YtohjaacnlmkhbaaGreatDoor.Qq
open Go.Ev
set_option maxRecDepth 100000
noncomputable def env:Env:=Ii
section
variable {fr:Fr}{h:Heap}{K:Value→Heap→Prop}{x y z:Operand}{ps:List (Nat×Operand)}
theorem XI:∀ {f:FuncId}{xs:List Operand}{ts:Array TypeId},bY env (.call ⟨.value (.func f),⟨xs⟩,ts⟩) fr h K=lE env fr xs fun us=>bT env (.func f) us h K:=v_ rfl
theorem Of:bY env (.fieldAddr 125 x 2) fr h K=bM env fr x fun v=>yy 2 v fun u=>K u h:=lI (by kernel_rfl)
theorem ld_5:bY env (.load 5 x) fr h K=bM env fr x fun v=>Dk h v fun u=>K u h:=xZ (by kernel_rfl)
theorem Fq:bY env (.convert 5 3 x) fr h K=bM env fr x fun v=>jV .i64 v fun u=>K u h:=fo (k':=.u8) (by kernel_rfl) (by kernel_rfl)
theorem LH:bY env (.fieldAddr 125 x 3) fr h K=bM env fr x fun v=>yy 3 v fun u=>K u h:=lI (by kernel_rfl)
theorem VO:bY env (.load 125 x) fr h K=bM env fr x fun v=>C1 h 4 v fun u=>K u h:=x9 (by kernel_rfl)
theorem CQ:∀ {xs:List Operand}{ts:Array TypeId},bY env (.call ⟨.value (.func 96),⟨xs⟩,ts⟩) fr h K=lE env fr xs fun us=>bT env (.func 96) us h K:=v_ rfl
theorem MK:bY env (.convert 3 181 x) fr h K=bM env fr x fun v=>jV .i16 v fun u=>K u h:=fo (k':=.i64) (by kernel_rfl) (by kernel_rfl)
theorem Jw:bY env (.convert 181 3 x) fr h K=bM env fr x fun v=>jV .i64 v fun u=>K u h:=fo (k':=.i16) (by kernel_rfl) (by kernel_rfl)
end
def NH:List GO:=[⟨none,some 3,.fieldAddr 125 (.tmp 1) 2⟩,
 ⟨none,some 4,.load 5 (.tmp 3)⟩,
 ⟨none,some 5,.convert 5 3 (.tmp 4)⟩,
 ⟨none,some 6,.binOp .shl 3 (.tmp 5) (.const (.int .u64 8)) 149⟩,
 ⟨none,some 7,.fieldAddr 125 (.tmp 1) 3⟩,
 ⟨none,some 8,.load 5 (.tmp 7)⟩,
 ⟨none,some 9,.convert 5 3 (.tmp 8)⟩,
 ⟨none,some 10,.binOp .or 3 (.tmp 6) (.tmp 9) 3⟩,
 ⟨none,some 2,.assign (.tmp 10)⟩]
theorem SL {E:Env}{fr:Fr}{h:Heap}{Q:Fr→Heap→Prop}:fm E NH fr h Q=fm E [⟨none,some 3,.fieldAddr 125 (.tmp 1) 2⟩,
 ⟨none,some 4,.load 5 (.tmp 3)⟩,
 ⟨none,some 5,.convert 5 3 (.tmp 4)⟩,
 ⟨none,some 6,.binOp .shl 3 (.tmp 5) (.const (.int .u64 8)) 149⟩,
 ⟨none,some 7,.fieldAddr 125 (.tmp 1) 3⟩,
 ⟨none,some 8,.load 5 (.tmp 7)⟩,
 ⟨none,some 9,.convert 5 3 (.tmp 8)⟩,
 ⟨none,some 10,.binOp .or 3 (.tmp 6) (.tmp 9) 3⟩,
 ⟨none,some 2,.assign (.tmp 10)⟩] fr h Q:=Eq.trans rfl rfl
def Qv:GC:=.seq (.ops NH) .ret
theorem RE {E:Env}{nt:Nat}{rd:Option Nat}{fr:Fr}{h:Heap}{Q:Ex→Fr→Heap→Prop}:Qv.wp E nt rd fr h Q=(GC.seq (.ops NH) .ret).wp E nt rd fr h Q:=Eq.trans rfl rfl
def Qh:List GO:=[⟨none,some 1,.box 125 (.tmp 0)⟩,
 ⟨none,some 2,.assign (.const (.int .i64 0))⟩]
theorem SK {E:Env}{fr:Fr}{h:Heap}{Q:Fr→Heap→Prop}:fm E Qh fr h Q=fm E [⟨none,some 1,.box 125 (.tmp 0)⟩,
 ⟨none,some 2,.assign (.const (.int .i64 0))⟩] fr h Q:=Eq.trans rfl rfl
def Pu:GC:=.seq (.ops Qh) Qv
theorem Rf {E:Env}{nt:Nat}{rd:Option Nat}{fr:Fr}{h:Heap}{Q:Ex→Fr→Heap→Prop}:Pu.wp E nt rd fr h Q=(GC.seq (.ops Qh) Qv).wp E nt rd fr h Q:=Eq.trans rfl rfl
theorem c96:Tryz.f96.body.bind (clean env 11)=some Pu:=by kernel_rfl
theorem e96:env.nK.get 96=some Tryz.f96:=by kernel_rfl
theorem F96 {args:List Value}{h:Heap}{K:Value→Heap→Prop}(hl:args.length=1) (w:Pu.wp env 11 none (iE args 0 .leaf) h (eY env [.tmp 2] K)):bT env (.func 96) args h K :=
 bT.u_ rfl e96 c96 rfl rfl (by rw[hl];decide) w
def NL:List GO:=[⟨none,some 3,.load 125 (.tmp 1)⟩,
 ⟨none,some 4,.call ⟨.value (.func 96),⟨[.tmp 3]⟩,⟨[125]⟩⟩⟩,
 ⟨none,some 5,.convert 3 181 (.tmp 4)⟩,
 ⟨none,some 6,.convert 181 3 (.tmp 5)⟩,
 ⟨none,some 2,.assign (.tmp 6)⟩]
theorem S1 {E:Env}{fr:Fr}{h:Heap}{Q:Fr→Heap→Prop}:fm E NL fr h Q=fm E [⟨none,some 3,.load 125 (.tmp 1)⟩,
 ⟨none,some 4,.call ⟨.value (.func 96),⟨[.tmp 3]⟩,⟨[125]⟩⟩⟩,
 ⟨none,some 5,.convert 3 181 (.tmp 4)⟩,
 ⟨none,some 6,.convert 181 3 (.tmp 5)⟩,
 ⟨none,some 2,.assign (.tmp 6)⟩] fr h Q:=Eq.trans rfl rfl
def MY:GC:=.seq (.ops NL) .ret
theorem Rh {E:Env}{nt:Nat}{rd:Option Nat}{fr:Fr}{h:Heap}{Q:Ex→Fr→Heap→Prop}:MY.wp E nt rd fr h Q=(GC.seq (.ops NL) .ret).wp E nt rd fr h Q:=Eq.trans rfl rfl
def KZ:List GO:=[⟨none,some 1,.box 125 (.tmp 0)⟩,
 ⟨none,some 2,.assign (.const (.int .i64 0))⟩]
theorem Ru {E:Env}{fr:Fr}{h:Heap}{Q:Fr→Heap→Prop}:fm E KZ fr h Q=fm E [⟨none,some 1,.box 125 (.tmp 0)⟩,
 ⟨none,some 2,.assign (.const (.int .i64 0))⟩] fr h Q:=Eq.trans rfl rfl
def NV:GC:=.seq (.ops KZ) MY
theorem Sj {E:Env}{nt:Nat}{rd:Option Nat}{fr:Fr}{h:Heap}{Q:Ex→Fr→Heap→Prop}:NV.wp E nt rd fr h Q=(GC.seq (.ops KZ) MY).wp E nt rd fr h Q:=Eq.trans rfl rfl
theorem c97:Tryz.f97.body.bind (clean env 7)=some NV:=by kernel_rfl
theorem Ib:env.nK.get 97=some Tryz.f97:=by kernel_rfl
theorem F97 {args:List Value}{h:Heap}{K:Value→Heap→Prop}(hl:args.length=1) (w:NV.wp env 7 none (iE args 0 .leaf) h (eY env [.tmp 2] K)):bT env (.func 97) args h K :=
 bT.u_ rfl Ib c97 rfl rfl (by rw[hl];decide) w
end Go.Proofs.YtohjaacnlmkhbaaGreatDoor.Qq
