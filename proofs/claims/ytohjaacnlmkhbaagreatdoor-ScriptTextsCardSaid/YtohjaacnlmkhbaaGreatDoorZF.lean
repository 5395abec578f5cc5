/- THE EVALUATOR: a deterministic reading of the program's code over an abstract heap, and that the model does what it says (6). Conditions: none beyond each theorem's own. -/
import Derived.Test.YtohjaacnlmkhbaaGreatDoorZE
import Derived.Shelf.Strconv.Itoa2
import Derived.Lib.ItoaNum
import Derived.Lib.ItoaMem
import Derived.Lib.SplitLaws
import Derived.Lib.IndexBytes
import Derived.Lib.CountLaws
import Derived.Laws.RangeString
set_option linter.unusedSimpArgs false
set_option linter.unusedVariables false
namespace Go.Ev
open Go.RowKit
section
variable {P:Program}
def extLib (k:FuncId) (g:List Value→Heap→Option Value) (base:ExtT) (f:FuncId) (args:List Value) (h:Heap):Option (Option (Value×Heap)) :=
 cond (Nat.beq f k) (some ((g args h).map (·,h))) (base f args h)
theorem extLib_ok {ng k:Nat}{g:List Value→Heap→Option Value}{base:ExtT}(h0:ExtOK P (envOf P ng base)) {fn:Func}{c:Code}(hf:P.funcs[k]?=some fn) (hb:fn.body=some c) (hn:NamesOK P)
  (hk:∀ args h v,g args h=some v→∀ (ρ:Ren) (w:World) (args':Array Value),HR P ρ h w→(∀ i,i<ng→∃ c,ρ i=some (i,c))→VRL ρ args args'.toList →
   Calls P k args' w fun e w'=>∃ v',e=.returned v'∧VR ρ v v'∧Below w.heap.size w w'):ExtOK P (envOf P ng (extLib k g base)):=by
 intro f args h v h' e ρ w args' hr hg ra
 simp only[envOf,extLib,cond_beq]at e
 by_cases hfk:f=k
 ·subst hfk
  rw[if_pos rfl]at e
  simp only[Option.some.injEq,Option.map_eq_some_iff,Prod.mk.injEq]at e
  obtain⟨u,e,rfl,rfl⟩:=e
  refine .inr (.inl ⟨f,args',run_callFunc hf hn hb args' w,(hk args _ _ e ρ w args' hr (fun i hi=>hg i hi) ra).mono fun e w' hh=>?_⟩)
  obtain⟨v',rfl,r,hbl⟩:=hh
  exact⟨v',ρ,rfl,r,Stp.of_below hr hbl⟩
 ·rw[if_neg hfk]at e
  exact h0 f args h v h' e ρ w args' hr hg ra
theorem extLib_ret {E:Env}{k:FuncId}{g:List Value→Heap→Option Value}{base:ExtT}{args:List Value}{h:Heap}{K:Value→Heap→Prop}{v:Value}(he:E.ext k args h=extLib k g base k args h) (hg:g args h=some v) (q:K v h):Ret E (.func k) args h K:=by
 refine Ret.ext (v:=v) ?_ q
 rw[he]
 simp only[extLib,Nat.beq_refl,cond_true,hg,Option.map_some]
def digs (u n:Nat):List Value:=(List.range n).map fun t=>.int .u8 ((Lib.dg u (n-1-t)).toNat:Int)
theorem digs_len (u n:Nat):(digs u n).length=n:=by simp[digs]
def isByte:Value→Bool
 | .int .u8 n=>decide (0≤n)&&decide (n<256)
 | _=>false
def fmtOk (cs:List Value) (off n:Nat) (u:Int):Bool:=decide (off+n≤cs.length)&&((cs.drop off).take n).all isByte&&decide (0≤u)&&decide (u.toNat<10 ^ n)&&decide (u<18446744073709551616)&&decide (n<100)
def fmtG (args:List Value) (h:Heap):Option (Value×Heap) :=
 match args with
 | [.slice (some ⟨i,off,none⟩) n cap,.int .u64 u] =>
   match h.b.get i with
   | some (.cells cs e true)=>cond (Nat.blt i h.n&&Nat.blt cap UNK&&fmtOk cs off n u) (some (.tuple #[],{ h with b:=h.b.set i (.cells (cs.take off++digs u.toNat n++cs.drop (off+n)) e true) })) none
   | _=>none
 | _=>none
def extFmt (k:FuncId) (base:ExtT) (f:FuncId) (args:List Value) (h:Heap):Option (Option (Value×Heap)):=cond (Nat.beq f k) (some (fmtG args h)) (base f args h)
theorem extFmt_ret {E:Env}{k:FuncId}{base:ExtT}{i off n cap u:Nat}{cs:List Value}{e:TypeId}{h:Heap}{K:Value→Heap→Prop}(he:∀ args,E.ext k args h=extFmt k base k args h) (hb:h.b.get i=some (.cells cs e true)) (hi:i<h.n)
  (hc:cap<UNK) (h1:off+n≤cs.length) (h2:((cs.drop off).take n).all isByte=true) (h3:u<10 ^ n) (h4:u<18446744073709551616) (h5:n<100)
  (q:K (.tuple #[]) { h with b:=h.b.set i (.cells (cs.take off++digs u n++cs.drop (off+n)) e true) }):Ret E (.func k) [.slice (some ⟨i,off,none⟩) n cap,.int .u64 u] h K:=by
 refine Ret.extH (h':={ h with b:=h.b.set i (.cells (cs.take off++digs u n++cs.drop (off+n)) e true) }) ?_ q
 rw[he]
 have hh:(Nat.blt i h.n&&Nat.blt cap UNK&&fmtOk cs off n (u:Int))=true:=by
  have a0:(0:Int)≤(u:Int):=by omega
  have a4:(u:Int)<18446744073709551616:=by omega
  simp[fmtOk,blt_eq,hi,hc,h1,h2,h3,a0,a4,h5]
 simp only[extFmt,Nat.beq_refl,cond_true,fmtG,hb,hh,Int.toNat_natCast]
theorem extFmt_ok {ng k:Nat}{base:ExtT}(h0:ExtOK P (envOf P ng base)) {fn:Func}{c:Code}(hf:P.funcs[k]?=some fn) (hb:fn.body=some c) (hn:NamesOK P)
   (hk:∀ (blk off cap u:Nat) (d:Array UInt8) (w:World),Sort.Holds (fun (b:UInt8)=>Value.int .u8 (b.toNat:Int)) w blk off d→u<10 ^ d.size→u<18446744073709551616→d.size<4611686018427387904 →
     Calls P k #[.slice (some ⟨blk,off,none⟩) d.size cap,.int .u64 u] w fun e w'=>e=.returned (.tuple #[])∧∃ (n v':Nat) (dk:Array UInt8),w'=(Sort.putRow (fun (b:UInt8)=>Value.int .u8 (b.toNat:Int)) w blk off dk).drewN n∧Lib.FmtInv d.size u 0 v' dk) :
   ExtOK P (envOf P ng (extFmt k base)):=by
 intro f args h v h' e ρ w args' hr hg ra
 simp only[envOf,extFmt,cond_beq]at e
 by_cases hfk:f=k
 · subst hfk
   rw[if_pos rfl]at e
   simp only[Option.some.injEq]at e
   unfold fmtG at e
   split at e
   · rename_i i off n cap u
     split at e
     · rename_i cs el hbl
       cases hck:(Nat.blt i h.n&&Nat.blt cap UNK&&fmtOk cs off n u) with
       | false=>rw[hck]at e;simp at e
       | true =>
         rw[hck]at e
         simp only[cond_true,Option.some.injEq,Prod.mk.injEq]at e
         obtain⟨rfl,rfl⟩:=e
         simp only[Bool.and_eq_true,blt_eq,decide_eq_true_eq,fmtOk]at hck
         obtain⟨⟨hi,hcap⟩,⟨⟨⟨⟨h1,h2⟩,h3⟩,h4⟩,h5⟩,h6⟩:=hck
         obtain⟨u,rfl⟩:=Int.eq_ofNat_of_zero_le h3
         simp only[Int.toNat_natCast]at h4 ⊢
         obtain⟨l⟩:=args'
         simp only at ra
         cases ra with
         | cons r1 t =>
           cases t with
           | cons r2 t =>
             cases t
             cases r2
             have hne:cap≠UNK:=by omega
             have hne2:cap≠UNK2:=by unfold UNK2;unfold UNK at hcap;omega
             cases r1 with
             | sliceU _ _ _ _ _ _ _=>exact absurd rfl hne
             | sliceE _ _ _=>exact absurd rfl hne2
             | @slice _ b c _ _ _ hρ _ =>
               obtain⟨k0,o,e1,e2,e3⟩:=hr.blk i b c hρ
               rw[hbl]at e1
               cases e1
               cases e3 with
               | cells _ xs _ _ hc hs =>
                 simp only[if_true]at hs
                 have hbytes:∀ j,j<n→∃ z:Nat,z<256∧xs[off+j]?=some (.int .u8 (z:Int)):=by
                   intro j hj
                   have hg1:((cs.drop off).take n)[j]?=cs[off+j]?:=by rw[List.getElem?_take_of_lt hj,List.getElem?_drop]
                   have hg2:cs[off+j]?=some (cs[off+j]'(by omega)):=List.getElem?_eq_getElem _
                   have hm:=List.all_eq_true.1 h2 _ (List.mem_of_getElem? (hg1.trans hg2))
                   obtain⟨v',ev',r⟩:=hc _ _ hg2
                   generalize cs[off+j]'(by omega)=x at hm r
                   unfold isByte at hm
                   split at hm
                   · rename_i z
                     simp only[Bool.and_eq_true,decide_eq_true_eq]at hm
                     cases r
                     obtain⟨z,rfl⟩:=Int.eq_ofNat_of_zero_le hm.1
                     exact⟨z,by omega,ev'⟩
                   · cases hm
                 let byteAt:Nat→UInt8:=fun j=>match xs[off+j]? with|some (.int .u8 z)=>UInt8.ofNat z.toNat|_=>0
                 let d:Array UInt8:=((List.range n).map byteAt).toArray
                 have hds:d.size=n:=by simp[d]
                 have hH:Sort.Holds (fun (b:UInt8)=>Value.int .u8 (b.toNat:Int)) w b off d:=by
                   intro j hj
                   rw[hds]at hj
                   obtain⟨z,hz,ez⟩:=hbytes j hj
                   have hdj:d[j]! = UInt8.ofNat z:=by
                     rw[getElem!_pos d j (by rw[hds];exact hj)]
                     simp only[d,List.getElem_toArray,List.getElem_map,List.getElem_range,byteAt,ez,Int.toNat_natCast]
                   constructor
                   · rw[cell_of e2,ez,hdj]
                     have:(UInt8.ofNat z).toNat=z:=by simp;omega
                     simp only[this]
                   · simp[World.frozen?,e2]
                 have hc2:=hk b off cap u d w hH (by rw[hds];exact h4) (by omega) (by rw[hds];omega)
                 rw[hds]at hc2
                 refine .inr (.inl ⟨f,_,run_callFunc hf hn hb _ w,hc2.mono fun e w' hh=>?_⟩)
                 obtain⟨rfl,m,v',dk,rfl,hF⟩:=hh
                 have hdk:dk.size=n:=hF.size
                 refine⟨_,ρ,rfl,.tuple _ _ .nil,?_⟩
                 have hheap:(Sort.putRow (fun (b:UInt8)=>Value.int .u8 (b.toNat:Int)) w b off dk).heap=w.heap.setIfInBounds b (.cells (Sort.putCells (fun (b:UInt8)=>Value.int .u8 (b.toNat:Int)) off dk xs) el (0,0)):=by
                   unfold Sort.putRow Sort.mapBlock
                   apply Array.ext_getElem?
                   intro q
                   simp only[Array.getElem?_modify,Array.getElem?_setIfInBounds]
                   by_cases hq:b=q
                   · subst hq
                     obtain⟨hl2,e2'⟩:=Array.getElem?_eq_some_iff.1 e2
                     simp[Sort.onCells,hl2,e2']
                   · simp[hq]
                 have hlt:=(Array.getElem?_eq_some_iff.1 e2).1
                 refine Stp.write hr hρ hbl (by simp[soft]) (o':=.cells (Sort.putCells (fun (b:UInt8)=>Value.int .u8 (b.toNat:Int)) off dk xs) el (0,0)) ?_ ?_ ?_ (fun j hj=>?_) rfl rfl rfl
                 · refine .cells _ _ _ _ (fun j v hv=>?_) ?_
                   · have hover:=over_get (cs:=cs) (xs:=digs u n) (off:=off) (r:=cs.take off++digs u n++cs.drop (off+n)) (by rw[digs_len]) (by rw[digs_len];exact h1) j
                     rw[hover,digs_len]at hv
                     simp only[Sort.putCells,Array.getElem?_mapIdx,hdk]
                     by_cases a1:j<off
                     · rw[if_pos a1]at hv
                       obtain⟨v',e',r⟩:=hc j v hv
                       refine⟨v',?_,r⟩
                       rw[e'];simp[show ¬(off≤j∧j<off+n) by omega]
                     · rw[if_neg a1]at hv
                       by_cases a2:j<off+n
                       · rw[if_pos a2]at hv
                         have hj:j-off<n:=by omega
                         simp only[digs,List.getElem?_map,List.getElem?_range hj,Option.map_some,Option.some.injEq]at hv
                         subst hv
                         have hx:xs[j]?=some (xs[j]'(by omega)):=Array.getElem?_eq_getElem _
                         refine⟨_,by rw[hx];simp only[Option.map_some,show (off≤j∧j<off+n) from ⟨by omega,a2⟩,if_true];rfl,?_⟩
                         rw[hF.done (j-off) (Nat.zero_le _) hj]
                         exact .int _ _
                       · rw[if_neg a2]at hv
                         obtain⟨v',e',r⟩:=hc j v hv
                         refine⟨v',?_,r⟩
                         rw[e'];simp[show ¬(off≤j∧j<off+n) by omega]
                   · simp only[if_true,Sort.putCells,Array.size_mapIdx]
                     rw[hs];simp[digs_len];omega
                 · show (Sort.putRow _ w b off dk).heap.size=_
                   rw[hheap];simp
                 · show (Sort.putRow _ w b off dk).heap[b]?=_
                   rw[hheap];simp[hlt]
                 · show (Sort.putRow _ w b off dk).heap[j]?=_
                   rw[hheap,Array.getElem?_setIfInBounds,if_neg (Ne.symm hj)]
     · cases e
   · cases e
 · rw[if_neg hfk]at e
   exact h0 f args h v h' e ρ w args' hr hg ra
end
open Go.RowKit
section
variable {P:Program}
def strs:List Value→Option (List ByteArray)
 | []=>some []
 | .string s::l=>(strs l).map (s::·)
 | _=>none
theorem strs_get:∀ {l:List Value}{xs:List ByteArray},strs l=some xs→l=xs.map Value.string
 | [],xs,h=>by simp only[strs,Option.some.injEq]at h;subst h;rfl
 | v::l,xs,h=>by
   cases v with
   | string s =>
     simp only[strs,Option.map_eq_some_iff]at h
     obtain⟨ys,h,rfl⟩:=h
     rw[strs_get h];rfl
   | _=>simp[strs]at h
theorem strs_map (xs:List ByteArray):strs (xs.map Value.string)=some xs:=by
 induction xs with
 | nil=>rfl
 | cons s l ih=>simp[strs,ih]
end
section
variable {E:Env}{t t':TypeId}{c:Bool}{h:Heap}
theorem bin_addS {a b:ByteArray}{K:Value→Prop}:binK E .add t c (.string a) (.string b) K=(a.size+b.size<1000000000∧K (.string (a++b))):=by
 rw[binK_of (by simp) rfl]
 by_cases hs:a.size+b.size<1000000000
 ·have:Nat.blt (a.size+b.size) 1000000000=true:=by rw[blt_eq];exact decide_eq_true hs
  simp only[abin,this,cond_true,onV_some',hs,true_and]
 ·have:Nat.blt (a.size+b.size) 1000000000=false:=by rw[blt_eq];exact decide_eq_false hs
  simp only[abin,this,cond_false,onV_none,hs,false_and]
section
variable {J:Value→Prop}{a b:Nat}
end
theorem bnd_of {k:IntKind}{p q:Nat}(hpq:p≤q):bound (.int k (p:Int)) q=some p:=by
 have:(decide ((0:Int)≤(p:Int))&&decide ((p:Int)≤(q:Int)))=true:=by
  simp only[Bool.and_eq_true,decide_eq_true_eq];omega
 simp only[bound,this,cond_true,Int.toNat_natCast]
theorem slice_arr0 {n sz b off hi:Nat}{k:IntKind}{K:Value→Prop}(ha:arrSz E t=some (n,sz)) (h1:hi≤n) (h0:0<n) (hn:n<1000000) (q:K (.slice (some ⟨b,off,none⟩) hi n)) :
   sliceVK E t (.pointer (some ⟨b,off,none⟩)) none (some (.int k (hi:Int))) none K:=by
 unfold arrSz at ha
 split at ha
 · rename_i n e hu
   cases hs:size E e with
   | none=>rw[hs]at ha;cases ha
   | some sz' =>
     rw[hs]at ha
     cases ha
     have hl:Nat.blt n 1000000=true:=by rw[blt_eq];exact decide_eq_true hn
     have hab:abounds n n none (some (.int k (hi:Int))) none=some (0,hi,n):=by
       simp only[abounds,aboundsM,bnd_of h1,aboundsL]
     have hne:Nat.beq n 0=false:=beq_ne (by omega)
     simp only[sliceVK,asliceS,hu,hl,cond_true,hab,hs,hne,cond_false,Nat.zero_mul,onV_some',Nat.sub_zero]
     rw[Addr.add_lit,Nat.add_zero];exact q
 · cases ha
theorem slice_arr1 {n sz b off lo hi:Nat}{k k':IntKind}{K:Value→Prop}(ha:arrSz E t=some (n,sz)) (h2:lo≤hi) (h1:hi≤n) (h0:lo<n) (hn:n<1000000) (q:K (.slice (some ⟨b,off+lo*sz,none⟩) (hi-lo) (n-lo))) :
   sliceVK E t (.pointer (some ⟨b,off,none⟩)) (some (.int k (lo:Int))) (some (.int k' (hi:Int))) none K:=by
 unfold arrSz at ha
 split at ha
 · rename_i n e hu
   cases hs:size E e with
   | none=>rw[hs]at ha;cases ha
   | some sz' =>
     rw[hs]at ha
     cases ha
     have hl:Nat.blt n 1000000=true:=by rw[blt_eq];exact decide_eq_true hn
     have hab:abounds n n (some (.int k (lo:Int))) (some (.int k' (hi:Int))) none=some (lo,hi,n):=by
       simp only[abounds,aboundsM,bnd_of h1,aboundsL,bnd_of h2]
     have hne:Nat.beq n lo=false:=beq_ne (by omega)
     simp only[sliceVK,asliceS,hu,hl,cond_true,hab,hs,hne,cond_false,onV_some']
     rw[Addr.add_lit];exact q
 · cases ha
def byteV (b:UInt8):Value:=.int .u8 (b.toNat:Int)
theorem mapOpt_bytes:∀ (l:List UInt8),mapOpt byteOf (l.map byteV)=some l
 | []=>rfl
 | b::l=>by
   simp only[List.map_cons,mapOpt,mapOpt_bytes l]
   simp[byteV,byteOf]
theorem bstr_of {a:Addr}{n m:Nat}{l:List UInt8}{K:Value→Prop}(hc:cellsAt h a n=some (l.map byteV)) (q:K (.string ⟨l.toArray⟩)):bstrK h (.slice (some a) n m) K:=by
 simp only[bstrK,hc,mapOpt_bytes,Option.map_some,onV_some']
 exact q
theorem digs_bytes (u:Nat):digs u (Lib.nDigits u)=(Lib.decDigits u).map byteV:=by
 rw[Lib.decDigits_eq u]
 simp[digs,byteV]
theorem fmt_pow (u:Nat):u<10 ^ Lib.nDigits u:=Lib.lt_pow_nDigits u
theorem app_str (l r:List UInt8):(⟨l.toArray⟩:ByteArray)++⟨r.toArray⟩=⟨(l++r).toArray⟩:=by
 apply ByteArray.ext
 simp[ByteArray.data_append]
theorem str_size (l:List UInt8):(⟨l.toArray⟩:ByteArray).size=l.length:=by simp[ByteArray.size]
end
open Go.RowKit
section
variable {P:Program}
end
section
variable {E:Env}{fr:Fr}{h:Heap}{x:Operand}{t t':TypeId}
theorem agK_bstr {d:Nat}{l:List GO}(hb:isBytes E t t'=true):agK E (⟨none,some d,.convert t t' x⟩::l) fr h=((evK E fr x fun v=>bstrK h v fun u=>agV fr d u)∧agK E l fr h):=by
 have hk:kindOf E (.convert t t' x)=.read:=by
  unfold isBytes at hb
  split at hb
  ·rename_i e hu1 hu2;simp[kindOf,hu1,hu2]
  ·cases hb
 have e1:=opW_read (fr:=fr) (h:=h) (K:=fun v _=>agV fr d v) hk (by simp)
 have e2:=opW_bstr (x:=x) (fr:=fr) (h:=h) (K:=fun v _=>agV fr d v) hb
 have e:(∃ v v' d',readOp E fr (operOf (.convert t t' x)) h=some v∧some d=some d'∧fr.get d'=some v'∧sameV 50 v v'=true)=(evK E fr x fun v=>bstrK h v fun u=>agV fr d u):=by
  rw[← e2,e1]
  unfold onV agV
  apply propext
  constructor
  ·rintro⟨v,v',d',a,b,c,g⟩;cases b;exact⟨v,a,v',c,g⟩
  ·rintro⟨v,a,v',c,g⟩;exact⟨v,v',d,a,rfl,c,g⟩
 simp only[agK,gdK,e]
theorem same_str {n:Nat}{s:ByteArray}:(sameV n (.string s) (.string s)=true)=True:=by cases n<;>simp[sameV,eqStr]
def isSB (E:Env) (t t':TypeId):Bool:=match und E t,und E t' with
 | some .string,some (.slice e)=>(match und E e with|some (.int .u8)=>true|_=>false)
 | _,_=>false
def sbK (h:Heap) (v:Value) (K:Value→Heap→Prop) [Tok K]:Prop:=match v with
 | .string s=>s.size≠0∧s.size≤1000000∧K (.slice (some ⟨h.n,0,none⟩) s.size UNK) (newBlk h (.ro fun j=>nth (bytesV s) j))
 | _=>False
theorem opW_sbytes {K:Value→Heap→Prop}(hb:isSB E t t'=true):opW E (.convert t t' x) fr h K=evK E fr x fun v=>sbK h v fun u h'=>K u h':=by
 unfold isSB at hb
 split at hb
 · rename_i e hu1 hu2
   split at hb
   · rename_i hu3
     rw[opW_act (by simp[kindOf,hu1,hu2]) (by simp)]
     simp only[actOp,operOf,evK,onV,sbK]
     cases ev E fr x with
     | none=>simp[onR]
     | some v =>
       simp only[Option.some.injEq,exists_eq_left',asbytes,hu1,hu2]
       cases v with
       | string s =>
         simp only[hu3]
         by_cases h1:s.size=0
         · simp[h1,onR]
         · by_cases h2:s.size≤1000000
           · have:(!Nat.beq s.size 0&&Nat.ble s.size 1000000)=true:=by
               simp only[Bool.and_eq_true,Bool.not_eq_true',ble_eq,decide_eq_true_eq]
               exact⟨by cases hh:Nat.beq s.size 0 with
                 | false=>rfl
                 | true=>exact absurd (Nat.eq_of_beq_eq_true hh) h1,h2⟩
             rw[this,cond_true,onR_some]
             simp only[ne_eq,h1,not_false_eq_true,h2,true_and];rfl
           · have:(!Nat.beq s.size 0&&Nat.ble s.size 1000000)=false:=by
               rw[Bool.and_eq_false_iff];right;rw[ble_eq];exact decide_eq_false h2
             rw[this,cond_false]
             simp[onR,h2]
       | _=>simp[onR]
   · cases hb
 · cases hb
theorem bytes_at {l:List UInt8}{k:Nat}(hk:k<l.length) {h:Heap}{g:Nat→Option Value}{i:Nat}(hi:i<h.n) (hb:h.b.get i=some (.ro fun j=>nth (bytesV ⟨l.toArray⟩) j)):cellAt h ⟨i,k,none⟩=some (.int .u8 (l[k].toNat:Int)):=by
 have h1:nth (bytesV ⟨l.toArray⟩) k=some (.int .u8 (l[k].toNat:Int)):=by
  rw[nth_eq,bytesV,List.getElem?_map,show (⟨l.toArray⟩:ByteArray).data.toList=l from rfl,List.getElem?_eq_getElem hk];rfl
 unfold cellAt cellsAt
 have h2:Nat.blt i h.n=true:=by rw[blt_eq];exact decide_eq_true hi
 simp only[show Nat.beq 1 0=false from rfl,cond_false,h2,cond_true,hb,roCells,h1]
end
open Go.RowKit
section
variable {P:Program}
theorem Stp.deadAt {ρ:Ren}{h:Heap}{w w':World}{N:Nat}{o:Obj}(hr:HR P ρ h w) (hb:Below w.heap.size w w') (hN:w.heap.size≤N) (ho:w'.heap[N]?=some o) :
  Stp P ρ h w (ρ.upd h.n (N,0)) (newBlk h .dead) w':=by
 have s:=Stp.of_below hr hb
 have hr':=s.hr
 have hf:=hr.fresh
 have hle:ρ.le (ρ.upd h.n (N,0)):=Ren.le_upd _ hf
 refine⟨hle,⟨fun j b c e=>?_,fun j b c e=>?_,fun j l b c d e e' hn=>?_⟩,by simp[newBlk],fun j x e e0=>?_,fun j hj _=>get_newBlk hj,s.os,s.tape,s.output,s.size,s.frame,fun j b c e hlt=>?_,fun j x e=>?_⟩
 ·by_cases hj:j=h.n
  ·subst hj;rw[Ren.upd_same]at e;cases e
   exact⟨by simp[newBlk],(Array.getElem?_eq_some_iff.1 ho).1⟩
  ·rw[Ren.upd_ne ρ _ hj]at e
   exact⟨Nat.lt_succ_of_lt (hr'.dom j b c e).1,(hr'.dom j b c e).2⟩
 ·by_cases hj:j=h.n
  ·subst hj;rw[Ren.upd_same]at e;cases e
   exact⟨.dead,o,newBlk_same _ _,ho,.dead o⟩
  ·rw[Ren.upd_ne ρ _ hj]at e
   obtain⟨k,o',e1,e2,e3⟩:=hr'.blk j b c e
   exact⟨k,o',by rw[get_newBlk (hr'.dom j b c e).1];exact e1,e2,e3.mono hle⟩
 ·by_cases hj:j=h.n
  ·subst hj;left;exact newBlk_same _ _
  ·by_cases hl:l=h.n
   ·subst hl;right;exact newBlk_same _ _
   ·rw[Ren.upd_ne ρ _ hj]at e
    rw[Ren.upd_ne ρ _ hl]at e'
    rw[get_newBlk (hr'.dom j b c e).1,get_newBlk (hr'.dom l b d e').1]
    exact hr'.inj j l b c d e e' hn
 ·by_cases hj:j=h.n
  ·omega
  ·rw[Ren.upd_ne ρ _ hj]at e;rw[e]at e0;cases e0
 ·by_cases hj:j=h.n
  ·subst hj;rw[Ren.upd_same]at e;cases e;omega
  ·rw[Ren.upd_ne ρ _ hj]at e;exact⟨j,c,e,.inl rfl⟩
 ·have hj:=(hr.dom j x.1 x.2 e).1
  rw[get_newBlk hj]
  intro _;rfl
def extDead (k:FuncId) (g:List Value→Heap→Option (Value×Bool)) (base:ExtT) (f:FuncId) (args:List Value) (h:Heap):Option (Option (Value×Heap)) :=
 cond (Nat.beq f k) (some ((g args h).map fun x=>(x.1,cond x.2 (newBlk h .dead) h))) (base f args h)
theorem extDead_ok {ng k:Nat}{g:List Value→Heap→Option (Value×Bool)}{base:ExtT}(h0:ExtOK P (envOf P ng base)) {fn:Func}{c:Code}(hf:P.funcs[k]?=some fn) (hb:fn.body=some c) (hn:NamesOK P)
   (hk:∀ args h v b,g args h=some (v,b)→∀ (ρ:Ren) (w:World) (args':Array Value),HR P ρ h w→(∀ i,i<ng→∃ c,ρ i=some (i,c))→VRL ρ args args'.toList →
     Calls P k args' w fun e w'=>∃ v',e=.returned v'∧Below w.heap.size w w'∧(b=true→∃ N o,w.heap.size≤N∧w'.heap[N]?=some o∧VR (ρ.upd h.n (N,0)) v v')∧(b=false→VR ρ v v')) :
   ExtOK P (envOf P ng (extDead k g base)):=by
 intro f args h v h' e ρ w args' hr hg ra
 simp only[envOf,extDead,cond_beq]at e
 by_cases hfk:f=k
 · subst hfk
   rw[if_pos rfl]at e
   simp only[Option.some.injEq,Option.map_eq_some_iff,Prod.mk.injEq]at e
   obtain⟨⟨u,b⟩,e,rfl,rfl⟩:=e
   refine .inr (.inl ⟨f,args',run_callFunc hf hn hb args' w,(hk args _ _ _ e ρ w args' hr (fun i hi=>hg i hi) ra).mono fun e w' hh=>?_⟩)
   obtain⟨v',rfl,hbl,r1,r0⟩:=hh
   cases b with
   | true =>
     obtain⟨N,o,hN,ho,r⟩:=r1 rfl
     exact⟨v',_,rfl,r,Stp.deadAt hr hbl hN ho⟩
   | false=>exact⟨v',ρ,rfl,r0 rfl,Stp.of_below hr hbl⟩
 · rw[if_neg hfk]at e
   exact h0 f args h v h' e ρ w args' hr hg ra
theorem extDead_ret {E:Env}{k:FuncId}{g:List Value→Heap→Option (Value×Bool)}{base:ExtT}{args:List Value}{h:Heap}{K:Value→Heap→Prop}{v:Value}{b:Bool}(he:E.ext k args h=extDead k g base k args h) (hg:g args h=some (v,b)) (q:K v (cond b (newBlk h .dead) h)):Ret E (.func k) args h K:=by
 refine Ret.extH (v:=v) (h':=cond b (newBlk h .dead) h) ?_ q
 rw[he]
 simp only[extDead,Nat.beq_refl,cond_true,hg,Option.map_some]
end
theorem y1 {p A B:Prop}(a:A) (hp:p):brK p A B:=brK_yes hp a
theorem y2 {p A B:Prop}(b:B) (hp:¬p):brK p A B:=brK_no hp b
theorem y3 {p A B:Prop}(a:p→A) (b:¬p→B):brK p A B:=brK_both a b
theorem y4 {p q A:Prop}(a:A) (hp:p) (hq:q):(p∧q)∧A:=⟨⟨hp,hq⟩,a⟩
theorem y6 {l:List Value}{A:Prop}(a:A) (hp:l.all oneCell=true):l.all oneCell=true∧A:=⟨hp,a⟩
theorem y7 {n:Nat}{cs l:List Value}{e:TypeId}{b:Bool}{h:Heap}{K:Value→Heap→Prop}(k:K undef (newBlk h (.cells l e b))) (hc:(Nat.beq l.length n&&Nat.beq cs.length n&&l.all oneCell&&!Nat.beq n 0)=true) :
  stK n (.pointer (some ⟨h.n,0,none⟩)) (.agg ⟨l⟩) (newBlk h (.cells cs e b)) K:=st_newM hc k
theorem y8 {e:TypeId}{sz:Nat}{zs:List Value}{v:Value}{h:Heap}{K:Value→Heap→Prop}(k:K (.slice (some ⟨h.n,0,none⟩) 1 1) (newBlk h (.cells v.cells.toList e true))) (hc:(Nat.beq v.cells.toList.length sz&&Nat.beq zs.length sz&&!Nat.beq sz 0)=true):bsK e sz zs 1 [(0,v)] h K:=bs_oneM hc k
theorem y9 {zs l:List Value}{pl:List (Nat×Nat)}{ps:List (Nat×Value)}{K:Value→Prop}(k:K (.agg ⟨l⟩)) (hf:fillL (nth pl) zs ps=some l):bdK zs pl ps K:=bd_of hf k
theorem ya {zs l:List Value}{sz:Nat}{ps:List (Nat×Value)}{K:Value→Prop}(k:K (.agg ⟨l⟩)) (hf:fillL (fun i=>some (i*sz,sz)) zs ps=some l):bdaK zs sz ps K:=bda_of hf k
open Go.RowKit
section
variable {P:Program}
def noHeap:Heap:={ n:=0,b:=.leaf }
def isNon {α:Type}:Option α→Bool
 | none=>true
 | some _=>false
noncomputable def qval (E0:Env) (d:Nat) (f:FuncId) (l:List Value):Option Value :=
 cond (l.all constOk&&isNon (E0.ext f l noHeap)) (match callF E0 d (.func f) l noHeap with
  | some (v,_)=>cond (constOk v) (some v) none
  | none=>none) none
noncomputable def quiet (E E0:Env) (d:Nat) (q:FuncId→Bool):Env:={ E with qf:=q,qc:=qval E0 d }
theorem VRL.const0_eq {ρ:Ren}:∀ {l l':List Value},l.all constOk0=true→VRL ρ l l'→l'=l
 | _,_,_,.nil=>rfl
 | _,_,h,.cons r t=>by
   simp only[List.all_cons,Bool.and_eq_true]at h
   rw[VR.const0_eq h.1 r,VRL.const0_eq h.2 t]
theorem VR.const_eq {ρ:Ren}{v v':Value}(h:constOk v=true) (r:VR ρ v v'):v'=v:=by
 unfold constOk at h
 split at h
 ·rename_i cs
  cases r with
  | agg _ xs' hr=>obtain⟨xs⟩:=xs';obtain⟨cs⟩:=cs;simp only at hr h;rw[VRL.const0_eq h hr]
 ·rename_i cs
  cases r with
  | tuple _ xs' hr=>obtain⟨xs⟩:=xs';obtain⟨cs⟩:=cs;simp only at hr h;rw[VRL.const0_eq h hr]
 ·exact VR.const0_eq h r
theorem VRL.const_eq {ρ:Ren}:∀ {l l':List Value},l.all constOk=true→VRL ρ l l'→l'=l
 | _,_,_,.nil=>rfl
 | _,_,h,.cons r t=>by
   simp only[List.all_cons,Bool.and_eq_true]at h
   rw[VR.const_eq h.1 r,VRL.const_eq h.2 t]
theorem VRL.const (ρ:Ren):∀ {l:List Value},l.all constOk=true→VRL ρ l l
 | [],_=>.nil
 | v::l,h=>by simp only[List.all_cons,Bool.and_eq_true]at h;exact .cons (VR.const ρ h.1) (VRL.const ρ h.2)
theorem callF_body {E:Env}{d:Nat}{f:FuncId}{l:List Value}{h:Heap}{r:Value×Heap}(hx:E.ext f l h=none) (e:callF E d (.func f) l h=some r):∃ fn c,E.funs.get f=some fn∧fn.body=some c:=by
 cases d with
 | zero=>cases e
 | succ d =>
   simp only[callF,hx]at e
   split at e
   · cases e
   · rename_i fn hfn
     split at e
     · cases e
     · rename_i c hc;exact⟨fn,c,hfn,hc⟩
theorem quiet_ok {E E0:Env}(hE:EnvOK P E) (hE0:EnvOK P E0) (hx0:ExtOK P E0) (hn:NamesOK P) (hg:E0.ng=0) (d:Nat) (q:FuncId→Bool):EnvOK P (quiet E E0 d q):=by
 refine⟨hE.tab,hE.funs,hE.mixed,hE.dfr,fun f l v _ e ρ w args' ra=>?_⟩
 simp only[quiet,qval]at e
 cases hc:(l.all constOk&&isNon (E0.ext f l noHeap)) with
 | false=>rw[hc]at e;cases e
 | true =>
   rw[hc,cond_true]at e
   simp only[Bool.and_eq_true]at hc
   have hext:E0.ext f l noHeap=none:=by
     cases he:E0.ext f l noHeap with
     | none=>rfl
     | some r=>rw[he]at hc;exact absurd hc.2 (by simp[isNon])
   split at e
   · rename_i u h' hcall
     cases hv:constOk u with
     | false=>rw[hv]at e;cases e
     | true =>
       rw[hv]at e
       simp only[cond_true,Option.some.injEq]at e
       subst e
       obtain⟨fn,c,hfn,hb⟩:=callF_body hext hcall
       have hargs:=VRL.const_eq hc.1 ra
       have hr:HR P (fun _=>none) noHeap w:=⟨fun i b c e=>absurd e (by simp),fun i b c e=>absurd e (by simp),fun i j b c d e e'=>absurd e (by simp)⟩
       refine⟨run_callFunc (hE0.funs f fn hfn) hn hb args' w,?_⟩
       refine(callF_calls hE0 hx0 hn hext hcall hr (fun g hlt=>by omega) (by rw[hargs];exact VRL.const _ hc.1)).mono fun e w' hh=>?_
       obtain⟨v',ρ',rfl,r,hs⟩:=hh
       rw[VR.const_eq hv r]
       exact⟨_,rfl,VR.const _ hv,hs.below fun i x e=>by cases e⟩
   · cases e
open Classical in
noncomputable def qvalC (E0:Env) (f:FuncId) (l:List Value):Option Value :=
 if hd:∃ d,(qval E0 d f l).isSome=true then qval E0 (Classical.choose hd) f l else none
noncomputable def quietC (E E0:Env) (q:FuncId→Bool):Env:={ E with qf:=q,qc:=qvalC E0 }
theorem quietC_ok {E E0:Env}(hE:EnvOK P E) (hE0:EnvOK P E0) (hx0:ExtOK P E0) (hn:NamesOK P) (hg:E0.ng=0) (q:FuncId→Bool):EnvOK P (quietC E E0 q):=by
 refine⟨hE.tab,hE.funs,hE.mixed,hE.dfr,fun f l v hq e ρ w args' ra=>?_⟩
 simp only[quietC,qvalC]at e
 split at e
 ·rename_i hd
  exact(quiet_ok hE hE0 hx0 hn hg (Classical.choose hd) q).qc f l v hq e ρ w args' ra
 ·cases e
end
open Go.RowKit
section
variable {P:Program}
def ccG (args:List Value) (h:Heap):Option (Value×Heap) :=
 match args with
 | [.pointer (some ⟨i,0,none⟩)] =>
   match h.b.get i with
   | some (.cells [p,q] e true)=>cond (Nat.blt i h.n) (match p with
     | .pointer none=>some (.tuple #[],{ h with b:=h.b.set i (.cells [.pointer (some ⟨i,0,none⟩),q] e true) })
     | .pointer (some ⟨j,0,none⟩)=>cond (Nat.beq i j) (some (.tuple #[],h)) none
     | _=>none) none
   | _=>none
 | _=>none
def extCc (k:FuncId) (el:TypeId) (base:ExtT) (f:FuncId) (args:List Value) (h:Heap):Option (Option (Value×Heap)) :=
 cond (Nat.beq f k) (some (match args with
   | [.pointer (some ⟨i,0,none⟩)]=>match h.b.get i with
     | some (.cells _ e _)=>cond (Nat.beq e el) (ccG args h) none
     | _=>none
   | _=>none)) (base f args h)
theorem extCc_ok {ng k:Nat}{el:TypeId}{base:ExtT}(h0:ExtOK P (envOf P ng base)) {fn:Func}{c:Code}(hf:P.funcs[k]?=some fn) (hb:fn.body=some c) (hn:NamesOK P)
   (hu:∀ (b:Nat) (w:World),w.cell? ⟨b,0,none⟩=some (.pointer (some ⟨b,0,none⟩))→Calls P k #[.pointer (some ⟨b,0,none⟩)] w fun e w'=>e=.returned (.tuple #[])∧w'=w)
   (hfr:∀ (b:Nat) (w:World),w.cell? ⟨b,0,none⟩=some (.pointer none)→w.shape? b=some (el,2)→w.frozen? ⟨b,0,none⟩=false→Calls P k #[.pointer (some ⟨b,0,none⟩)] w fun e w'=>e=.returned (.tuple #[])∧w'=w.setCell ⟨b,0,none⟩ (.pointer (some ⟨b,0,none⟩))) :
   ExtOK P (envOf P ng (extCc k el base)):=by
 intro f args h v h' e ρ w args' hr hg ra
 simp only[envOf,extCc,cond_beq]at e
 by_cases hfk:f=k
 · subst hfk
   rw[if_pos rfl]at e
   simp only[Option.some.injEq]at e
   split at e
   · rename_i i
     split at e
     · rename_i cs e' ex hbk
       by_cases hee:e'=el
       case neg=>rw[if_neg hee]at e;cases e
       subst hee
       rw[if_pos rfl]at e
       unfold ccG at e
       simp only[hbk]at e
       split at e
       · rename_i p q e2 heq
         simp only[Option.some.injEq,Blk.cells.injEq]at heq
         obtain⟨rfl,rfl,rfl⟩:=heq
         cases hlt:Nat.blt i h.n with
         | false=>rw[hlt]at e;cases e
         | true =>
           rw[hlt,cond_true]at e
           obtain⟨args'⟩:=args'
           simp only at ra
           cases ra with
           | cons r1 t=>cases r1 with
             | @ptr _ b c _ hi=>cases t with
               | nil =>
                 obtain⟨kb,o,k1,k2,k3⟩:=hr.blk _ _ _ hi
                 rw[hbk]at k1
                 cases k1
                 cases k3 with
                 | cells _ xs _ _ hcell hsz =>
                   simp only[if_true]at hsz
                   have hsz2:xs.size=2:=hsz
                   obtain⟨p',hp0,rp⟩:=hcell 0 p rfl
                   obtain⟨q',hq0,rq⟩:=hcell 1 q rfl
                   have hc0:w.cell? ⟨b,0,none⟩=some p':=by simp[World.cell?,k2,hp0]
                   split at e
                   · simp only[Option.some.injEq,Prod.mk.injEq]at e
                     obtain⟨rfl,rfl⟩:=e
                     cases rp
                     refine .inr (.inl ⟨f,#[.pointer (some ⟨b,0,none⟩)],run_callFunc hf hn hb _ w,(hfr b w hc0 (by simp[World.shape?,k2,hsz2]) (by simp[World.frozen?,k2])).mono fun e w' hh=>?_⟩)
                     obtain⟨rfl,rfl⟩:=hh
                     refine⟨_,ρ,rfl,.tuple _ _ .nil,?_⟩
                     have hblt:b<w.heap.size:=(Array.getElem?_eq_some_iff.1 k2).1
                     refine Stp.write (o':=.cells (xs.setIfInBounds 0 (.pointer (some ⟨b,0,none⟩))) e' (0,0)) hr hi hbk ?_ ?_ ?_ ?_ ?_ rfl rfl rfl
                     · simp[soft]
                     · refine .cells _ _ _ _ (fun j v hj=>?_) (by simp[hsz2])
                       match j,hj with
                       | 0,hj =>
                         simp only[List.getElem?_cons_zero,Option.some.injEq]at hj
                         subst hj
                         exact⟨_,by simp[Array.getElem?_setIfInBounds,hsz2],.ptr _ hi⟩
                       | 1,hj =>
                         simp only[List.getElem?_cons_succ,List.getElem?_cons_zero,Option.some.injEq]at hj
                         subst hj
                         exact⟨_,by simp[Array.getElem?_setIfInBounds,hq0],rq⟩
                       | j+2,hj=>simp at hj
                     · simp[World.setCell]
                     · simp[World.setCell,Array.getElem?_modify,k2]
                     · intro j hj;simp[World.setCell,Array.getElem?_modify,Ne.symm hj]
                   · rename_i j
                     by_cases hij:i=j
                     case neg=>rw[cond_beq,if_neg hij]at e;cases e
                     subst hij
                     rw[cond_beq,if_pos rfl]at e
                     simp only[Option.some.injEq,Prod.mk.injEq]at e
                     obtain⟨rfl,rfl⟩:=e
                     cases rp with
                     | @ptr _ b2 c2 _ hi2 =>
                       rw[hi]at hi2
                       cases hi2
                       refine .inr (.inl ⟨f,#[.pointer (some ⟨b,0,none⟩)],run_callFunc hf hn hb _ w,(hu b w hc0).mono fun e w' hh=>?_⟩)
                       obtain⟨rfl,rfl⟩:=hh
                       exact⟨_,ρ,rfl,.tuple _ _ .nil,Stp.refl hr⟩
                   · cases e
       · cases e
     · cases e
   · cases e
 · rw[if_neg hfk]at e
   exact h0 f args h v h' e ρ w args' hr hg ra
def extNew (k:FuncId) (g:List Value→Heap→Option (Value×Blk)) (base:ExtT) (f:FuncId) (args:List Value) (h:Heap):Option (Option (Value×Heap)) :=
 cond (Nat.beq f k) (some ((g args h).map fun x=>(x.1,newBlk h x.2))) (base f args h)
theorem extNew_ok {ng k:Nat}{g:List Value→Heap→Option (Value×Blk)}{base:ExtT}(h0:ExtOK P (envOf P ng base)) {fn:Func}{c:Code}(hf:P.funcs[k]?=some fn) (hb:fn.body=some c) (hn:NamesOK P)
  (hk:∀ args h v bk,g args h=some (v,bk)→∀ (ρ:Ren) (w:World) (args':Array Value),HR P ρ h w→(∀ i,i<ng→∃ c,ρ i=some (i,c))→VRL ρ args args'.toList →
   Calls P k args' w fun e w'=>∃ v' o,e=.returned v'∧w'=w.alloc o∧VR (ρ.upd h.n (w.heap.size,0)) v v'∧BR P ρ 0 bk o) :
  ExtOK P (envOf P ng (extNew k g base)):=by
 intro f args h v h' e ρ w args' hr hg ra
 simp only[envOf,extNew,cond_beq]at e
 by_cases hfk:f=k
 ·subst hfk
  rw[if_pos rfl]at e
  simp only[Option.some.injEq,Option.map_eq_some_iff,Prod.mk.injEq]at e
  obtain⟨⟨u,bk⟩,e,rfl,rfl⟩:=e
  refine .inr (.inl ⟨f,args',run_callFunc hf hn hb args' w,(hk args _ _ _ e ρ w args' hr (fun i hi=>hg i hi) ra).mono fun e w' hh=>?_⟩)
  obtain⟨v',o,rfl,rfl,r,hbr⟩:=hh
  exact⟨v',_,rfl,r,Stp.alloc hr hbr rfl rfl rfl rfl⟩
 ·rw[if_neg hfk]at e
  exact h0 f args h v h' e ρ w args' hr hg ra
end
section
variable {E:Env}{fr:Fr}{h:Heap}{K:Value→Heap→Prop}{x y:Operand}{t t' s:TypeId}
def mkiOK (E:Env) (t:TypeId):Bool:=match und E t with
 | none|some (.interface _)|some .invalid=>false
 | _=>true
theorem opW_makeIface (ht:mkiOK E t=true):opW E (.makeInterface t x) fr h K=evK E fr x fun v=>K (.iface t v) h:=by
 rw[opW_pure rfl (by simp)]
 simp only[pureOp,operOf,evK,onV]
 unfold mkiOK at ht
 cases hu:und E t with
 | none=>rw[hu]at ht;cases ht
 | some d =>
   rw[hu]at ht
   cases ev E fr x with
   | none=>cases d<;>simp_all
   | some v=>cases d<;>simp_all
def taK (t:TypeId) (z v:Value) (K:Value→Prop) [Tok K]:Prop:=match v with
 | .iface t' u=>cond (Nat.beq t' t) (K (.tuple #[u,.bool true])) (K (.tuple #[z,.bool false]))
 | .nilIface=>K (.tuple #[z,.bool false])
 | _=>False
def taOf (E:Env) (t:TypeId):Option Value:=match und E t with
 | none|some (.interface _)|some .invalid=>none
 | _=>zero E t
theorem opW_typeAssertC {z:Value}(ht:taOf E t=some z):opW E (.typeAssert x s t true) fr h K=evK E fr x fun v=>taK t z v fun u=>K u h:=by
 rw[opW_pure rfl (by simp)]
 simp only[pureOp,operOf,evK,onV]
 unfold taOf at ht
 cases ev E fr x with
 | none=>simp
 | some v =>
   simp only[Option.some.injEq,exists_eq_left']
   have key:atypeAssert E v t true=match v with
       | .nilIface=>some (.tuple #[z,.bool false])
       | .iface t' u=>some (cond (Nat.beq t' t) (.tuple #[u,.bool true]) (.tuple #[z,.bool false]))
       | _=>none:=by
     unfold atypeAssert
     cases hu:und E t with
     | none=>rw[hu]at ht;cases ht
     | some d =>
       rw[hu]at ht
       cases d<;>first
         | (cases ht;done)
         | (simp only at ht
            cases v<;>simp only[ht,Option.map_some,cond_true]
            rename_i t' u
            cases Nat.beq t' t<;>rfl)
   rw[key]
   unfold taK
   cases v with
   | iface t' u =>
     clear key
     simp only[Option.some.injEq,exists_eq_left']
     generalize Nat.beq t' t=b
     cases b<;>rfl
   | _=>simp
theorem ta_same {z u:Value}{J:Value→Prop}:taK t z (.iface t u) J=J (.tuple #[u,.bool true]):=by simp[taK]
theorem ta_ne {z u:Value}{J:Value→Prop}(hne:t'≠t):taK t z (.iface t' u) J=J (.tuple #[z,.bool false]):=by simp[taK,cond_beq,hne]
theorem ta_nil {z:Value}{J:Value→Prop}:taK t z .nilIface J=J (.tuple #[z,.bool false]):=rfl
end
section
variable {E:Env}{fr:Fr}{h:Heap}{K:Value→Heap→Prop}{x y:Operand}{t:TypeId}
def isStr (E:Env) (t:TypeId):Bool:=match und E t with|some .string=>true|_=>false
theorem isStr_und (ht:isStr E t=true):und E t=some .string:=by
 unfold isStr at ht
 split at ht
 ·assumption
 ·cases ht
def lenStrK (x:Value) (K:Value→Prop) [Tok K]:Prop:=match x with
 | .string s=>K (.int .i64 s.size)
 | _=>False
theorem lenStr_some {s:ByteArray}{K:Value→Prop}:lenStrK (.string s) K=K (.int .i64 s.size):=Eq.trans rfl rfl
theorem opW_lenStr (ht:isStr E t=true):opW E (.call ⟨.builtin .len,⟨[x]⟩,⟨[t]⟩⟩) fr h K=evK E fr x fun v=>lenStrK v fun u=>K u h:=by
 have hu:=isStr_und ht
 simp only[opW,opBy,valOp,flOp,qcall,operOf,kindOf,hu,pureOp,evs,mapOpt,evK,onR_map,onV,lenStrK]
 cases ev E fr x with
 | none=>simp
 | some v =>
   simp only[alen,hu]
   cases v<;>simp
theorem str_extract (l:List UInt8) (a b:Nat):(⟨l.toArray⟩:ByteArray).extract a b=⟨((l.take b).drop a).toArray⟩:=by
 apply ByteArray.ext
 simp[ByteArray.data_extract,List.extract_toArray,List.drop_take]
theorem slice_strL (ht:isStr E t=true) {l:List UInt8}{k:IntKind}{lo:Nat}{K:Value→Prop}(h:lo≤l.length) (q:K (.string ⟨(l.drop lo).toArray⟩)) :
  sliceVK E t (.string ⟨l.toArray⟩) (some (.int k (lo:Int))) none none K:=by
 have hs:(⟨l.toArray⟩:ByteArray).size=l.length:=by simp[ByteArray.size]
 have hb:abounds l.length l.length (some (.int k (lo:Int))) none none=some (lo,l.length,l.length):=by
  simp only[abounds,aboundsM,aboundsL,bnd_of h]
 simp only[sliceVK,asliceS,isStr_und ht,hs,hb,Option.map_some,onV_some,str_extract,List.take_length]
 exact q
end
section
variable {E:Env}
end
section
variable {E:Env}
theorem mhead_some {t r m c:Nat}{d:Option Nat}{es:List (Value×Value×Nat)}{fr:Fr}{h:Heap}(ht:fr.get t=some (.pointer (some ⟨r,0,none⟩))) (hr:h.b.get r=some (.miter (some m) c [] c)) (hm:h.b.get m=some (.map es c)) (hrn:r<h.n) (hmn:m<h.n) (hne:r≠m)
  (hes:(Nat.blt 1 es.length&&Nat.blt es.length 1000&&es.all (fun e=>Nat.blt e.2.2 c)&&nodupB (es.map (·.2.2)))=true):mapHead E [hdO t d] fr h=some ⟨hdO t d,[],t,r,m,es,c⟩:=by
 have hg:getMap h (.map (some m))=some (es,c):=by
  simp only[getMap,blt_eq,hmn,decide_true,cond_true,hm]
 simp only[Bool.and_eq_true]at hes
 obtain⟨⟨⟨h1,h2⟩,h3⟩,h4⟩:=hes
 have hb:Nat.blt r h.n=true:=by rw[blt_eq];exact decide_eq_true hrn
 have hx:Nat.beq r m=false:=beq_ne hne
 have hdf:([{ dst:=d,op:=.next (.tmp t) false,type:=0,pos:= "",after:=#[],guard:=none }]:List Oper).any isDefer=false:=rfl
 simp only[mapHead,hdO,ht,hr,hg,h1,h2,h3,h4,hb,hx,hdf,Nat.beq_refl,Bool.and_self,Bool.not_false,cond_true]
theorem put_hd {nt t d:Nat}{fr:Fr}{v:Value}(hd:d<nt):put nt fr (hdO t (some d)) v=some (fr.set d v):=by
 simp only[put,hdO,blt_eq,hd,decide_true,cond_true]
theorem cw_mloop {nt t d r m c:Nat}{rd:Option Nat}{l:List GO}{rest:GC}{D:List Nat}{es:List (Value×Value×Nat)}{sp:Option Nat}{fr:Fr}{h:Heap}{Q:Ex→Fr→Heap→Prop}(ht:fr.get t=some (.pointer (some ⟨r,0,none⟩))) (hr:h.b.get r=some (.miter (some m) c [] c)) (hm:h.b.get m=some (.map es c)) (hrn:r<h.n) (hmn:m<h.n) (hne:r≠m)
  (hes:(Nat.blt 1 es.length&&Nat.blt es.length 1000&&es.all (fun e=>Nat.blt e.2.2 c)&&nodupB (es.map (·.2.2)))=true) (ho:E.orc es fr h=some sp)
  (w:mloopW (fun fr h Q=>opsW E l fr h fun fr h=>rest.wp E nt rd fr h Q) nt ⟨hdO t (some d),[],t,r,m,es,c⟩ sp (eraseF D fr (List.range nt)) h Q):(GC.mloop t (some d) l rest D).wp E nt rd fr h Q :=
 ⟨_,sp,mhead_some ht hr hm hrn hmn hne hes,ho,w⟩
theorem roundW_of {B:Fr→Heap→(Ex→Fr→Heap→Prop)→Prop}{nt t d r m c:Nat}{es:List (Value×Value×Nat)}{fr0:Fr}{H:Heap}{e:Value×Value×Nat}{K:Fr→Heap→Prop}(hd:d<nt)
  (w:B (fr0.set d (.tuple #[.bool true,e.1,e.2.1])) (setBlk H r (.mcur m e.2.2 c)) fun ex f3 h3=>ex=.normal∧K f3 h3):roundW B nt ⟨hdO t (some d),[],t,r,m,es,c⟩ fr0 H e K:=⟨_,put_hd hd,w⟩
theorem endW_of {B:Fr→Heap→(Ex→Fr→Heap→Prop)→Prop}{nt t d r m c:Nat}{es:List (Value×Value×Nat)}{fr0:Fr}{H:Heap}{Q:Ex→Fr→Heap→Prop}(hd:d<nt)
  (w:B (fr0.set d (.tuple #[.bool false])) (setBlk H r .dead) fun ex f3 h3=>ex≠.normal∧Q ex f3 h3):endW B nt ⟨hdO t (some d),[],t,r,m,es,c⟩ fr0 H Q:=⟨_,put_hd hd,w⟩
theorem eraseF_at {D:List Nat}{fr:Fr}{nt t:Nat}{v:Value}(hv:fr.get t=some v) (ht:t<nt) (hD:D.any (Nat.beq t)=false):(eraseF D fr (List.range nt)).get t=some v:=by
 have key:∀ ts:List Nat,t∈ts→(eraseF D fr ts).get t=some v:=by
   intro ts
   induction ts with
   | nil=>intro h;cases h
   | cons s ts ih =>
     intro h
     simp only[eraseF]
     by_cases hst:s=t
     · subst hst
       rw[hD,cond_false,hv]
       exact T.get_set_same _ _ _
     · have hm:t∈ts:=by
         rcases List.mem_cons.1 h with h|h
         · exact absurd h.symm hst
         · exact h
       cases D.any (Nat.beq s) with
       | true=>exact ih hm
       | false =>
         rw[cond_false]
         split
         · rw[T.get_set_ne _ _ hst];exact ih hm
         · exact ih hm
 exact key _ (List.mem_range.2 ht)
theorem quietP_of {t r m c:Nat}{d:Option Nat}{es:List (Value×Value×Nat)}{fr0 f3:Fr}{H h3:Heap}(x:H.n≤h3.n) (hb:∀ i,i<H.n→i≠r→h3.b.get i=H.b.get i) (hf:∀ s v,fr0.get s=some v→f3.get s=some v) :
  QuietP ⟨hdO t d,[],t,r,m,es,c⟩ fr0 H (f3,h3):=⟨x,fun i h1 h2=>.inl (hb i h1 h2),hf⟩
end
section
variable {E:Env}{fr:Fr}{h:Heap}{K:Value→Heap→Prop}{x y z:Operand}{t:TypeId}
theorem opW_insert:opW E (.insert t x y z) fr h K=evK E fr x fun m=>evK E fr y fun k=>evK E fr z fun v=>updK E t m k v h K:=by
 rw[opW_act rfl (by simp)]
 simp only[actOp,operOf,evK,onV,updK]
 cases ev E fr x with
 | none=>simp[onR]
 | some a =>
   cases ev E fr y with
   | none=>simp[onR]
   | some b =>
     cases ev E fr z with
     | none=>simp[onR]
     | some c =>
       simp only[Option.some.injEq,exists_eq_left']
       cases amapUpdate E t a b c h with
       | none=>simp[onR]
       | some h'=>exact propext ⟨fun ⟨_,_,e,q⟩=>by cases e;exact⟨_,rfl,q⟩,fun ⟨_,e,q⟩=>by cases e;exact⟨_,_,rfl,q⟩⟩
def rngK (E:Env) (t:TypeId) (v:Value) (h:Heap) (K:Value→Heap→Prop) [Tok K]:Prop:=onR (arange E t v h) K
theorem opW_range:opW E (.range t x) fr h K=evK E fr x fun v=>rngK E t v h K:=by
 rw[opW_act rfl (by simp)]
 simp only[actOp,operOf,evK,onV,rngK]
 cases ev E fr x with
 | none=>simp[onR]
 | some a=>simp
def nxtK (s:Bool) (v:Value) (h:Heap) (K:Value→Heap→Prop) [Tok K]:Prop:=onR (anext v s h) K
theorem opW_next {s:Bool}:opW E (.next x s) fr h K=evK E fr x fun v=>nxtK s v h K:=by
 rw[opW_act rfl (by simp)]
 simp only[actOp,operOf,evK,onV,nxtK]
 cases ev E fr x with
 | none=>simp[onR]
 | some a=>simp
def entK (v:Value) (h:Heap) (K:Value→Prop) [Tok K]:Prop:=onV (aentry v h) K
theorem opW_entry:opW E (.entry x) fr h K=evK E fr x fun v=>entK v h fun u=>K u h:=by
 rw[opW_act rfl (by simp)]
 simp only[actOp,operOf,evK,onV,entK]
 cases ev E fr x with
 | none=>simp[onR]
 | some a =>
   cases he:aentry a h with
   | none=>simp[onR,he]
   | some u =>
     refine propext ⟨fun ⟨v,h2,e,q⟩=>?_,fun ⟨a',e0,v,e,q⟩=>?_⟩
     · simp only[he,Option.map_some,Option.some.injEq,Prod.mk.injEq]at e
       obtain⟨rfl,rfl⟩:=e
       exact⟨a,rfl,u,he,q⟩
     · cases e0
       rw[he]at e
       cases e
       exact⟨u,h,by simp only[he,Option.map_some],q⟩
theorem rng_str (ht:isStr E t=true) {s:ByteArray}(q:K (.pointer (some ⟨h.n,0,none⟩)) (newBlk h (.siter s 0))):rngK E t (.string s) h K:=by
 refine⟨_,_,?_,q⟩
 simp only[arange,isStr_und ht]
def isMapT (E:Env) (t:TypeId):Bool:=match und E t with|some (.map _ _)=>true|_=>false
theorem rng_map (ht:isMapT E t=true) {m c:Nat}{es:List (Value×Value×Nat)}(hm:h.b.get m=some (.map es c)) (hmn:m<h.n) (q:K (.pointer (some ⟨h.n,0,none⟩)) (newBlk h (.miter (some m) c [] c))):rngK E t (.map (some m)) h K:=by
 unfold isMapT at ht
 split at ht
 ·rename_i k v hu
  refine⟨_,_,?_,q⟩
  have hg:getMap h (.map (some m))=some (es,c):=by
   simp only[getMap,blt_eq,hmn,decide_true,cond_true,hm]
  simp only[arange,hu,hg]
 ·cases ht
theorem nxt_str {r pos:Nat}{s:ByteArray}(hr:h.b.get r=some (.siter s pos)) (hp:pos<s.size) (q:K (.tuple #[.bool true,.int .i64 pos,.int .i32 (Utf8.decode s pos).1]) { h with b:=h.b.set r (.siter s (pos+(Utf8.decode s pos).2)) }):nxtK true (.pointer (some ⟨r,0,none⟩)) h K:=by
 refine⟨_,_,?_,q⟩
 have hb:Nat.blt pos s.size=true:=by rw[blt_eq];exact decide_eq_true hp
 simp only[anext,hr,hb,cond_true]
theorem nxt_strEnd {r pos:Nat}{s:ByteArray}(hr:h.b.get r=some (.siter s pos)) (hp:s.size≤pos) (q:K (.tuple #[.bool false]) h):nxtK true (.pointer (some ⟨r,0,none⟩)) h K:=by
 refine⟨_,_,?_,q⟩
 have hb:Nat.blt pos s.size=false:=by rw[blt_eq];exact decide_eq_false (by omega)
 simp only[anext,hr,hb,cond_false]
theorem ent_cur {r m b c:Nat}{es:List (Value×Value×Nat)}{p:Value×Value}{K:Value→Prop}(hr:h.b.get r=some (.mcur m b c)) (hm:h.b.get m=some (.map es c)) (hmn:m<h.n) (he:entAt es b=some p) (q:K (.tuple #[p.1,p.2])):entK (.pointer (some ⟨r,0,none⟩)) h K:=by
 have hg:getMap h (.map (some m))=some (es,c):=by
  simp only[getMap,blt_eq,hmn,decide_true,cond_true,hm]
 simp only[entK,aentry,hr,curOf,hg,Nat.beq_refl,cond_true,he,Option.map_some,onV_some]
 exact q
def isSN {α:Type}:Option (Option α)→Bool
 | some none=>true
 | _=>false
theorem upd_newM {h0:Heap}{kt et:TypeId}{d:TypeDesc}{k v:Value}{es:List (Value×Value×Nat)}{c:Nat}(hu:und E t=some (.map kt et)) (hd:und E kt=some d) (hc:(acheck E 20 kt k&&isSN (afind E kt d k es 0))=true)
  (q:K undef (newBlk h0 (.map (es++[(k,v,c)]) (c+1)))):updK E t (.map (some h0.n)) k v (newBlk h0 (.map es c)) K:=by
 simp only[Bool.and_eq_true]at hc
 have hg:getMap (newBlk h0 (.map es c)) (.map (some h0.n))=some (es,c):=by
  have:Nat.blt h0.n (h0.n+1)=true:=by rw[blt_eq];exact decide_eq_true (by omega)
  simp only[getMap,newBlk_n,this,cond_true,newBlk_same]
 have hf:afind E kt d k es 0=some none:=by
  have:=hc.2
  unfold isSN at this
  split at this
  ·assumption
  ·cases this
 have he:amapUpdate E t (.map (some h0.n)) k v (newBlk h0 (.map es c))=some (newBlk h0 (.map (es++[(k,v,c)]) (c+1))):=by
  simp only[amapUpdate,hu,hd,hg,hc.1,hf,cond_true]
  simp only[newBlk,T.set_set]
 simp only[updK,he,onV_some]
 exact q
theorem isSmap_of {es:List (Nat×Value×Value)}{r:Nat}(hr:r<h.n) (hb:h.b.get r=some (.smap es)):isSmap h r=true:=by
 have:Nat.blt r h.n=true:=by rw[blt_eq];exact decide_eq_true hr
 simp only[isSmap,getSmap,this,cond_true,hb]
theorem insAll_of {s t r:Nat}{es:List (Nat×Value×Value)}{ia:List Op}(h0:ia.isEmpty=false) (hc:ia.all (fun o=>match o with|.insert t' (.tmp s') _ _=>Nat.beq t t'&&Nat.beq s s'|_=>false)=true) (hf:fr.get s=some (.map (some r)))
   (hr:r<h.n) (hb:h.b.get r=some (.smap es)):insAllG E fr h ia=true:=by
 cases ia with
 | nil=>cases h0
 | cons x l =>
   have all:∀ o∈x::l,insOneG E fr t r o=true:=fun o ho=>by
     have:=List.all_eq_true.1 hc o ho
     split at this
     · rename_i t' s' a b
       simp only[Bool.and_eq_true,Nat.beq_eq]at this
       obtain⟨rfl,rfl⟩:=this
       simp only[insOneG,ev,hf,Nat.beq_refl,Bool.and_self]
     · cases this
   have hx:=List.all_eq_true.1 hc x List.mem_cons_self
   split at hx
   · rename_i t' s' a b
     simp only[Bool.and_eq_true,Nat.beq_eq]at hx
     obtain⟨rfl,rfl⟩:=hx
     have e:insMapG E fr (.insert t (.tmp s) a b)=some (t,r):=by simp only[insMapG,ev,hf]
     simp only[insAllG,e,isSmap_of hr hb,Bool.true_and]
     exact List.all_eq_true.2 all
   · cases hx
theorem getMap_smap {es:List (Nat×Value×Value)}{r:Nat}(hb:h.b.get r=some (.smap es)):getMap h (.map (some r))=none:=by
 simp only[getMap]
 cases Nat.blt r h.n with
 | false=>rfl
 | true=>simp only[cond_true,hb]
theorem upd_smap {kt et:TypeId}{d:TypeDesc}{k v:Value}{r:Nat}{es es':List (Nat×Value×Value)}(hr:r<h.n) (hb:h.b.get r=some (.smap es)) (hu:und E t=some (.map kt et)) (hd:und E kt=some d) (hc:(keyOk d&&acheck E 20 kt k)=true) (ha:sadd d k v es=some es')
  (q:K undef { h with b:=h.b.set r (.smap es') }):updK E t (.map (some r)) k v h K:=by
 have h1:Nat.blt r h.n=true:=by rw[blt_eq];exact decide_eq_true hr
 refine⟨_,?_,q⟩
 simp only[amapUpdate,hu,hd,getMap_smap hb,hc,cond_true,getSmap,h1,hb,ha,Option.map_some]
theorem look_smap {kt et:TypeId}{d:TypeDesc}{k v:Value}{ok:Bool}{r:Nat}{es:List (Nat×Value×Value)}{K:Value→Prop}(hr:r<h.n) (hb:h.b.get r=some (.smap es)) (hu:und E t=some (.map kt et)) (hd:und E kt=some d) (hk:keyOk d=true) (hc:acheck E 20 kt k=true)
  (hs:slook d k es=some (some v)) (q:K (cond ok (.tuple #[v,.bool true]) v)):lookK E t (.map (some r)) k ok h K:=by
 have h1:Nat.blt r h.n=true:=by rw[blt_eq];exact decide_eq_true hr
 refine⟨_,?_,q⟩
 simp only[alookup,hu,hd,hc,cond_true,getMap_smap hb,Option.map_none,hk,getSmap,h1,hb,hs]
theorem look_smap0 {kt et:TypeId}{d:TypeDesc}{k z:Value}{ok:Bool}{r:Nat}{es:List (Nat×Value×Value)}{K:Value→Prop}(hr:r<h.n) (hb:h.b.get r=some (.smap es)) (hu:und E t=some (.map kt et)) (hd:und E kt=some d) (hk:keyOk d=true) (hc:acheck E 20 kt k=true)
  (hz:zero E et=some z) (hs:slook d k es=some none) (q:K (cond ok (.tuple #[z,.bool false]) z)):lookK E t (.map (some r)) k ok h K:=by
 have h1:Nat.blt r h.n=true:=by rw[blt_eq];exact decide_eq_true hr
 refine⟨_,?_,q⟩
 simp only[alookup,hu,hd,hc,cond_true,getMap_smap hb,Option.map_none,hk,getSmap,h1,hb,hs,hz,Option.map_some]
theorem qvalC_of {E0:Env}{f:FuncId}{l:List Value}{v:Value}(hc:l.all constOk=true) (hv:constOk v=true) (hx:E0.ext f l noHeap=none) (w:Ret E0 (.func f) l noHeap fun u _=>u=v):qvalC E0 f l=some v:=by
 obtain⟨d,u,h',e,rfl⟩:=w
 have hq:∀ d',(qval E0 d' f l).isSome=true→qval E0 d' f l=some u:=fun d' hs=>by
  simp only[qval,hc,hx,isNon,Bool.and_self,cond_true]at hs ⊢
  split at hs
  ·rename_i u' h2 e2
   have e3:=callF_mono (E:=E0) (Nat.le_max_left d d') _ _ _ _ e
   have e4:=callF_mono (E:=E0) (Nat.le_max_right d d') _ _ _ _ e2
   rw[e3]at e4
   cases e4
   simp only[hv,cond_true]
  ·cases hs
 have h0:(qval E0 d f l).isSome=true:=by simp only[qval,hc,hx,isNon,Bool.and_self,cond_true,e,hv,Option.isSome_some]
 have hd:∃ d,(qval E0 d f l).isSome=true:=⟨d,h0⟩
 simp only[qvalC,hd,dif_pos]
 exact hq _ (Classical.choose_spec hd)
theorem cw_loopU {nt:Nat}{rd:Option Nat}{a:GC}{Q:Ex→Fr→Heap→Prop}(n:Nat) (hn:n≤1000000) (w:loopN (a.wp E nt rd) Q n fr h):(GC.loop a).wp E nt rd fr h Q:=⟨n,hn,w⟩
theorem loopN_succ {A:Fr→Heap→(Ex→Fr→Heap→Prop)→Prop}{Q:Ex→Fr→Heap→Prop}{n:Nat}:loopN A Q (n+1) fr h=A fr h (loopK (loopN A Q n) Q):=Eq.trans rfl rfl
end
open Go.RowKit
section
variable {P:Program}{ρ:Ren}{h:Heap}{w w':World}
theorem Stp.blkAt {N:Nat}{k:Blk}{o:Obj}(hr:HR P ρ h w) (hb:Below w.heap.size w w') (hN:w.heap.size≤N) (ho:w'.heap[N]?=some o) (hk:BR P (ρ.upd h.n (N,0)) 0 k o) :
  Stp P ρ h w (ρ.upd h.n (N,0)) (newBlk h k) w':=by
 have s:=Stp.of_below hr hb
 have hr':=s.hr
 have hf:=hr.fresh
 have hle:ρ.le (ρ.upd h.n (N,0)):=Ren.le_upd _ hf
 refine⟨hle,⟨fun j b c e=>?_,fun j b c e=>?_,fun j l b c d e e' hn=>?_⟩,by simp[newBlk],fun j x e e0=>?_,fun j hj _=>get_newBlk hj,s.os,s.tape,s.output,s.size,s.frame,fun j b c e hlt=>?_,fun j x e=>?_⟩
 ·by_cases hj:j=h.n
  ·subst hj;rw[Ren.upd_same]at e;cases e
   exact⟨by simp[newBlk],(Array.getElem?_eq_some_iff.1 ho).1⟩
  ·rw[Ren.upd_ne ρ _ hj]at e
   exact⟨Nat.lt_succ_of_lt (hr'.dom j b c e).1,(hr'.dom j b c e).2⟩
 ·by_cases hj:j=h.n
  ·subst hj;rw[Ren.upd_same]at e;cases e
   exact⟨k,o,newBlk_same _ _,ho,hk⟩
  ·rw[Ren.upd_ne ρ _ hj]at e
   obtain⟨k,o',e1,e2,e3⟩:=hr'.blk j b c e
   exact⟨k,o',by rw[get_newBlk (hr'.dom j b c e).1];exact e1,e2,e3.mono hle⟩
 ·by_cases hj:j=h.n
  ·by_cases hl:l=h.n
   ·exact absurd (hj.trans hl.symm) hn
   ·subst hj
    rw[Ren.upd_same]at e;cases e
    rw[Ren.upd_ne ρ _ hl]at e'
    have:=(hr.dom l _ d e').2
    omega
  ·by_cases hl:l=h.n
   ·subst hl
    rw[Ren.upd_same]at e';cases e'
    rw[Ren.upd_ne ρ _ hj]at e
    have:=(hr.dom j _ c e).2
    omega
   ·rw[Ren.upd_ne ρ _ hj]at e
    rw[Ren.upd_ne ρ _ hl]at e'
    rw[get_newBlk (hr'.dom j b c e).1,get_newBlk (hr'.dom l b d e').1]
    exact hr'.inj j l b c d e e' hn
 ·by_cases hj:j=h.n
  ·omega
  ·rw[Ren.upd_ne ρ _ hj]at e;rw[e]at e0;cases e0
 ·by_cases hj:j=h.n
  ·subst hj;rw[Ren.upd_same]at e;cases e;omega
  ·rw[Ren.upd_ne ρ _ hj]at e;exact⟨j,c,e,.inl rfl⟩
 ·have hj:=(hr.dom j x.1 x.2 e).1
  rw[get_newBlk hj]
  intro _;rfl
theorem tabW_of {ng:Nat}{ext:ExtT}{tabs:List (Nat×List Value)}(hlt:tabs.all (fun p=>Nat.blt p.1 ng)=true) (htb:tabsOk tabs h=true) (hc:∀ p∈tabs,p.2.all constOk0=true) (hr:HR P ρ h w) (hg:GR (envOf P ng ext) ρ):TabW tabs ng w:=by
 refine⟨?_,fun p hp=>?_⟩
 · cases ng with
   | zero=>exact Nat.zero_le _
   | succ m =>
     obtain⟨c,e⟩:=hg m (by show m<m+1;omega)
     exact(hr.dom _ _ _ e).2
 · have hpn:p.1<ng:=by have:=List.all_eq_true.1 hlt p hp;simpa[blt_eq]using this
   refine⟨hpn,fun j v e=>?_⟩
   obtain⟨c,eg⟩:=hg p.1 hpn
   obtain⟨k,o,k1,k2,k3⟩:=hr.blk _ _ _ eg
   have ht:=List.all_eq_true.1 htb p hp
   simp only[k1]at ht
   cases k3 with
   | ro g _ hh =>
     have hrow:=rowOk_get (i:=0) ht j v e
     rw[Nat.zero_add]at hrow
     obtain⟨xs,el,f',v',e1,e2,r⟩:=hh j v hrow
     subst e1
     have hv:constOk0 v=true:=List.all_eq_true.1 (hc p hp) v (List.mem_of_getElem? e)
     have:v'=v:=VR.const0_eq hv r
     rw[this]at e2
     exact⟨xs,el,f',k2,e2⟩
   | _=>cases ht
theorem tabN_calls {E:Env}(hE:EnvOK P E) (hx:ExtOK P E) (hn:NamesOK P) {tabs:List (Nat×List Value)}(hc:∀ p∈tabs,p.2.all constOk0=true) {d b:Nat}{f:FuncId}{cs:List Value}{el:TypeId}{h':Heap}(hext:E.ext f [] (heap0 tabs E.ng)=none) (hcs:cs.all constOk0=true) (hu:cs.length<UNK)
   (e:callF E d (.func f) [] (heap0 tabs E.ng)=some (.slice (some ⟨b,0,none⟩) cs.length cs.length,h')) (hb:h'.b.get b=some (.cells cs el true)) (hbn:E.ng≤b) (w:World) (ht:TabW tabs E.ng w) :
   Calls P f #[] w fun e w'=>∃ N,e=.returned (.slice (some ⟨N,0,none⟩) cs.length cs.length)∧w.heap.size≤N∧w'.heap[N]?=some (.cells cs.toArray el (0,0))∧Below w.heap.size w w':=by
 have soft0:∀ i x,renB E.ng i=some x→soft ((heap0 tabs E.ng).b.get i):=fun i x e=>by
   unfold renB at e
   by_cases h:i<E.ng
   · rcases heap0_get (tabs:=tabs) h with hd|⟨p,_,_,hd⟩
     · exact .inl hd
     · exact .inr (.inl ⟨_,hd⟩)
   · rw[if_neg h]at e;cases e
 refine(callF_calls hE hx hn hext e (heap0_hr ht hc) (fun g hlt=>⟨0,by simp only[renB];rw[if_pos hlt]⟩) .nil).mono fun e w' hh=>?_
 obtain⟨v',ρ',rfl,r,hs⟩:=hh
 have hB:=hs.below soft0
 generalize hL:cs.length=L at r hu ⊢
 cases r with
 | sliceU _ _ _ _ _ _ _=>exact absurd hu (Nat.lt_irrefl _)
 | @slice _ N c _ _ _ hρ _ =>
   obtain⟨k,o,k1,k2,k3⟩:=hs.hr.blk _ _ _ hρ
   rw[hb]at k1
   cases k1
   refine⟨N,rfl,?_,?_,hB⟩
   · rcases Nat.lt_or_ge N w.heap.size with hlt|hge
     · obtain⟨j,d',ej,hj⟩:=hs.img _ _ _ hρ hlt
       rcases hj with rfl|hj
       · unfold renB at ej
         rw[if_neg (by omega)]at ej;cases ej
       · exact absurd (soft0 _ _ ej) hj
     · exact hge
   · cases k3 with
     | cells _ xs _ _ hv hsz =>
       rw[if_pos rfl]at hsz
       have:xs=cs.toArray:=by
         obtain⟨xl⟩:=xs
         congr 1
         apply List.ext_getElem?
         intro i
         simp only[List.size_toArray]at hsz
         simp only[List.getElem?_toArray]at hv
         cases hi:cs[i]? with
         | none =>
           have hl:=List.getElem?_eq_none_iff.1 hi
           exact List.getElem?_eq_none (by omega)
         | some v =>
           obtain⟨v',e1,r⟩:=hv i v hi
           rw[e1,VR.const0_eq (List.all_eq_true.1 hcs v (List.mem_of_getElem? hi)) r]
       rw[this]at k2
       exact k2
def extTabN (tabs:List (Nat×List Value)) (k:FuncId) (cs:List Value) (el:TypeId) (base:ExtT) (f:FuncId) (args:List Value) (h:Heap):Option (Option (Value×Heap)) :=
 cond (Nat.beq f k) (match args with
  | []=>cond (tabsOk tabs h) (some (some (.slice (some ⟨h.n,0,none⟩) cs.length cs.length,newBlk h (.cells cs el true)))) (some none)
  | _=>some none) (base f args h)
theorem extTabN_ok {ng k:Nat}{cs:List Value}{el:TypeId}{base:ExtT}(h0:ExtOK P (envOf P ng base)) {tabs:List (Nat×List Value)}(hlt:tabs.all (fun p=>Nat.blt p.1 ng)=true) (hc:∀ p∈tabs,p.2.all constOk0=true)
   (hcs:cs.all constOk0=true) (hlen:cs.length<UNK) {fn:Func}{c:Code}(hf:P.funcs[k]?=some fn) (hb:fn.body=some c) (hn:NamesOK P)
   (hk:∀ w:World,TabW tabs ng w→Calls P k #[] w fun e w'=>∃ N,e=.returned (.slice (some ⟨N,0,none⟩) cs.length cs.length)∧w.heap.size≤N∧w'.heap[N]?=some (.cells cs.toArray el (0,0))∧Below w.heap.size w w') :
   ExtOK P (envOf P ng (extTabN tabs k cs el base)):=by
 intro f args h v h' e ρ w args' hr hg ra
 simp only[envOf,extTabN,cond_beq]at e
 by_cases hfk:f=k
 · subst hfk
   rw[if_pos rfl]at e
   split at e
   · cases htb:tabsOk tabs h with
     | false=>rw[htb]at e;simp at e
     | true =>
       rw[htb]at e
       simp only[cond_true,Option.some.injEq,Prod.mk.injEq]at e
       obtain⟨rfl,rfl⟩:=e
       have hargs:args'=#[]:=by obtain ⟨l⟩:=args';simp only at ra;cases ra;rfl
       subst hargs
       refine .inr (.inl ⟨f,#[],run_callFunc hf hn hb _ w,(hk w (tabW_of hlt htb hc hr hg)).mono fun e w' hh=>?_⟩)
       obtain⟨N,rfl,hN,ho,hB⟩:=hh
       refine⟨_,_,rfl,.slice _ _ _ (Ren.upd_same _ _ _) hlen,Stp.blkAt hr hB hN ho (.cells _ _ _ _ (fun i v e=>⟨v,by simpa using e,VR.const0 _ (List.all_eq_true.1 hcs v (List.mem_of_getElem? e))⟩) (by simp))⟩
   · simp at e
 · rw[if_neg hfk]at e
   exact h0 f args h v h' e ρ w args' hr hg ra
end
section
variable {E:Env}{fr:Fr}{h:Heap}{K:Value→Heap→Prop}{x y:Operand}{t t':TypeId}
def ixK (E:Env) (t:TypeId) (v i:Value) (K:Value→Prop) [Tok K]:Prop:=onV (aindex E t v i) K
theorem opW_index:opW E (.index t x y) fr h K=evK E fr x fun v=>evK E fr y fun i=>ixK E t v i fun u=>K u h:=by
 simp only[opW,opBy,valOp,flOp,operOf,kindOf,pureOp,evK,onR_map,onV,ixK]
 cases ev E fr x with
 | none=>simp
 | some a =>
   cases ev E fr y with
   | none=>simp
   | some b=>simp
theorem ix_str (ht:isStr E t=true) {l:List UInt8}{k:IntKind}{i:Nat}{K:Value→Prop}(hi:i<l.length) (q:K (.int .u8 (l[i].toNat:Int))):ixK E t (.string ⟨l.toArray⟩) (.int k (i:Int)) K:=by
 refine⟨_,?_,q⟩
 have h0:(0:Int)≤(i:Int):=by omega
 simp only[aindex,isStr_und ht,h0,decide_true,cond_true,Int.toNat_natCast,nth_eq,List.getElem?_eq_getElem hi,Option.map_some]
def ixAOk (E:Env) (t:TypeId) (n sz:Nat):Bool:=match und E t with
 | some (.array len e)=>Nat.beq len n&&match size E e with
   | some s=>Nat.beq s sz&&match E.tab.get e with
     | some i=>Nat.beq i.size sz&&match i.desc with|.struct _|.array _ _=>true|_=>false
     | none=>false
   | none=>false
 | _=>false
theorem takeN_some {α:Type}:∀ (n:Nat) (l:List α),n≤l.length→takeN n l=some (l.take n)
 | 0,_,_=>rfl
 | n+1,[],h=>by simp at h
 | n+1,x::l,h=>by simp only[takeN,takeN_some n l (by simpa using h),Option.map_some,List.take_succ_cons]
theorem ix_arr {n sz:Nat}(ht:ixAOk E t n sz=true) {l:List Value}{k:IntKind}{i:Nat}{K:Value→Prop}(hi:i<n) (hl:i*sz+sz≤l.length) (q:K (.agg ⟨(l.drop (i*sz)).take sz⟩)):ixK E t (.agg ⟨l⟩) (.int k (i:Int)) K:=by
 refine⟨_,?_,q⟩
 unfold ixAOk at ht
 split at ht
 ·rename_i len e hu
  simp only[Bool.and_eq_true,Nat.beq_eq]at ht
  obtain⟨rfl,ht⟩:=ht
  split at ht
  ·rename_i s hs
   simp only[Bool.and_eq_true,Nat.beq_eq]at ht
   obtain⟨rfl,ht⟩:=ht
   split at ht
   ·rename_i inf he
    simp only[Bool.and_eq_true,Nat.beq_eq]at ht
    obtain⟨hz,ht⟩:=ht
    have h0:(0:Int)≤(i:Int):=by omega
    have h1:(i:Int)<(len:Int):=by omega
    have tk:takeN s (l.drop (i*s))=some ((l.drop (i*s)).take s):=takeN_some _ _ (by rw[List.length_drop];omega)
    simp only[aindex,hu,hs,h0,h1,decide_true,Bool.and_self,cond_true,Int.toNat_natCast,partOf,he]
    split at ht
    ·rename_i hd;rw[hd];simp only[hz,dropN_eq,tk,Option.map_some]
    ·rename_i hd;rw[hd];simp only[hz,dropN_eq,tk,Option.map_some]
    ·cases ht
   ·cases ht
  ·cases ht
 ·cases ht
theorem slice_strLH (ht:isStr E t=true) {l:List UInt8}{k k':IntKind}{lo hi:Nat}{K:Value→Prop}(h1:lo≤hi) (h:hi≤l.length) (q:K (.string ⟨((l.take hi).drop lo).toArray⟩)) :
  sliceVK E t (.string ⟨l.toArray⟩) (some (.int k (lo:Int))) (some (.int k' (hi:Int))) none K:=by
 have hs:(⟨l.toArray⟩:ByteArray).size=l.length:=by simp[ByteArray.size]
 have hb:abounds l.length l.length (some (.int k (lo:Int))) (some (.int k' (hi:Int))) none=some (lo,hi,l.length):=by
  simp only[abounds,aboundsM,aboundsL,bnd_of h1,bnd_of h]
 simp only[sliceVK,asliceS,isStr_und ht,hs,hb,Option.map_some,onV_some,str_extract]
 exact q
theorem slice_fromU {sz:Nat}{b off n lo:Nat}{k:IntKind}{K:Value→Prop}(hs:slzOf E t=some sz) (hz:sz≠0) (h1:lo<n) (q:K (.slice (some ⟨b,off+lo*sz,none⟩) (n-lo) UNK)) :
  sliceVK E t (.slice (some ⟨b,off,none⟩) n UNK) (some (.int k (lo:Int))) none none K:=by
 unfold slzOf at hs
 split at hs
 ·rename_i e hu
  refine⟨_,?_,q⟩
  have hb:abounds n n (some (.int k (lo:Int))) none none=some (lo,n,n):=by simp only[abounds,aboundsM,aboundsL,bnd_of (Nat.le_of_lt h1)]
  have e2:Nat.beq UNK UNK2=false:=rfl
  simp only[asliceS,hu,e2,cond_false,Nat.beq_refl,cond_true,hb,hs]
  by_cases h0:lo=0
  ·subst h0
   cases sz with
   | zero=>exact absurd rfl hz
   | succ m=>simp[Nat.beq_refl]
  ·have e3:Nat.beq lo 0=false:=beq_ne h0
   have e4:Nat.beq lo n=false:=beq_ne (by omega)
   cases sz with
   | zero=>exact absurd rfl hz
   | succ m=>simp only[e3,e4,cond_false,Option.map_some,Addr.add_lit]
 ·cases hs
theorem look_es {kt et:TypeId}{d:TypeDesc}{k v:Value}{ok:Bool}{r i c:Nat}{es:List (Value×Value×Nat)}{K:Value→Prop}(hr:r<h.n) (hb:h.b.get r=some (.map es c)) (hu:und E t=some (.map kt et)) (hd:und E kt=some d) (hc:acheck E 20 kt k=true)
  (hs:afind E kt d k es 0=some (some (i,v))) (q:K (cond ok (.tuple #[v,.bool true]) v)):lookK E t (.map (some r)) k ok h K:=by
 have h1:Nat.blt r h.n=true:=by rw[blt_eq];exact decide_eq_true hr
 refine⟨_,?_,q⟩
 simp only[alookup,hu,hd,hc,cond_true,getMap,h1,hb,Option.map_some,hs]
theorem look_es0 {kt et:TypeId}{d:TypeDesc}{k z:Value}{ok:Bool}{r c:Nat}{es:List (Value×Value×Nat)}{K:Value→Prop}(hr:r<h.n) (hb:h.b.get r=some (.map es c)) (hu:und E t=some (.map kt et)) (hd:und E kt=some d) (hc:acheck E 20 kt k=true)
  (hz:zero E et=some z) (hs:afind E kt d k es 0=some none) (q:K (cond ok (.tuple #[z,.bool false]) z)):lookK E t (.map (some r)) k ok h K:=by
 have h1:Nat.blt r h.n=true:=by rw[blt_eq];exact decide_eq_true hr
 refine⟨_,?_,q⟩
 simp only[alookup,hu,hd,hc,cond_true,getMap,h1,hb,Option.map_some,hs,hz]
theorem nxt_strA {r pos:Nat}{l:List UInt8}(hr:h.b.get r=some (.siter ⟨l.toArray⟩ pos)) (hp:pos<l.length) (ha:l[pos].toNat<128) (q:K (.tuple #[.bool true,.int .i64 pos,.int .i32 (l[pos].toNat:Int)]) { h with b:=h.b.set r (.siter ⟨l.toArray⟩ (pos+1)) }):nxtK true (.pointer (some ⟨r,0,none⟩)) h K:=by
 have hs:(⟨l.toArray⟩:ByteArray).size=l.length:=by simp[ByteArray.size]
 have hg:((⟨l.toArray⟩:ByteArray)[pos]'(by rw[hs];exact hp))=l[pos]:=rfl
 have hd:=decode_ascii ⟨l.toArray⟩ pos (by rw[hs];exact hp) (by rw[hg];exact ha)
 rw[hg]at hd
 refine nxt_str hr (by rw[hs];exact hp) ?_
 rw[hd]
 exact q
def minK (a b:Value) (K:Value→Prop) [Tok K]:Prop:=onV (amax2 false a b) K
theorem opW_min:opW E (.call ⟨.builtin .min,⟨[x,y]⟩,⟨[t,t']⟩⟩) fr h K=evK E fr x fun a=>evK E fr y fun b=>minK a b fun u=>K u h:=by
 simp only[opW,opBy,valOp,flOp,qcall,operOf,kindOf,pureOp,evs,mapOpt,evK,onR_map,onV,minK]
 cases ev E fr x with
 | none=>simp
 | some a =>
   cases ev E fr y with
   | none=>simp
   | some b =>
     simp only[Option.some.injEq,exists_eq_left',afold]
     cases amax2 false a b<;>simp
theorem min_int {k k':IntKind}{a b:Int}{K:Value→Prop}:minK (.int k a) (.int k' b) K=K (.int k (min a b)):=by
 simp only[minK,amax2,cond_false,onV_some']
 rw[Int.min_def]
 by_cases hl:b<a
 ·rw[if_pos hl,if_neg (by omega)]
 ·rw[if_neg hl]
  by_cases he:a=b
  ·subst he;simp
  ·rw[if_pos (by omega)]
def isBB (E:Env) (t:TypeId):Bool:=match und E t with
 | some (.slice e)=>match und E e with|some (.int .u8)=>true|_=>false
 | _=>false
def bbK (E:Env) (t:TypeId) (v:Value) (h:Heap) (K:Value→Heap→Prop) [Tok K]:Prop:=onR (asbytes E t t v h) K
theorem opW_bb (hb:isBB E t=true):opW E (.convert t t x) fr h K=evK E fr x fun v=>bbK E t v h fun u h'=>K u h':=by
 unfold isBB at hb
 split at hb
 ·rename_i e hu
  rw[opW_act (by simp[kindOf,hu]) (by simp)]
  simp only[actOp,operOf,evK,onV,bbK]
  cases ev E fr x with
  | none=>simp[onR]
  | some v=>simp
 ·cases hb
theorem bb_of {i n c:Nat}{cs:List Value}{e:TypeId}(hb:isBB E t=true) (hi:i<h.n) (hc:c<UNK) (hg:h.b.get i=some (.cells cs e true)) (q:K (.slice (some ⟨i,0,none⟩) n c) { h with b:=h.b.set i (.ro fun j=>nth cs j) }):bbK E t (.slice (some ⟨i,0,none⟩) n c) h K:=by
 unfold isBB at hb
 split at hb
 ·rename_i e0 hu
  split at hb
  ·rename_i hu2
   have h1:Nat.blt i h.n=true:=by rw[blt_eq];exact decide_eq_true hi
   have h2:Nat.blt c UNK=true:=by rw[blt_eq];exact decide_eq_true hc
   exact⟨_,_,by simp only[asbytes,hu,hu2,hg,Nat.beq_refl,h1,h2,Bool.and_self,cond_true],q⟩
  ·cases hb
 ·cases hb
theorem app_full {e:TypeId}{sz n m:Nat}{a:Addr}{y:Value}{cs new:List Value}(hn:n<UNK) (hc:firstCells h sz n (.slice (some a) n n)=some cs) (hy:lenOf y=some m) (hm:m≠0) (hsz:n+m≤1000000)
  (hnew:firstCells h sz m y=some new) (hone:new.all oneCell=true) (k:K (.slice (some ⟨h.n,0,none⟩) (n+m) UNK) (newBlk h (.cells (cs++new) e false))):appK e sz (.slice (some a) n n) y h K:=by
 simp only[appK,hy]
 refine⟨⟨by omega,.inr hm⟩,fun h0=>absurd h0 hm,fun _=>?_⟩
 rw[hnew,onV_some']
 refine⟨hone,?_⟩
 have:appendRow h e sz (some a) n n m new=some (.slice (some ⟨h.n,0,none⟩) (n+m) UNK,newBlk h (.cells (cs++new) e false)):=by
  have f1:Nat.beq n UNK2=false:=by
   cases hb:Nat.beq n UNK2 with
   | true=>have:=Nat.eq_of_beq_eq_true hb;unfold UNK2 at this;unfold UNK at hn;omega
   | false=>rfl
  have f2:Nat.beq n UNK=false:=by
   cases hb:Nat.beq n UNK with
   | true=>have:=Nat.eq_of_beq_eq_true hb;omega
   | false=>rfl
  have f3:Nat.ble (n+m) n=false:=by
   cases hb:Nat.ble (n+m) n with
   | true=>have:=Nat.le_of_ble_eq_true hb;omega
   | false=>rfl
  unfold appendRow
  simp only[f1,f2,f3,cond_false,hc]
 rw[this,onR_some]
 exact k
def ustrK (E:Env) (ts:List TypeId) (a b:Value) (h:Heap) (K:Value→Heap→Prop) [Tok K]:Prop:=onR (aunsafeString E ts [a,b] h) K
theorem opW_ustr {ts:Array TypeId}:opW E (.call ⟨.builtin .unsafeString,⟨[x,y]⟩,ts⟩) fr h K=evK E fr x fun a=>evK E fr y fun b=>ustrK E ts.toList a b h K:=by
 simp only[opW,opBy,valOp,flOp,qcall,operOf,kindOf,actOp,evs,mapOpt,evK,onV,ustrK]
 cases ev E fr x with
 | none=>simp[onR]
 | some a =>
   cases ev E fr y with
   | none=>simp[onR]
   | some b=>simp
def sldK (v:Value) (K:Value→Prop) [Tok K]:Prop:=onV (asliceData v) K
theorem opW_sld {ts:Array TypeId}:opW E (.call ⟨.builtin .unsafeSliceData,⟨[x]⟩,ts⟩) fr h K=evK E fr x fun a=>sldK a fun u=>K u h:=by
 simp only[opW,opBy,valOp,flOp,qcall,operOf,kindOf,pureOp,evs,mapOpt,evK,onR_map,onV,sldK]
 cases ev E fr x with
 | none=>simp
 | some a=>simp
end
end Go.Ev
