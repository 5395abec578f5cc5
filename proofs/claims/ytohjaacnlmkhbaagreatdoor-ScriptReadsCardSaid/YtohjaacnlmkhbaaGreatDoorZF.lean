/- THE EVALUATOR: a deterministic reading of the program's code over an abstract heap, and that the model does what it says (6). Conditions: none beyond each theorem's own. -/
import Derived.Test.YtohjaacnlmkhbaaGreatDoorZE
import Derived.Shelf.Strconv.Itoa2
import Derived.Lib.ItoaNum
import Derived.Lib.ItoaMem
import Derived.Lib.SplitLaws
import Derived.Lib.IndexBytes
import Derived.Lib.CountLaws
import Derived.Laws.RangeString
set_option linter.unusedSimpArgs false
set_option linter.unusedVariables false
namespace Go.Ev
open Go.RowKit
section
variable {P:Program}
def iP (k:FuncId) (g:List Value→Heap→Option Value) (base:fU) (f:FuncId) (args:List Value) (h:Heap):Option (Option (Value×Heap)) :=
 cond (Nat.beq f k) (some ((g args h).map (·,h))) (base f args h)
theorem gQ {ng k:Nat}{g:List Value→Heap→Option Value}{base:fU}(h0:cf P (bP P ng base)) {fn:Func}{c:Code}(hf:P.funcs[k]?=some fn) (hb:fn.body=some c) (hn:eC P)
  (hk:∀ args h v,g args h=some v→∀ (ρ:Ren) (w:World) (args':Array Value),HR P ρ h w→(∀ i,i<ng→∃ c,ρ i=some (i,c))→dp ρ args args'.toList →
   Calls P k args' w fun e w'=>∃ v',e=.returned v'∧VR ρ v v'∧Below w.heap.size w w'):cf P (bP P ng (iP k g base)):=by
 intro f args h v h' e ρ w args' hr hg ra
 simp only[bP,iP,aD]at e
 by_cases hfk:f=k
 ·subst hfk;rw[if_pos rfl]at e;simp only[Option.some.injEq,Option.map_eq_some_iff,Prod.mk.injEq]at e;obtain⟨u,e,rfl,rfl⟩:=e;refine .inr (.inl ⟨f,args',dz hf hn hb args' w,(hk args _ _ e ρ w args' hr (fun i hi=>hg i hi) ra).mono fun e w' hh=>?_⟩);obtain⟨v',rfl,r,hbl⟩:=hh;exact⟨v',ρ,rfl,r,bV.oe hr hbl⟩
 ·rw[if_neg hfk]at e;exact h0 f args h v h' e ρ w args' hr hg ra
theorem i_ {E:Env}{k:FuncId}{g:List Value→Heap→Option Value}{base:fU}{args:List Value}{h:Heap}{K:Value→Heap→Prop}{v:Value}(he:E.ext k args h=iP k g base k args h) (hg:g args h=some v) (q:K v h):bT E (.func k) args h K:=by refine bT.ext (v:=v) ?_ q;rw[he];simp only[iP,Nat.beq_refl,cond_true,hg,Option.map_some]
def nB (u n:Nat):List Value:=(List.range n).map fun t=>.int .u8 ((Lib.dg u (n-1-t)).toNat:Int)
theorem kp (u n:Nat):(nB u n).length=n:=by simp[nB]
def isByte:Value→Bool
 | .int .u8 n=>decide (0≤n)&&decide (n<256)
 | _=>false
def CX (cs:List Value) (off n:Nat) (u:Int):Bool:=decide (off+n≤cs.length)&&((cs.drop off).take n).all isByte&&decide (0≤u)&&decide (u.toNat<10 ^ n)&&decide (u<18446744073709551616)&&decide (n<100)
def fmtG (args:List Value) (h:Heap):Option (Value×Heap) :=
 match args with
 | [.slice (some ⟨i,off,none⟩) n cap,.int .u64 u] =>
   match h.b.get i with
   | some (.cells cs e true)=>cond (Nat.blt i h.n&&Nat.blt cap cY&&CX cs off n u) (some (.tuple #[],{ h with b:=h.b.set i (.cells (cs.take off++nB u.toNat n++cs.drop (off+n)) e true) })) none
   | _=>none
 | _=>none
def uL (k:FuncId) (base:fU) (f:FuncId) (args:List Value) (h:Heap):Option (Option (Value×Heap)):=cond (Nat.beq f k) (some (fmtG args h)) (base f args h)
theorem FD {E:Env}{k:FuncId}{base:fU}{i off n cap u:Nat}{cs:List Value}{e:TypeId}{h:Heap}{K:Value→Heap→Prop}(he:∀ args,E.ext k args h=uL k base k args h) (hb:h.b.get i=some (.cells cs e true)) (hi:i<h.n)
  (hc:cap<cY) (h1:off+n≤cs.length) (h2:((cs.drop off).take n).all isByte=true) (h3:u<10 ^ n) (h4:u<18446744073709551616) (h5:n<100)
  (q:K (.tuple #[]) { h with b:=h.b.set i (.cells (cs.take off++nB u n++cs.drop (off+n)) e true) }):bT E (.func k) [.slice (some ⟨i,off,none⟩) n cap,.int .u64 u] h K:=by
 refine bT.FI (h':={ h with b:=h.b.set i (.cells (cs.take off++nB u n++cs.drop (off+n)) e true) }) ?_ q
 rw[he]
 have hh:(Nat.blt i h.n&&Nat.blt cap cY&&CX cs off n (u:Int))=true:=by
  have a0:(0:Int)≤(u:Int):=by omega
  have a4:(u:Int)<18446744073709551616:=by omega
  simp[CX,blt_eq,hi,hc,h1,h2,h3,a0,a4,h5]
 simp only[uL,Nat.beq_refl,cond_true,fmtG,hb,hh,Int.toNat_natCast]
theorem IY {ng k:Nat}{base:fU}(h0:cf P (bP P ng base)) {fn:Func}{c:Code}(hf:P.funcs[k]?=some fn) (hb:fn.body=some c) (hn:eC P)
   (hk:∀ (ib off cap u:Nat) (d:Array UInt8) (w:World),Sort.Holds (fun (b:UInt8)=>Value.int .u8 (b.toNat:Int)) w ib off d→u<10 ^ d.size→u<18446744073709551616→d.size<4611686018427387904 →
     Calls P k #[.slice (some ⟨ib,off,none⟩) d.size cap,.int .u64 u] w fun e w'=>e=.returned (.tuple #[])∧∃ (n v':Nat) (dk:Array UInt8),w'=(Sort.putRow (fun (b:UInt8)=>Value.int .u8 (b.toNat:Int)) w ib off dk).drewN n∧Lib.FmtInv d.size u 0 v' dk) :
   cf P (bP P ng (uL k base)):=by
 intro f args h v h' e ρ w args' hr hg ra
 simp only[bP,uL,aD]at e
 by_cases hfk:f=k
 · subst hfk;rw[if_pos rfl]at e;simp only[Option.some.injEq]at e;unfold fmtG at e;split at e
   · rename_i i off n cap u;split at e
     · rename_i cs el hbl;cases hck:(Nat.blt i h.n&&Nat.blt cap cY&&CX cs off n u) with
       | false=>rw[hck]at e;simp at e
       | true =>
         rw[hck]at e;simp only[cond_true,Option.some.injEq,Prod.mk.injEq]at e;obtain⟨rfl,rfl⟩:=e;simp only[Bool.and_eq_true,blt_eq,decide_eq_true_eq,CX]at hck;obtain⟨⟨hi,hcap⟩,⟨⟨⟨⟨h1,h2⟩,h3⟩,h4⟩,h5⟩,h6⟩:=hck;obtain⟨u,rfl⟩:=Int.eq_ofNat_of_zero_le h3;simp only[Int.toNat_natCast]at h4 ⊢;obtain⟨l⟩:=args';simp only at ra;cases ra with
         | cons r1 t =>
           cases t with
           | cons r2 t =>
             cases t
             cases r2
             have hne:cap≠cY:=by omega
             have hne2:cap≠fY:=by unfold fY;unfold cY at hcap;omega
             cases r1 with
             | dG _ _ _ _ _ _ _=>exact absurd rfl hne
             | ey _ _ _=>exact absurd rfl hne2
             | @slice _ b c _ _ _ hρ _ =>
               obtain⟨k0,o,e1,e2,e3⟩:=hr.ib i b c hρ
               rw[hbl]at e1
               cases e1
               cases e3 with
               | cells _ xs _ _ hc hs =>
                 simp only[if_true]at hs
                 have hbytes:∀ j,j<n→∃ z:Nat,z<256∧xs[off+j]?=some (.int .u8 (z:Int)):=by
                   intro j hj;have hg1:((cs.drop off).take n)[j]?=cs[off+j]?:=by rw[List.getElem?_take_of_lt hj,List.getElem?_drop]
                   have hg2:cs[off+j]?=some (cs[off+j]'(by omega)):=List.getElem?_eq_getElem _;have hm:=List.all_eq_true.1 h2 _ (List.mem_of_getElem? (hg1.trans hg2));obtain⟨v',ev',r⟩:=hc _ _ hg2;generalize cs[off+j]'(by omega)=x at hm r;unfold isByte at hm;split at hm;· rename_i z;simp only[Bool.and_eq_true,decide_eq_true_eq]at hm;cases r;obtain⟨z,rfl⟩:=Int.eq_ofNat_of_zero_le hm.1;exact⟨z,by omega,ev'⟩
                   · cases hm
                 let byteAt:Nat→UInt8:=fun j=>match xs[off+j]? with|some (.int .u8 z)=>UInt8.ofNat z.toNat|_=>0
                 let d:Array UInt8:=((List.range n).map byteAt).toArray
                 have hds:d.size=n:=by simp[d]
                 have hH:Sort.Holds (fun (b:UInt8)=>Value.int .u8 (b.toNat:Int)) w b off d:=by
                   intro j hj;rw[hds]at hj;obtain⟨z,hz,ez⟩:=hbytes j hj;have hdj:d[j]! = UInt8.ofNat z:=by rw[getElem!_pos d j (by rw[hds];exact hj)];simp only[d,List.getElem_toArray,List.getElem_map,List.getElem_range,byteAt,ez,Int.toNat_natCast]
                   constructor
                   · rw[cell_of e2,ez,hdj];have:(UInt8.ofNat z).toNat=z:=by simp;omega
                     simp only[this]
                   · simp[World.frozen?,e2]
                 have hc2:=hk b off cap u d w hH (by rw[hds];exact h4) (by omega) (by rw[hds];omega)
                 rw[hds]at hc2
                 refine .inr (.inl ⟨f,_,dz hf hn hb _ w,hc2.mono fun e w' hh=>?_⟩)
                 obtain⟨rfl,m,v',dk,rfl,hF⟩:=hh
                 have hdk:dk.size=n:=hF.size
                 refine⟨_,ρ,rfl,.tuple _ _ .nil,?_⟩
                 have hheap:(Sort.putRow (fun (b:UInt8)=>Value.int .u8 (b.toNat:Int)) w b off dk).heap=w.heap.setIfInBounds b (.cells (Sort.putCells (fun (b:UInt8)=>Value.int .u8 (b.toNat:Int)) off dk xs) el (0,0)):=by
                   unfold Sort.putRow Sort.mapBlock;apply Array.ext_getElem?;intro q;simp only[Array.getElem?_modify,Array.getElem?_setIfInBounds];by_cases hq:b=q;· subst hq;obtain⟨hl2,e2'⟩:=Array.getElem?_eq_some_iff.1 e2;simp[Sort.onCells,hl2,e2']
                   · simp[hq]
                 have aB:=(Array.getElem?_eq_some_iff.1 e2).1
                 refine bV.write hr hρ hbl (by simp[soft]) (o':=.cells (Sort.putCells (fun (b:UInt8)=>Value.int .u8 (b.toNat:Int)) off dk xs) el (0,0)) ?_ ?_ ?_ (fun j hj=>?_) rfl rfl rfl
                 · refine .cells _ _ _ _ (fun j v hv=>?_) ?_
                   · have hover:=qU (cs:=cs) (xs:=nB u n) (off:=off) (r:=cs.take off++nB u n++cs.drop (off+n)) (by rw[kp]) (by rw[kp];exact h1) j;rw[hover,kp]at hv;simp only[Sort.putCells,Array.getElem?_mapIdx,hdk];by_cases a1:j<off;· rw[if_pos a1]at hv;obtain⟨v',e',r⟩:=hc j v hv;refine⟨v',?_,r⟩;rw[e'];simp[show ¬(off≤j∧j<off+n) by omega]
                     · rw[if_neg a1]at hv;by_cases a2:j<off+n
                       · rw[if_pos a2]at hv;have hj:j-off<n:=by omega
                         simp only[nB,List.getElem?_map,List.getElem?_range hj,Option.map_some,Option.some.injEq]at hv;subst hv;have hx:xs[j]?=some (xs[j]'(by omega)):=Array.getElem?_eq_getElem _;refine⟨_,by rw[hx];simp only[Option.map_some,show (off≤j∧j<off+n) from ⟨by omega,a2⟩,if_true];rfl,?_⟩;rw[hF.done (j-off) (Nat.zero_le _) hj];exact .int _ _
                       · rw[if_neg a2]at hv;obtain⟨v',e',r⟩:=hc j v hv;refine⟨v',?_,r⟩;rw[e'];simp[show ¬(off≤j∧j<off+n) by omega]
                   · simp only[if_true,Sort.putCells,Array.size_mapIdx];rw[hs];simp[kp];omega
                 · show (Sort.putRow _ w b off dk).heap.size=_;rw[hheap];simp
                 · show (Sort.putRow _ w b off dk).heap[b]?=_;rw[hheap];simp[aB]
                 · show (Sort.putRow _ w b off dk).heap[j]?=_;rw[hheap,Array.getElem?_setIfInBounds,if_neg (Ne.symm hj)]
     · cases e
   · cases e
 · rw[if_neg hfk]at e;exact h0 f args h v h' e ρ w args' hr hg ra
end
open Go.RowKit
section
variable {P:Program}
def strs:List Value→Option (List ByteArray)
 | []=>some []
 | .string s::l=>(strs l).map (s::·)
 | _=>none
theorem vX:∀ {l:List Value}{xs:List ByteArray},strs l=some xs→l=xs.map Value.string
 | [],xs,h=>by simp only[strs,Option.some.injEq]at h;subst h;rfl
 | v::l,xs,h=>by
   cases v with
   | string s =>
     simp only[strs,Option.map_eq_some_iff]at h
     obtain⟨ys,h,rfl⟩:=h
     rw[vX h];rfl
   | _=>simp[strs]at h
theorem LJ (xs:List ByteArray):strs (xs.map Value.string)=some xs:=by
 induction xs with
 | nil=>rfl
 | cons s l ih=>simp[strs,ih]
end
section
variable {E:Env}{t t':TypeId}{c:Bool}{h:Heap}
theorem cM {a b:ByteArray}{K:Value→Prop}:cd E .add t c (.string a) (.string b) K=(a.size+b.size<1000000000∧K (.string (a++b))):=by
 rw[F_ (by simp) rfl];by_cases hs:a.size+b.size<1000000000
 ·have:Nat.blt (a.size+b.size) 1000000000=true:=by rw[blt_eq];exact decide_eq_true hs
  simp only[dN,this,cond_true,aU,hs,true_and]
 ·have:Nat.blt (a.size+b.size) 1000000000=false:=by rw[blt_eq];exact decide_eq_false hs
  simp only[dN,this,cond_false,J9,hs,false_and]
section
variable {J:Value→Prop}{a b:Nat}
end
theorem oJ {k:IntKind}{p q:Nat}(hpq:p≤q):bound (.int k (p:Int)) q=some p:=by
 have:(decide ((0:Int)≤(p:Int))&&decide ((p:Int)≤(q:Int)))=true:=by simp only[Bool.and_eq_true,decide_eq_true_eq];omega
 simp only[bound,this,cond_true,Int.toNat_natCast]
theorem pK {n sz b off hi:Nat}{k:IntKind}{K:Value→Prop}(ha:wM E t=some (n,sz)) (h1:hi≤n) (h0:0<n) (hn:n<1000000) (q:K (.slice (some ⟨b,off,none⟩) hi n)) :
   fe E t (.pointer (some ⟨b,off,none⟩)) none (some (.int k (hi:Int))) none K:=by
 unfold wM at ha
 split at ha
 · rename_i n e hu;cases hs:size E e with
   | none=>rw[hs]at ha;cases ha
   | some sz' =>
     rw[hs]at ha;cases ha;have hl:Nat.blt n 1000000=true:=by rw[blt_eq];exact decide_eq_true hn
     have hab:cg n n none (some (.int k (hi:Int))) none=some (0,hi,n):=by simp only[cg,fp,oJ h1,dL]
     have hne:Nat.beq n 0=false:=lK (by omega);simp only[fe,eB,hu,hl,cond_true,hab,hs,hne,cond_false,Nat.zero_mul,aU,Nat.sub_zero];rw[Addr.add_lit,Nat.add_zero];exact q
 · cases ha
theorem pI {n sz b off lo hi:Nat}{k k':IntKind}{K:Value→Prop}(ha:wM E t=some (n,sz)) (h2:lo≤hi) (h1:hi≤n) (h0:lo<n) (hn:n<1000000) (q:K (.slice (some ⟨b,off+lo*sz,none⟩) (hi-lo) (n-lo))) :
   fe E t (.pointer (some ⟨b,off,none⟩)) (some (.int k (lo:Int))) (some (.int k' (hi:Int))) none K:=by
 unfold wM at ha
 split at ha
 · rename_i n e hu;cases hs:size E e with
   | none=>rw[hs]at ha;cases ha
   | some sz' =>
     rw[hs]at ha;cases ha;have hl:Nat.blt n 1000000=true:=by rw[blt_eq];exact decide_eq_true hn
     have hab:cg n n (some (.int k (lo:Int))) (some (.int k' (hi:Int))) none=some (lo,hi,n):=by simp only[cg,fp,oJ h1,dL,oJ h2]
     have hne:Nat.beq n lo=false:=lK (by omega);simp only[fe,eB,hu,hl,cond_true,hab,hs,hne,cond_false,aU];rw[Addr.add_lit];exact q
 · cases ha
def aw (b:UInt8):Value:=.int .u8 (b.toNat:Int)
theorem qw:∀ (l:List UInt8),aA byteOf (l.map aw)=some l
 | []=>rfl
 | b::l=>by simp only[List.map_cons,aA,qw l];simp[aw,byteOf]
theorem jn {a:Addr}{n m:Nat}{l:List UInt8}{K:Value→Prop}(hc:ax h a n=some (l.map aw)) (q:K (.string ⟨l.toArray⟩)):qW h (.slice (some a) n m) K:=by simp only[qW,hc,qw,Option.map_some,aU];exact q
theorem qi (u:Nat):nB u (Lib.nDigits u)=(Lib.decDigits u).map aw:=by rw[Lib.decDigits_eq u];simp[nB,aw]
theorem AJ (u:Nat):u<10 ^ Lib.nDigits u:=Lib.lt_pow_nDigits u
theorem aY (l r:List UInt8):(⟨l.toArray⟩:ByteArray)++⟨r.toArray⟩=⟨(l++r).toArray⟩:=by apply ByteArray.ext;simp[ByteArray.data_append]
theorem ak (l:List UInt8):(⟨l.toArray⟩:ByteArray).size=l.length:=by simp[ByteArray.size]
end
open Go.RowKit
section
variable {P:Program}
end
section
variable {E:Env}{fr:Fr}{h:Heap}{x:Operand}{t t':TypeId}
theorem BK {d:Nat}{l:List GO}(hb:rM E t t'=true):Bo E (⟨none,some d,.convert t t' x⟩::l) fr h=((bM E fr x fun v=>qW h v fun u=>Ft fr d u)∧Bo E l fr h):=by
 have hk:kindOf E (.convert t t' x)=.read:=by
  unfold rM at hb;split at hb;·rename_i e hu1 hu2;simp[kindOf,hu1,hu2]
  ·cases hb
 have e1:=ow (fr:=fr) (h:=h) (K:=fun v _=>Ft fr d v) hk (by simp);have e2:=Dg (x:=x) (fr:=fr) (h:=h) (K:=fun v _=>Ft fr d v) hb;have e:(∃ v v' d',dP E fr (aQ (.convert t t' x)) h=some v∧some d=some d'∧fr.get d'=some v'∧aW 50 v v'=true)=(bM E fr x fun v=>qW h v fun u=>Ft fr d u):=by
  rw[← e2,e1];unfold dq Ft;apply propext;constructor;·rintro⟨v,v',d',a,b,c,g⟩;cases b;exact⟨v,a,v',c,g⟩
  ·rintro⟨v,a,v',c,g⟩;exact⟨v,v',d,a,rfl,c,g⟩
 simp only[Bo,Ea,e]
theorem qu {n:Nat}{s:ByteArray}:(aW n (.string s) (.string s)=true)=True:=by cases n<;>simp[aW,eqStr]
def Va (E:Env) (t t':TypeId):Bool:=match a_ E t,a_ E t' with
 | some .string,some (.slice e)=>(match a_ E e with|some (.int .u8)=>true|_=>false)
 | _,_=>false
def sbK (h:Heap) (v:Value) (K:Value→Heap→Prop) [Tok K]:Prop:=match v with
 | .string s=>s.size≠0∧s.size≤1000000∧K (.slice (some ⟨h.n,0,none⟩) s.size cY) (af h (.ro fun j=>nth (fR s) j))
 | _=>False
theorem vF {K:Value→Heap→Prop}(hb:Va E t t'=true):bY E (.convert t t' x) fr h K=bM E fr x fun v=>sbK h v fun u h'=>K u h':=by
 unfold Va at hb;split at hb
 · rename_i e hu1 hu2;split at hb
   · rename_i hu3;rw[mV (by simp[kindOf,hu1,hu2]) (by simp)];simp only[iw,aQ,bM,dq,sbK];cases ev E fr x with
     | none=>simp[kg]
     | some v =>
       simp only[Option.some.injEq,exists_eq_left',o8,hu1,hu2];cases v with
       | string s =>
         simp only[hu3]
         by_cases h1:s.size=0
         · simp[h1,kg]
         · by_cases h2:s.size≤1000000
           · have:(!Nat.beq s.size 0&&Nat.ble s.size 1000000)=true:=by simp only[Bool.and_eq_true,Bool.not_eq_true',ble_eq,decide_eq_true_eq];exact⟨by cases hh:Nat.beq s.size 0 with
                 | false=>rfl
                 | true=>exact absurd (Nat.eq_of_beq_eq_true hh) h1,h2⟩
             rw[this,cond_true,fE];simp only[ne_eq,h1,not_false_eq_true,h2,true_and];rfl
           · have:(!Nat.beq s.size 0&&Nat.ble s.size 1000000)=false:=by rw[Bool.and_eq_false_iff];right;rw[ble_eq];exact decide_eq_false h2
             rw[this,cond_false];simp[kg,h2]
       | _=>simp[kg]
   · cases hb
 · cases hb
theorem Bv {l:List UInt8}{k:Nat}(hk:k<l.length) {h:Heap}{g:Nat→Option Value}{i:Nat}(hi:i<h.n) (hb:h.b.get i=some (.ro fun j=>nth (fR ⟨l.toArray⟩) j)):cellAt h ⟨i,k,none⟩=some (.int .u8 (l[k].toNat:Int)):=by
 have h1:nth (fR ⟨l.toArray⟩) k=some (.int .u8 (l[k].toNat:Int)):=by rw[bK,fR,List.getElem?_map,show (⟨l.toArray⟩:ByteArray).data.toList=l from rfl,List.getElem?_eq_getElem hk];rfl
 unfold cellAt ax;have h2:Nat.blt i h.n=true:=by rw[blt_eq];exact decide_eq_true hi
 simp only[show Nat.beq 1 0=false from rfl,cond_false,h2,cond_true,hb,gR,h1]
end
open Go.RowKit
section
variable {P:Program}
theorem bV.Vh {ρ:Ren}{h:Heap}{w w':World}{N:Nat}{o:Obj}(hr:HR P ρ h w) (hb:Below w.heap.size w w') (hN:w.heap.size≤N) (ho:w'.heap[N]?=some o) :
  bV P ρ h w (ρ.tK h.n (N,0)) (af h .dead) w':=by
 have s:=bV.oe hr hb
 have hr':=s.hr
 have hf:=hr.fresh
 have hle:ρ.le (ρ.tK h.n (N,0)):=Ren.lQ _ hf
 refine⟨hle,⟨fun j b c e=>?_,fun j b c e=>?_,fun j l b c d e e' hn=>?_⟩,by simp[af],fun j x e e0=>?_,fun j hj _=>cE hj,s.os,s.tape,s.output,s.size,s.frame,fun j b c e aB=>?_,fun j x e=>?_⟩
 ·by_cases hj:j=h.n;·subst hj;rw[Ren.bh]at e;cases e;exact⟨by simp[af],(Array.getElem?_eq_some_iff.1 ho).1⟩
  ·rw[Ren.cC ρ _ hj]at e;exact⟨Nat.lt_succ_of_lt (hr'.gT j b c e).1,(hr'.gT j b c e).2⟩
 ·by_cases hj:j=h.n;·subst hj;rw[Ren.bh]at e;cases e;exact⟨.dead,o,aC _ _,ho,.dead o⟩
  ·rw[Ren.cC ρ _ hj]at e;obtain⟨k,o',e1,e2,e3⟩:=hr'.ib j b c e;exact⟨k,o',by rw[cE (hr'.gT j b c e).1];exact e1,e2,e3.mono hle⟩
 ·by_cases hj:j=h.n;·subst hj;left;exact aC _ _
  ·by_cases hl:l=h.n;·subst hl;right;exact aC _ _
   ·rw[Ren.cC ρ _ hj]at e;rw[Ren.cC ρ _ hl]at e';rw[cE (hr'.gT j b c e).1,cE (hr'.gT l b d e').1];exact hr'.inj j l b c d e e' hn
 ·by_cases hj:j=h.n;·omega
  ·rw[Ren.cC ρ _ hj]at e;rw[e]at e0;cases e0
 ·by_cases hj:j=h.n;·subst hj;rw[Ren.bh]at e;cases e;omega
  ·rw[Ren.cC ρ _ hj]at e;exact⟨j,c,e,.inl rfl⟩
 ·have hj:=(hr.gT j x.1 x.2 e).1;rw[cE hj];intro _;rfl
def oQ (k:FuncId) (g:List Value→Heap→Option (Value×Bool)) (base:fU) (f:FuncId) (args:List Value) (h:Heap):Option (Option (Value×Heap)) :=
 cond (Nat.beq f k) (some ((g args h).map fun x=>(x.1,cond x.2 (af h .dead) h))) (base f args h)
theorem vz {ng k:Nat}{g:List Value→Heap→Option (Value×Bool)}{base:fU}(h0:cf P (bP P ng base)) {fn:Func}{c:Code}(hf:P.funcs[k]?=some fn) (hb:fn.body=some c) (hn:eC P)
   (hk:∀ args h v b,g args h=some (v,b)→∀ (ρ:Ren) (w:World) (args':Array Value),HR P ρ h w→(∀ i,i<ng→∃ c,ρ i=some (i,c))→dp ρ args args'.toList →
     Calls P k args' w fun e w'=>∃ v',e=.returned v'∧Below w.heap.size w w'∧(b=true→∃ N o,w.heap.size≤N∧w'.heap[N]?=some o∧VR (ρ.tK h.n (N,0)) v v')∧(b=false→VR ρ v v')) :
   cf P (bP P ng (oQ k g base)):=by
 intro f args h v h' e ρ w args' hr hg ra
 simp only[bP,oQ,aD]at e
 by_cases hfk:f=k
 · subst hfk;rw[if_pos rfl]at e;simp only[Option.some.injEq,Option.map_eq_some_iff,Prod.mk.injEq]at e;obtain⟨⟨u,b⟩,e,rfl,rfl⟩:=e;refine .inr (.inl ⟨f,args',dz hf hn hb args' w,(hk args _ _ _ e ρ w args' hr (fun i hi=>hg i hi) ra).mono fun e w' hh=>?_⟩);obtain⟨v',rfl,hbl,r1,r0⟩:=hh;cases b with
   | true =>obtain⟨N,o,hN,ho,r⟩:=r1 rfl;exact⟨v',_,rfl,r,bV.Vh hr hbl hN ho⟩
   | false=>exact⟨v',ρ,rfl,r0 rfl,bV.oe hr hbl⟩
 · rw[if_neg hfk]at e;exact h0 f args h v h' e ρ w args' hr hg ra
theorem lu {E:Env}{k:FuncId}{g:List Value→Heap→Option (Value×Bool)}{base:fU}{args:List Value}{h:Heap}{K:Value→Heap→Prop}{v:Value}{b:Bool}(he:E.ext k args h=oQ k g base k args h) (hg:g args h=some (v,b)) (q:K v (cond b (af h .dead) h)):bT E (.func k) args h K:=by refine bT.FI (v:=v) (h':=cond b (af h .dead) h) ?_ q;rw[he];simp only[oQ,Nat.beq_refl,cond_true,hg,Option.map_some]
end
theorem y1 {p A B:Prop}(a:A) (hp:p:=by omega):qj p A B:=uA hp a
theorem y2 {p A B:Prop}(b:B) (hp:¬p:=by omega):qj p A B:=Ai hp b
theorem y3 {p A B:Prop}(a:p→A) (b:¬p→B):qj p A B:=nA a b
theorem y4 {p q A:Prop}(a:A) (hp:p:=by omega) (hq:q:=by omega):(p∧q)∧A:=⟨⟨hp,hq⟩,a⟩
theorem y5 {p A:Prop}(a:A) (hp:p:=by omega):p∧A:=⟨hp,a⟩
theorem y6 {l:List Value}{A:Prop}(a:A) (hp:l.all aF=true:=by with_unfolding_all rfl):l.all aF=true∧A:=⟨hp,a⟩
theorem y7 {n:Nat}{cs l:List Value}{e:TypeId}{b:Bool}{h:Heap}{K:Value→Heap→Prop}(k:K undef (af h (.cells l e b))) (hc:(Nat.beq l.length n&&Nat.beq cs.length n&&l.all aF&&!Nat.beq n 0)=true:=by with_unfolding_all rfl) :
  Q4 n (.pointer (some ⟨h.n,0,none⟩)) (.agg ⟨l⟩) (af h (.cells cs e b)) K:=q_ hc k
theorem y8 {e:TypeId}{sz:Nat}{zs:List Value}{v:Value}{h:Heap}{K:Value→Heap→Prop}(k:K (.slice (some ⟨h.n,0,none⟩) 1 1) (af h (.cells v.cells.toList e true))) (hc:(Nat.beq v.cells.toList.length sz&&Nat.beq zs.length sz&&!Nat.beq sz 0)=true:=by with_unfolding_all rfl):RZ e sz zs 1 [(0,v)] h K:=uo hc k
theorem y9 {zs l:List Value}{pl:List (Nat×Nat)}{ps:List (Nat×Value)}{K:Value→Prop}(k:K (.agg ⟨l⟩)) (hf:gg (nth pl) zs ps=some l:=by with_unfolding_all (simp only[mB,oR,bK,blt_eq,aD,over,Value.cells,List.getElem?_cons_zero,List.getElem?_cons_succ,List.length_cons,List.length_nil,Nat.reduceAdd,Nat.reduceSub,Nat.reduceLT,Nat.reduceEqDiff,decide_true,cond_true,Option.map_some,if_true,if_false,Nat.add_one_sub_one,Nat.succ_ne_zero,reduceCtorEq,OfNat.ofNat];rfl)):QU zs pl ps K:=Hs hf k
theorem ya {zs l:List Value}{sz:Nat}{ps:List (Nat×Value)}{K:Value→Prop}(k:K (.agg ⟨l⟩)) (hf:gg (fun i=>some (i*sz,sz)) zs ps=some l:=by with_unfolding_all rfl):Iu zs sz ps K:=AH hf k
open Go.RowKit
section
variable {P:Program}
def nT:Heap:={ n:=0,b:=.leaf }
def BE {α:Type}:Option α→Bool
 | none=>true
 | some _=>false
noncomputable def td (E0:Env) (d:Nat) (f:FuncId) (l:List Value):Option Value :=
 cond (l.all dW&&BE (E0.ext f l nT)) (match dj E0 d (.func f) l nT with
  | some (v,_)=>cond (dW v) (some v) none
  | none=>none) none
noncomputable def quiet (E E0:Env) (d:Nat) (q:FuncId→Bool):Env:={ E with qf:=q,qc:=td E0 d }
theorem dp.gO {ρ:Ren}:∀ {l l':List Value},l.all bL=true→dp ρ l l'→l'=l
 | _,_,_,.nil=>rfl
 | _,_,h,.cons r t=>by simp only[List.all_cons,Bool.and_eq_true]at h;rw[VR.gO h.1 r,dp.gO h.2 t]
theorem VR.nE {ρ:Ren}{v v':Value}(h:dW v=true) (r:VR ρ v v'):v'=v:=by
 unfold dW at h;split at h
 ·rename_i cs;cases r with
  | agg _ xs' hr=>obtain⟨xs⟩:=xs';obtain⟨cs⟩:=cs;simp only at hr h;rw[dp.gO h hr]
 ·rename_i cs;cases r with
  | tuple _ xs' hr=>obtain⟨xs⟩:=xs';obtain⟨cs⟩:=cs;simp only at hr h;rw[dp.gO h hr]
 ·exact VR.gO h r
theorem dp.nE {ρ:Ren}:∀ {l l':List Value},l.all dW=true→dp ρ l l'→l'=l
 | _,_,_,.nil=>rfl
 | _,_,h,.cons r t=>by simp only[List.all_cons,Bool.and_eq_true]at h;rw[VR.nE h.1 r,dp.nE h.2 t]
theorem dp.const (ρ:Ren):∀ {l:List Value},l.all dW=true→dp ρ l l
 | [],_=>.nil
 | v::l,h=>by simp only[List.all_cons,Bool.and_eq_true]at h;exact .cons (VR.const ρ h.1) (dp.const ρ h.2)
theorem FK {E:Env}{d:Nat}{f:FuncId}{l:List Value}{h:Heap}{r:Value×Heap}(hx:E.ext f l h=none) (e:dj E d (.func f) l h=some r):∃ fn c,E.nK.get f=some fn∧fn.body=some c:=by
 cases d with
 | zero=>cases e
 | succ d =>
   simp only[dj,hx]at e
   split at e
   · cases e
   · rename_i fn hfn;split at e;· cases e
     · rename_i c hc;exact⟨fn,c,hfn,hc⟩
theorem xc {E E0:Env}(hE:aH P E) (hE0:aH P E0) (hx0:cf P E0) (hn:eC P) (hg:E0.ng=0) (d:Nat) (q:FuncId→Bool):aH P (quiet E E0 d q):=by
 refine⟨hE.l9,hE.nK,hE.mixed,hE.RH,fun f l v _ e ρ w args' ra=>?_⟩;simp only[quiet,td]at e;cases hc:(l.all dW&&BE (E0.ext f l nT)) with
 | false=>rw[hc]at e;cases e
 | true =>
   rw[hc,cond_true]at e
   simp only[Bool.and_eq_true]at hc
   have hext:E0.ext f l nT=none:=by
     cases he:E0.ext f l nT with
     | none=>rfl
     | some r=>rw[he]at hc;exact absurd hc.2 (by simp[BE])
   split at e
   · rename_i u h' hcall;cases hv:dW u with
     | false=>rw[hv]at e;cases e
     | true =>rw[hv]at e;simp only[cond_true,Option.some.injEq]at e;subst e;obtain⟨fn,c,hfn,hb⟩:=FK hext hcall;have hargs:=dp.nE hc.1 ra;have hr:HR P (fun _=>none) nT w:=⟨fun i b c e=>absurd e (by simp),fun i b c e=>absurd e (by simp),fun i j b c d e e'=>absurd e (by simp)⟩;refine⟨dz (hE0.nK f fn hfn) hn hb args' w,?_⟩;refine(lx hE0 hx0 hn hext hcall hr (fun g aB=>by omega) (by rw[hargs];exact dp.const _ hc.1)).mono fun e w' hh=>?_;obtain⟨v',ρ',rfl,r,hs⟩:=hh;rw[VR.nE hv r];exact⟨_,rfl,VR.const _ hv,hs.below fun i x e=>by cases e⟩
   · cases e
open Classical in
noncomputable def zq (E0:Env) (f:FuncId) (l:List Value):Option Value :=
 if hd:∃ d,(td E0 d f l).isSome=true then td E0 (Classical.choose hd) f l else none
noncomputable def E' (E E0:Env) (q:FuncId→Bool):Env:={ E with qf:=q,qc:=zq E0 }
theorem HI {E E0:Env}(hE:aH P E) (hE0:aH P E0) (hx0:cf P E0) (hn:eC P) (hg:E0.ng=0) (q:FuncId→Bool):aH P (E' E E0 q):=by
 refine⟨hE.l9,hE.nK,hE.mixed,hE.RH,fun f l v hq e ρ w args' ra=>?_⟩;simp only[E',zq]at e;split at e;·rename_i hd;exact(xc hE hE0 hx0 hn hg (Classical.choose hd) q).qc f l v hq e ρ w args' ra
 ·cases e
end
open Go.RowKit
section
variable {P:Program}
def ccG (args:List Value) (h:Heap):Option (Value×Heap) :=
 match args with
 | [.pointer (some ⟨i,0,none⟩)] =>
   match h.b.get i with
   | some (.cells [p,q] e true)=>cond (Nat.blt i h.n) (match p with
     | .pointer none=>some (.tuple #[],{ h with b:=h.b.set i (.cells [.pointer (some ⟨i,0,none⟩),q] e true) })
     | .pointer (some ⟨j,0,none⟩)=>cond (Nat.beq i j) (some (.tuple #[],h)) none
     | _=>none) none
   | _=>none
 | _=>none
def vK (k:FuncId) (el:TypeId) (base:fU) (f:FuncId) (args:List Value) (h:Heap):Option (Option (Value×Heap)) :=
 cond (Nat.beq f k) (some (match args with
   | [.pointer (some ⟨i,0,none⟩)]=>match h.b.get i with
     | some (.cells _ e _)=>cond (Nat.beq e el) (ccG args h) none
     | _=>none
   | _=>none)) (base f args h)
theorem Kn {ng k:Nat}{el:TypeId}{base:fU}(h0:cf P (bP P ng base)) {fn:Func}{c:Code}(hf:P.funcs[k]?=some fn) (hb:fn.body=some c) (hn:eC P)
   (hu:∀ (b:Nat) (w:World),w.cell? ⟨b,0,none⟩=some (.pointer (some ⟨b,0,none⟩))→Calls P k #[.pointer (some ⟨b,0,none⟩)] w fun e w'=>e=.returned (.tuple #[])∧w'=w)
   (hfr:∀ (b:Nat) (w:World),w.cell? ⟨b,0,none⟩=some (.pointer none)→w.shape? b=some (el,2)→w.frozen? ⟨b,0,none⟩=false→Calls P k #[.pointer (some ⟨b,0,none⟩)] w fun e w'=>e=.returned (.tuple #[])∧w'=w.setCell ⟨b,0,none⟩ (.pointer (some ⟨b,0,none⟩))) :
   cf P (bP P ng (vK k el base)):=by
 intro f args h v h' e ρ w args' hr hg ra
 simp only[bP,vK,aD]at e
 by_cases hfk:f=k
 · subst hfk;rw[if_pos rfl]at e;simp only[Option.some.injEq]at e;split at e
   · rename_i i;split at e
     · rename_i cs e' ex hbk;by_cases hee:e'=el;case neg=>rw[if_neg hee]at e;cases e
       subst hee;rw[if_pos rfl]at e;unfold ccG at e;simp only[hbk]at e;split at e
       · rename_i p q e2 heq;simp only[Option.some.injEq,fa.cells.injEq]at heq;obtain⟨rfl,rfl,rfl⟩:=heq;cases aB:Nat.blt i h.n with
         | false=>rw[aB]at e;cases e
         | true =>
           rw[aB,cond_true]at e;obtain⟨args'⟩:=args';simp only at ra;cases ra with
           | cons r1 t=>cases r1 with
             | @ptr _ b c _ hi=>cases t with
               | nil =>
                 obtain⟨kb,o,k1,k2,k3⟩:=hr.ib _ _ _ hi
                 rw[hbk]at k1
                 cases k1
                 cases k3 with
                 | cells _ xs _ _ hcell hsz =>
                   simp only[if_true]at hsz
                   have hsz2:xs.size=2:=hsz
                   obtain⟨p',hp0,rp⟩:=hcell 0 p rfl
                   obtain⟨q',hq0,rq⟩:=hcell 1 q rfl
                   have hc0:w.cell? ⟨b,0,none⟩=some p':=by simp[World.cell?,k2,hp0]
                   split at e
                   · simp only[Option.some.injEq,Prod.mk.injEq]at e;obtain⟨rfl,rfl⟩:=e;cases rp;refine .inr (.inl ⟨f,#[.pointer (some ⟨b,0,none⟩)],dz hf hn hb _ w,(hfr b w hc0 (by simp[World.shape?,k2,hsz2]) (by simp[World.frozen?,k2])).mono fun e w' hh=>?_⟩);obtain⟨rfl,rfl⟩:=hh;refine⟨_,ρ,rfl,.tuple _ _ .nil,?_⟩;have hblt:b<w.heap.size:=(Array.getElem?_eq_some_iff.1 k2).1;refine bV.write (o':=.cells (xs.setIfInBounds 0 (.pointer (some ⟨b,0,none⟩))) e' (0,0)) hr hi hbk ?_ ?_ ?_ ?_ ?_ rfl rfl rfl;· simp[soft]
                     · refine .cells _ _ _ _ (fun j v hj=>?_) (by simp[hsz2]);match j,hj with
                       | 0,hj =>
                         simp only[List.getElem?_cons_zero,Option.some.injEq]at hj
                         subst hj
                         exact⟨_,by simp[Array.getElem?_setIfInBounds,hsz2],.ptr _ hi⟩
                       | 1,hj =>
                         simp only[List.getElem?_cons_succ,List.getElem?_cons_zero,Option.some.injEq]at hj
                         subst hj
                         exact⟨_,by simp[Array.getElem?_setIfInBounds,hq0],rq⟩
                       | j+2,hj=>simp at hj
                     · simp[World.setCell]
                     · simp[World.setCell,Array.getElem?_modify,k2]
                     · intro j hj;simp[World.setCell,Array.getElem?_modify,Ne.symm hj]
                   · rename_i j;by_cases hij:i=j;case neg=>rw[aD,if_neg hij]at e;cases e
                     subst hij;rw[aD,if_pos rfl]at e;simp only[Option.some.injEq,Prod.mk.injEq]at e;obtain⟨rfl,rfl⟩:=e;cases rp with
                     | @ptr _ b2 c2 _ hi2 =>
                       rw[hi]at hi2
                       cases hi2
                       refine .inr (.inl ⟨f,#[.pointer (some ⟨b,0,none⟩)],dz hf hn hb _ w,(hu b w hc0).mono fun e w' hh=>?_⟩)
                       obtain⟨rfl,rfl⟩:=hh
                       exact⟨_,ρ,rfl,.tuple _ _ .nil,bV.refl hr⟩
                   · cases e
       · cases e
     · cases e
   · cases e
 · rw[if_neg hfk]at e;exact h0 f args h v h' e ρ w args' hr hg ra
def xo (k:FuncId) (g:List Value→Heap→Option (Value×fa)) (base:fU) (f:FuncId) (args:List Value) (h:Heap):Option (Option (Value×Heap)) :=
 cond (Nat.beq f k) (some ((g args h).map fun x=>(x.1,af h x.2))) (base f args h)
theorem I4 {ng k:Nat}{g:List Value→Heap→Option (Value×fa)}{base:fU}(h0:cf P (bP P ng base)) {fn:Func}{c:Code}(hf:P.funcs[k]?=some fn) (hb:fn.body=some c) (hn:eC P)
  (hk:∀ args h v bk,g args h=some (v,bk)→∀ (ρ:Ren) (w:World) (args':Array Value),HR P ρ h w→(∀ i,i<ng→∃ c,ρ i=some (i,c))→dp ρ args args'.toList →
   Calls P k args' w fun e w'=>∃ v' o,e=.returned v'∧w'=w.alloc o∧VR (ρ.tK h.n (w.heap.size,0)) v v'∧BR P ρ 0 bk o) :
  cf P (bP P ng (xo k g base)):=by
 intro f args h v h' e ρ w args' hr hg ra
 simp only[bP,xo,aD]at e
 by_cases hfk:f=k
 ·subst hfk;rw[if_pos rfl]at e;simp only[Option.some.injEq,Option.map_eq_some_iff,Prod.mk.injEq]at e;obtain⟨⟨u,bk⟩,e,rfl,rfl⟩:=e;refine .inr (.inl ⟨f,args',dz hf hn hb args' w,(hk args _ _ _ e ρ w args' hr (fun i hi=>hg i hi) ra).mono fun e w' hh=>?_⟩);obtain⟨v',o,rfl,rfl,r,hbr⟩:=hh;exact⟨v',_,rfl,r,bV.alloc hr hbr rfl rfl rfl rfl⟩
 ·rw[if_neg hfk]at e;exact h0 f args h v h' e ρ w args' hr hg ra
end
section
variable {E:Env}{fr:Fr}{h:Heap}{K:Value→Heap→Prop}{x y:Operand}{t t' s:TypeId}
def TU (E:Env) (t:TypeId):Bool:=match a_ E t with
 | none|some (.interface _)|some .invalid=>false
 | _=>true
theorem lG (ht:TU E t=true):bY E (.makeInterface t x) fr h K=bM E fr x fun v=>K (.iface t v) h:=by
 rw[dS rfl (by simp)];simp only[cX,aQ,bM,dq];unfold TU at ht;cases hu:a_ E t with
 | none=>rw[hu]at ht;cases ht
 | some d =>
   rw[hu]at ht
   cases ev E fr x with
   | none=>cases d<;>simp_all
   | some v=>cases d<;>simp_all
def QR (t:TypeId) (z v:Value) (K:Value→Prop) [Tok K]:Prop:=match v with
 | .iface t' u=>cond (Nat.beq t' t) (K (.tuple #[u,.bool true])) (K (.tuple #[z,.bool false]))
 | .nilIface=>K (.tuple #[z,.bool false])
 | _=>False
def Y' (E:Env) (t:TypeId):Option Value:=match a_ E t with
 | none|some (.interface _)|some .invalid=>none
 | _=>zero E t
theorem nq {z:Value}(ht:Y' E t=some z):bY E (.typeAssert x s t true) fr h K=bM E fr x fun v=>QR t z v fun u=>K u h:=by
 rw[dS rfl (by simp)];simp only[cX,aQ,bM,dq];unfold Y' at ht;cases ev E fr x with
 | none=>simp
 | some v =>
   simp only[Option.some.injEq,exists_eq_left']
   have key:jG E v t true=match v with
       | .nilIface=>some (.tuple #[z,.bool false])
       | .iface t' u=>some (cond (Nat.beq t' t) (.tuple #[u,.bool true]) (.tuple #[z,.bool false]))
       | _=>none:=by
     unfold jG
     cases hu:a_ E t with
     | none=>rw[hu]at ht;cases ht
     | some d =>
       rw[hu]at ht
       cases d<;>first
         | (cases ht;done)
         | (simp only at ht
            cases v<;>simp only[ht,Option.map_some,cond_true]
            rename_i t' u
            cases Nat.beq t' t<;>rfl)
   rw[key]
   unfold QR
   cases v with
   | iface t' u =>
     clear key
     simp only[Option.some.injEq,exists_eq_left']
     generalize Nat.beq t' t=b
     cases b<;>rfl
   | _=>simp
theorem Ht {z u:Value}{J:Value→Prop}:QR t z (.iface t u) J=J (.tuple #[u,.bool true]):=by simp[QR]
theorem Yz {z u:Value}{J:Value→Prop}(hne:t'≠t):QR t z (.iface t' u) J=J (.tuple #[z,.bool false]):=by simp[QR,aD,hne]
theorem V_ {z:Value}{J:Value→Prop}:QR t z .nilIface J=J (.tuple #[z,.bool false]):=rfl
end
section
variable {E:Env}{fr:Fr}{h:Heap}{K:Value→Heap→Prop}{x y:Operand}{t:TypeId}
def isStr (E:Env) (t:TypeId):Bool:=match a_ E t with|some .string=>true|_=>false
theorem mf (ht:isStr E t=true):a_ E t=some .string:=by
 unfold isStr at ht;split at ht;·assumption
 ·cases ht
def uB (x:Value) (K:Value→Prop) [Tok K]:Prop:=match x with
 | .string s=>K (.int .i64 s.size)
 | _=>False
theorem BW {s:ByteArray}{K:Value→Prop}:uB (.string s) K=K (.int .i64 s.size):=Eq.trans rfl rfl
theorem Ej (ht:isStr E t=true):bY E (.call ⟨.builtin .len,⟨[x]⟩,⟨[t]⟩⟩) fr h K=bM E fr x fun v=>uB v fun u=>K u h:=by
 have hu:=mf ht;simp only[bY,fF,iq,nv,lX,aQ,kindOf,hu,cX,wk,aA,bM,lq,dq,uB];cases ev E fr x with
 | none=>simp
 | some v =>
   simp only[KL,hu]
   cases v<;>simp
theorem oK (l:List UInt8) (a b:Nat):(⟨l.toArray⟩:ByteArray).extract a b=⟨((l.take b).drop a).toArray⟩:=by apply ByteArray.ext;simp[ByteArray.data_extract,List.extract_toArray,List.drop_take]
theorem pL (ht:isStr E t=true) {l:List UInt8}{k:IntKind}{lo:Nat}{K:Value→Prop}(h:lo≤l.length) (q:K (.string ⟨(l.drop lo).toArray⟩)) :
  fe E t (.string ⟨l.toArray⟩) (some (.int k (lo:Int))) none none K:=by
 have hs:(⟨l.toArray⟩:ByteArray).size=l.length:=by simp[ByteArray.size]
 have hb:cg l.length l.length (some (.int k (lo:Int))) none none=some (lo,l.length,l.length):=by simp only[cg,fp,dL,oJ h]
 simp only[fe,eB,mf ht,hs,hb,Option.map_some,qR,oK,List.take_length]
 exact q
end
section
variable {E:Env}
end
section
variable {E:Env}
theorem E9 {t r m c:Nat}{d:Option Nat}{es:List (Value×Value×Nat)}{fr:Fr}{h:Heap}(ht:fr.get t=some (.pointer (some ⟨r,0,none⟩))) (hr:h.b.get r=some (.dY (some m) c [] c)) (hm:h.b.get m=some (.map es c)) (hrn:r<h.n) (Aq:m<h.n) (hne:r≠m)
  (hes:(Nat.blt 1 es.length&&Nat.blt es.length 1000&&es.all (fun e=>Nat.blt e.2.2 c)&&nodupB (es.map (·.2.2)))=true):gG E [zR t d] fr h=some ⟨zR t d,[],t,r,m,es,c⟩:=by
 have hg:bU h (.map (some m))=some (es,c):=by simp only[bU,blt_eq,Aq,decide_true,cond_true,hm]
 simp only[Bool.and_eq_true]at hes
 obtain⟨⟨⟨h1,h2⟩,h3⟩,h4⟩:=hes
 have hb:Nat.blt r h.n=true:=by rw[blt_eq];exact decide_eq_true hrn
 have hx:Nat.beq r m=false:=lK hne
 have hdf:([{ dst:=d,op:=.next (.tmp t) false,type:=0,pos:= "",after:=#[],guard:=none }]:List Oper).any fc=false:=rfl
 simp only[gG,zR,ht,hr,hg,h1,h2,h3,h4,hb,hx,hdf,Nat.beq_refl,Bool.and_self,Bool.not_false,cond_true]
theorem QK {nt t d:Nat}{fr:Fr}{v:Value}(hd:d<nt):put nt fr (zR t (some d)) v=some (fr.set d v):=by simp only[put,zR,blt_eq,hd,decide_true,cond_true]
theorem Ct {nt t d r m c:Nat}{rd:Option Nat}{l:List GO}{rest:GC}{D:List Nat}{es:List (Value×Value×Nat)}{sp:Option Nat}{fr:Fr}{h:Heap}{Q:Ex→Fr→Heap→Prop}(ht:fr.get t=some (.pointer (some ⟨r,0,none⟩))) (hr:h.b.get r=some (.dY (some m) c [] c)) (hm:h.b.get m=some (.map es c)) (hrn:r<h.n) (Aq:m<h.n) (hne:r≠m)
  (hes:(Nat.blt 1 es.length&&Nat.blt es.length 1000&&es.all (fun e=>Nat.blt e.2.2 c)&&nodupB (es.map (·.2.2)))=true) (ho:E.W8 es fr h=some sp)
  (w:lR (fun fr h Q=>fm E l fr h fun fr h=>rest.wp E nt rd fr h Q) nt ⟨zR t (some d),[],t,r,m,es,c⟩ sp (dH D fr (List.range nt)) h Q):(GC.wR t (some d) l rest D).wp E nt rd fr h Q :=
 ⟨_,sp,E9 ht hr hm hrn Aq hne hes,ho,w⟩
theorem yK {B:Fr→Heap→(Ex→Fr→Heap→Prop)→Prop}{nt t d r m c:Nat}{es:List (Value×Value×Nat)}{fr0:Fr}{H:Heap}{e:Value×Value×Nat}{K:Fr→Heap→Prop}(hd:d<nt)
  (w:B (fr0.set d (.tuple #[.bool true,e.1,e.2.1])) (bX H r (.iW m e.2.2 c)) fun ex f3 h3=>ex=.normal∧K f3 h3):jO B nt ⟨zR t (some d),[],t,r,m,es,c⟩ fr0 H e K:=⟨_,QK hd,w⟩
theorem Rz {B:Fr→Heap→(Ex→Fr→Heap→Prop)→Prop}{nt t d r m c:Nat}{es:List (Value×Value×Nat)}{fr0:Fr}{H:Heap}{Q:Ex→Fr→Heap→Prop}(hd:d<nt)
  (w:B (fr0.set d (.tuple #[.bool false])) (bX H r .dead) fun ex f3 h3=>ex≠.normal∧Q ex f3 h3):vd B nt ⟨zR t (some d),[],t,r,m,es,c⟩ fr0 H Q:=⟨_,QK hd,w⟩
theorem oZ {D:List Nat}{fr:Fr}{nt t:Nat}{v:Value}(hv:fr.get t=some v) (ht:t<nt) (hD:D.any (Nat.beq t)=false):(dH D fr (List.range nt)).get t=some v:=by
 have key:∀ ts:List Nat,t∈ts→(dH D fr ts).get t=some v:=by
   intro ts;induction ts with
   | nil=>intro h;cases h
   | cons s ts ih =>
     intro h
     simp only[dH]
     by_cases hst:s=t
     · subst hst;rw[hD,cond_false,hv];exact T.get_set_same _ _ _
     · have hm:t∈ts:=by
         rcases List.mem_cons.1 h with h|h;· exact absurd h.symm hst
         · exact h
       cases D.any (Nat.beq s) with
       | true=>exact ih hm
       | false =>
         rw[cond_false]
         split
         · rw[T.ar _ _ hst];exact ih hm
         · exact ih hm
 exact key _ (List.mem_range.2 ht)
theorem HK {t r m c:Nat}{d:Option Nat}{es:List (Value×Value×Nat)}{fr0 f3:Fr}{H h3:Heap}(x:H.n≤h3.n) (hb:∀ i,i<H.n→i≠r→h3.b.get i=H.b.get i) (hf:∀ s v,fr0.get s=some v→f3.get s=some v) :
  jK ⟨zR t d,[],t,r,m,es,c⟩ fr0 H (f3,h3):=⟨x,fun i h1 h2=>.inl (hb i h1 h2),hf⟩
end
section
variable {E:Env}{fr:Fr}{h:Heap}{K:Value→Heap→Prop}{x y z:Operand}{t:TypeId}
theorem eV:bY E (.insert t x y z) fr h K=bM E fr x fun m=>bM E fr y fun k=>bM E fr z fun v=>Iq E t m k v h K:=by
 rw[mV rfl (by simp)];simp only[iw,aQ,bM,dq,Iq];cases ev E fr x with
 | none=>simp[kg]
 | some a =>
   cases ev E fr y with
   | none=>simp[kg]
   | some b =>
     cases ev E fr z with
     | none=>simp[kg]
     | some c =>
       simp only[Option.some.injEq,exists_eq_left']
       cases cG E t a b c h with
       | none=>simp[kg]
       | some h'=>exact propext ⟨fun ⟨_,_,e,q⟩=>by cases e;exact⟨_,rfl,q⟩,fun ⟨_,e,q⟩=>by cases e;exact⟨_,_,rfl,q⟩⟩
def RO (E:Env) (t:TypeId) (v:Value) (h:Heap) (K:Value→Heap→Prop) [Tok K]:Prop:=kg (s8 E t v h) K
theorem kc:bY E (.range t x) fr h K=bM E fr x fun v=>RO E t v h K:=by
 rw[mV rfl (by simp)];simp only[iw,aQ,bM,dq,RO];cases ev E fr x with
 | none=>simp[kg]
 | some a=>simp
def PG (s:Bool) (v:Value) (h:Heap) (K:Value→Heap→Prop) [Tok K]:Prop:=kg (yr v s h) K
theorem dE {s:Bool}:bY E (.next x s) fr h K=bM E fr x fun v=>PG s v h K:=by
 rw[mV rfl (by simp)];simp only[iw,aQ,bM,dq,PG];cases ev E fr x with
 | none=>simp[kg]
 | some a=>simp
def Sk (v:Value) (h:Heap) (K:Value→Prop) [Tok K]:Prop:=dq (tb v h) K
theorem gM:bY E (.entry x) fr h K=bM E fr x fun v=>Sk v h fun u=>K u h:=by
 rw[mV rfl (by simp)];simp only[iw,aQ,bM,dq,Sk];cases ev E fr x with
 | none=>simp[kg]
 | some a =>
   cases he:tb a h with
   | none=>simp[kg,he]
   | some u =>
     refine propext ⟨fun ⟨v,h2,e,q⟩=>?_,fun ⟨a',e0,v,e,q⟩=>?_⟩
     · simp only[he,Option.map_some,Option.some.injEq,Prod.mk.injEq]at e;obtain⟨rfl,rfl⟩:=e;exact⟨a,rfl,u,he,q⟩
     · cases e0;rw[he]at e;cases e;exact⟨u,h,by simp only[he,Option.map_some],q⟩
theorem uH (ht:isStr E t=true) {s:ByteArray}(q:K (.pointer (some ⟨h.n,0,none⟩)) (af h (.aO s 0))):RO E t (.string s) h K:=by refine⟨_,_,?_,q⟩;simp only[s8,mf ht]
def EO (E:Env) (t:TypeId):Bool:=match a_ E t with|some (.map _ _)=>true|_=>false
theorem S4 (ht:EO E t=true) {m c:Nat}{es:List (Value×Value×Nat)}(hm:h.b.get m=some (.map es c)) (Aq:m<h.n) (q:K (.pointer (some ⟨h.n,0,none⟩)) (af h (.dY (some m) c [] c))):RO E t (.map (some m)) h K:=by
 unfold EO at ht;split at ht
 ·rename_i k v hu;refine⟨_,_,?_,q⟩;have hg:bU h (.map (some m))=some (es,c):=by simp only[bU,blt_eq,Aq,decide_true,cond_true,hm]
  simp only[s8,hu,hg]
 ·cases ht
theorem Rp {r pos:Nat}{s:ByteArray}(hr:h.b.get r=some (.aO s pos)) (hp:pos<s.size) (q:K (.tuple #[.bool true,.int .i64 pos,.int .i32 (Utf8.decode s pos).1]) { h with b:=h.b.set r (.aO s (pos+(Utf8.decode s pos).2)) }):PG true (.pointer (some ⟨r,0,none⟩)) h K:=by
 refine⟨_,_,?_,q⟩;have hb:Nat.blt pos s.size=true:=by rw[blt_eq];exact decide_eq_true hp
 simp only[yr,hr,hb,cond_true]
theorem mS {r pos:Nat}{s:ByteArray}(hr:h.b.get r=some (.aO s pos)) (hp:s.size≤pos) (q:K (.tuple #[.bool false]) h):PG true (.pointer (some ⟨r,0,none⟩)) h K:=by
 refine⟨_,_,?_,q⟩;have hb:Nat.blt pos s.size=false:=by rw[blt_eq];exact decide_eq_false (by omega)
 simp only[yr,hr,hb,cond_false]
theorem Ha {r m b c:Nat}{es:List (Value×Value×Nat)}{p:Value×Value}{K:Value→Prop}(hr:h.b.get r=some (.iW m b c)) (hm:h.b.get m=some (.map es c)) (Aq:m<h.n) (he:rC es b=some p) (q:K (.tuple #[p.1,p.2])):Sk (.pointer (some ⟨r,0,none⟩)) h K:=by
 have hg:bU h (.map (some m))=some (es,c):=by simp only[bU,blt_eq,Aq,decide_true,cond_true,hm]
 simp only[Sk,tb,hr,xW,hg,Nat.beq_refl,cond_true,he,Option.map_some,qR];exact q
def Yo {α:Type}:Option (Option α)→Bool
 | some none=>true
 | _=>false
theorem gx {h0:Heap}{kt et:TypeId}{d:TypeDesc}{k v:Value}{es:List (Value×Value×Nat)}{c:Nat}(hu:a_ E t=some (.map kt et)) (hd:a_ E kt=some d) (hc:(cI E 20 kt k&&Yo (jC E kt d k es 0))=true)
  (q:K undef (af h0 (.map (es++[(k,v,c)]) (c+1)))):Iq E t (.map (some h0.n)) k v (af h0 (.map es c)) K:=by
 simp only[Bool.and_eq_true]at hc
 have hg:bU (af h0 (.map es c)) (.map (some h0.n))=some (es,c):=by
  have:Nat.blt h0.n (h0.n+1)=true:=by rw[blt_eq];exact decide_eq_true (by omega)
  simp only[bU,ae,this,cond_true,aC]
 have hf:jC E kt d k es 0=some none:=by
  have:=hc.2;unfold Yo at this;split at this;·assumption
  ·cases this
 have he:cG E t (.map (some h0.n)) k v (af h0 (.map es c))=some (af h0 (.map (es++[(k,v,c)]) (c+1))):=by simp only[cG,hu,hd,hg,hc.1,hf,cond_true];simp only[af,T.set_set]
 simp only[Iq,he,qR]
 exact q
theorem I' {es:List (Nat×Value×Value)}{r:Nat}(hr:r<h.n) (hb:h.b.get r=some (.smap es)):iB h r=true:=by
 have:Nat.blt r h.n=true:=by rw[blt_eq];exact decide_eq_true hr
 simp only[iB,dy,this,cond_true,hb]
theorem yQ {s t r:Nat}{es:List (Nat×Value×Value)}{ia:List Op}(h0:ia.isEmpty=false) (hc:ia.all (fun o=>match o with|.insert t' (.tmp s') _ _=>Nat.beq t t'&&Nat.beq s s'|_=>false)=true) (hf:fr.get s=some (.map (some r)))
   (hr:r<h.n) (hb:h.b.get r=some (.smap es)):oO E fr h ia=true:=by
 cases ia with
 | nil=>cases h0
 | cons x l =>
   have all:∀ o∈x::l,ur E fr t r o=true:=fun o ho=>by
     have:=List.all_eq_true.1 hc o ho;split at this;· rename_i t' s' a b;simp only[Bool.and_eq_true,Nat.beq_eq]at this;obtain⟨rfl,rfl⟩:=this;simp only[ur,ev,hf,Nat.beq_refl,Bool.and_self]
     · cases this
   have hx:=List.all_eq_true.1 hc x List.mem_cons_self
   split at hx
   · rename_i t' s' a b;simp only[Bool.and_eq_true,Nat.beq_eq]at hx;obtain⟨rfl,rfl⟩:=hx;have e:qm E fr (.insert t (.tmp s) a b)=some (t,r):=by simp only[qm,ev,hf]
     simp only[oO,e,I' hr hb,Bool.true_and];exact List.all_eq_true.2 all
   · cases hx
theorem nP {es:List (Nat×Value×Value)}{r:Nat}(hb:h.b.get r=some (.smap es)):bU h (.map (some r))=none:=by
 simp only[bU];cases Nat.blt r h.n with
 | false=>rfl
 | true=>simp only[cond_true,hb]
theorem kQ {kt et:TypeId}{d:TypeDesc}{k v:Value}{r:Nat}{es es':List (Nat×Value×Value)}(hr:r<h.n) (hb:h.b.get r=some (.smap es)) (hu:a_ E t=some (.map kt et)) (hd:a_ E kt=some d) (hc:(iT d&&cI E 20 kt k)=true) (ha:pC d k v es=some es')
  (q:K undef { h with b:=h.b.set r (.smap es') }):Iq E t (.map (some r)) k v h K:=by
 have h1:Nat.blt r h.n=true:=by rw[blt_eq];exact decide_eq_true hr
 refine⟨_,?_,q⟩
 simp only[cG,hu,hd,nP hb,hc,cond_true,dy,h1,hb,ha,Option.map_some]
theorem iZ {kt et:TypeId}{d:TypeDesc}{k v:Value}{ok:Bool}{r:Nat}{es:List (Nat×Value×Value)}{K:Value→Prop}(hr:r<h.n) (hb:h.b.get r=some (.smap es)) (hu:a_ E t=some (.map kt et)) (hd:a_ E kt=some d) (hk:iT d=true) (hc:cI E 20 kt k=true)
  (hs:nI d k es=some (some v)) (q:K (cond ok (.tuple #[v,.bool true]) v)):qo E t (.map (some r)) k ok h K:=by
 have h1:Nat.blt r h.n=true:=by rw[blt_eq];exact decide_eq_true hr
 refine⟨_,?_,q⟩
 simp only[iy,hu,hd,hc,cond_true,nP hb,Option.map_none,hk,dy,h1,hb,hs]
theorem E3 {kt et:TypeId}{d:TypeDesc}{k z:Value}{ok:Bool}{r:Nat}{es:List (Nat×Value×Value)}{K:Value→Prop}(hr:r<h.n) (hb:h.b.get r=some (.smap es)) (hu:a_ E t=some (.map kt et)) (hd:a_ E kt=some d) (hk:iT d=true) (hc:cI E 20 kt k=true)
  (hz:zero E et=some z) (hs:nI d k es=some none) (q:K (cond ok (.tuple #[z,.bool false]) z)):qo E t (.map (some r)) k ok h K:=by
 have h1:Nat.blt r h.n=true:=by rw[blt_eq];exact decide_eq_true hr
 refine⟨_,?_,q⟩
 simp only[iy,hu,hd,hc,cond_true,nP hb,Option.map_none,hk,dy,h1,hb,hs,hz,Option.map_some]
theorem CA {E0:Env}{f:FuncId}{l:List Value}{v:Value}(hc:l.all dW=true) (hv:dW v=true) (hx:E0.ext f l nT=none) (w:bT E0 (.func f) l nT fun u _=>u=v):zq E0 f l=some v:=by
 obtain⟨d,u,h',e,rfl⟩:=w;have hq:∀ d',(td E0 d' f l).isSome=true→td E0 d' f l=some u:=fun d' hs=>by
  simp only[td,hc,hx,BE,Bool.and_self,cond_true]at hs ⊢;split at hs;·rename_i u' h2 e2;have e3:=cF (E:=E0) (Nat.le_max_left d d') _ _ _ _ e;have e4:=cF (E:=E0) (Nat.le_max_right d d') _ _ _ _ e2;rw[e3]at e4;cases e4;simp only[hv,cond_true]
  ·cases hs
 have h0:(td E0 d f l).isSome=true:=by simp only[td,hc,hx,BE,Bool.and_self,cond_true,e,hv,Option.isSome_some]
 have hd:∃ d,(td E0 d f l).isSome=true:=⟨d,h0⟩;simp only[zq,hd,dif_pos];exact hq _ (Classical.choose_spec hd)
theorem KF {nt:Nat}{rd:Option Nat}{a:GC}{Q:Ex→Fr→Heap→Prop}(n:Nat) (hn:n≤1000000) (w:qP (a.wp E nt rd) Q n fr h):(GC.loop a).wp E nt rd fr h Q:=⟨n,hn,w⟩
theorem xp {A:Fr→Heap→(Ex→Fr→Heap→Prop)→Prop}{Q:Ex→Fr→Heap→Prop}{n:Nat}:qP A Q (n+1) fr h=A fr h (tz (qP A Q n) Q):=Eq.trans rfl rfl
end
open Go.RowKit
section
variable {P:Program}{ρ:Ren}{h:Heap}{w w':World}
theorem bV.YY {N:Nat}{k:fa}{o:Obj}(hr:HR P ρ h w) (hb:Below w.heap.size w w') (hN:w.heap.size≤N) (ho:w'.heap[N]?=some o) (hk:BR P (ρ.tK h.n (N,0)) 0 k o) :
  bV P ρ h w (ρ.tK h.n (N,0)) (af h k) w':=by
 have s:=bV.oe hr hb
 have hr':=s.hr
 have hf:=hr.fresh
 have hle:ρ.le (ρ.tK h.n (N,0)):=Ren.lQ _ hf
 refine⟨hle,⟨fun j b c e=>?_,fun j b c e=>?_,fun j l b c d e e' hn=>?_⟩,by simp[af],fun j x e e0=>?_,fun j hj _=>cE hj,s.os,s.tape,s.output,s.size,s.frame,fun j b c e aB=>?_,fun j x e=>?_⟩
 ·by_cases hj:j=h.n;·subst hj;rw[Ren.bh]at e;cases e;exact⟨by simp[af],(Array.getElem?_eq_some_iff.1 ho).1⟩
  ·rw[Ren.cC ρ _ hj]at e;exact⟨Nat.lt_succ_of_lt (hr'.gT j b c e).1,(hr'.gT j b c e).2⟩
 ·by_cases hj:j=h.n;·subst hj;rw[Ren.bh]at e;cases e;exact⟨k,o,aC _ _,ho,hk⟩
  ·rw[Ren.cC ρ _ hj]at e;obtain⟨k,o',e1,e2,e3⟩:=hr'.ib j b c e;exact⟨k,o',by rw[cE (hr'.gT j b c e).1];exact e1,e2,e3.mono hle⟩
 ·by_cases hj:j=h.n
  ·by_cases hl:l=h.n;·exact absurd (hj.trans hl.symm) hn
   ·subst hj;rw[Ren.bh]at e;cases e;rw[Ren.cC ρ _ hl]at e';have:=(hr.gT l _ d e').2;omega
  ·by_cases hl:l=h.n;·subst hl;rw[Ren.bh]at e';cases e';rw[Ren.cC ρ _ hj]at e;have:=(hr.gT j _ c e).2;omega
   ·rw[Ren.cC ρ _ hj]at e;rw[Ren.cC ρ _ hl]at e';rw[cE (hr'.gT j b c e).1,cE (hr'.gT l b d e').1];exact hr'.inj j l b c d e e' hn
 ·by_cases hj:j=h.n;·omega
  ·rw[Ren.cC ρ _ hj]at e;rw[e]at e0;cases e0
 ·by_cases hj:j=h.n;·subst hj;rw[Ren.bh]at e;cases e;omega
  ·rw[Ren.cC ρ _ hj]at e;exact⟨j,c,e,.inl rfl⟩
 ·have hj:=(hr.gT j x.1 x.2 e).1;rw[cE hj];intro _;rfl
theorem Q7 {ng:Nat}{ext:fU}{bz:List (Nat×List Value)}(aB:bz.all (fun p=>Nat.blt p.1 ng)=true) (htb:eK bz h=true) (hc:∀ p∈bz,p.2.all bL=true) (hr:HR P ρ h w) (hg:GR (bP P ng ext) ρ):uY bz ng w:=by
 refine⟨?_,fun p hp=>?_⟩
 · cases ng with
   | zero=>exact Nat.zero_le _
   | succ m =>
     obtain⟨c,e⟩:=hg m (by show m<m+1;omega)
     exact(hr.gT _ _ _ e).2
 · have hpn:p.1<ng:=by have:=List.all_eq_true.1 aB p hp;simpa[blt_eq]using this
   refine⟨hpn,fun j v e=>?_⟩;obtain⟨c,eg⟩:=hg p.1 hpn;obtain⟨k,o,k1,k2,k3⟩:=hr.ib _ _ _ eg;have ht:=List.all_eq_true.1 htb p hp;simp only[k1]at ht;cases k3 with
   | ro g _ hh =>
     have hrow:=oY (i:=0) ht j v e
     rw[Nat.zero_add]at hrow
     obtain⟨xs,el,f',v',e1,e2,r⟩:=hh j v hrow
     subst e1
     have hv:bL v=true:=List.all_eq_true.1 (hc p hp) v (List.mem_of_getElem? e)
     have:v'=v:=VR.gO hv r
     rw[this]at e2
     exact⟨xs,el,f',k2,e2⟩
   | _=>cases ht
theorem D_ {E:Env}(hE:aH P E) (hx:cf P E) (hn:eC P) {bz:List (Nat×List Value)}(hc:∀ p∈bz,p.2.all bL=true) {d b:Nat}{f:FuncId}{cs:List Value}{el:TypeId}{h':Heap}(hext:E.ext f [] (po bz E.ng)=none) (hcs:cs.all bL=true) (hu:cs.length<cY)
   (e:dj E d (.func f) [] (po bz E.ng)=some (.slice (some ⟨b,0,none⟩) cs.length cs.length,h')) (hb:h'.b.get b=some (.cells cs el true)) (hbn:E.ng≤b) (w:World) (ht:uY bz E.ng w) :
   Calls P f #[] w fun e w'=>∃ N,e=.returned (.slice (some ⟨N,0,none⟩) cs.length cs.length)∧w.heap.size≤N∧w'.heap[N]?=some (.cells cs.toArray el (0,0))∧Below w.heap.size w w':=by
 have soft0:∀ i x,jJ E.ng i=some x→soft ((po bz E.ng).b.get i):=fun i x e=>by
   unfold jJ at e;by_cases h:i<E.ng
   · rcases sq (bz:=bz) h with hd|⟨p,_,_,hd⟩;· exact .inl hd
     · exact .inr (.inl ⟨_,hd⟩)
   · rw[if_neg h]at e;cases e
 refine(lx hE hx hn hext e (Cv ht hc) (fun g aB=>⟨0,by simp only[jJ];rw[if_pos aB]⟩) .nil).mono fun e w' hh=>?_
 obtain⟨v',ρ',rfl,r,hs⟩:=hh
 have hB:=hs.below soft0
 generalize hL:cs.length=L at r hu ⊢
 cases r with
 | dG _ _ _ _ _ _ _=>exact absurd hu (Nat.lt_irrefl _)
 | @slice _ N c _ _ _ hρ _ =>
   obtain⟨k,o,k1,k2,k3⟩:=hs.hr.ib _ _ _ hρ
   rw[hb]at k1
   cases k1
   refine⟨N,rfl,?_,?_,hB⟩
   · rcases Nat.lt_or_ge N w.heap.size with aB|hge
     · obtain⟨j,d',ej,hj⟩:=hs.uG _ _ _ hρ aB;rcases hj with rfl|hj;· unfold jJ at ej;rw[if_neg (by omega)]at ej;cases ej
       · exact absurd (soft0 _ _ ej) hj
     · exact hge
   · cases k3 with
     | cells _ xs _ _ hv hsz =>
       rw[if_pos rfl]at hsz
       have:xs=cs.toArray:=by
         obtain⟨xl⟩:=xs;congr 1;apply List.ext_getElem?;intro i;simp only[List.size_toArray]at hsz;simp only[List.getElem?_toArray]at hv;cases hi:cs[i]? with
         | none =>
           have hl:=List.getElem?_eq_none_iff.1 hi
           exact List.getElem?_eq_none (by omega)
         | some v =>
           obtain⟨v',e1,r⟩:=hv i v hi
           rw[e1,VR.gO (List.all_eq_true.1 hcs v (List.mem_of_getElem? hi)) r]
       rw[this]at k2
       exact k2
def rJ (bz:List (Nat×List Value)) (k:FuncId) (cs:List Value) (el:TypeId) (base:fU) (f:FuncId) (args:List Value) (h:Heap):Option (Option (Value×Heap)) :=
 cond (Nat.beq f k) (match args with
  | []=>cond (eK bz h) (some (some (.slice (some ⟨h.n,0,none⟩) cs.length cs.length,af h (.cells cs el true)))) (some none)
  | _=>some none) (base f args h)
theorem EU {ng k:Nat}{cs:List Value}{el:TypeId}{base:fU}(h0:cf P (bP P ng base)) {bz:List (Nat×List Value)}(aB:bz.all (fun p=>Nat.blt p.1 ng)=true) (hc:∀ p∈bz,p.2.all bL=true)
   (hcs:cs.all bL=true) (hlen:cs.length<cY) {fn:Func}{c:Code}(hf:P.funcs[k]?=some fn) (hb:fn.body=some c) (hn:eC P)
   (hk:∀ w:World,uY bz ng w→Calls P k #[] w fun e w'=>∃ N,e=.returned (.slice (some ⟨N,0,none⟩) cs.length cs.length)∧w.heap.size≤N∧w'.heap[N]?=some (.cells cs.toArray el (0,0))∧Below w.heap.size w w') :
   cf P (bP P ng (rJ bz k cs el base)):=by
 intro f args h v h' e ρ w args' hr hg ra
 simp only[bP,rJ,aD]at e
 by_cases hfk:f=k
 · subst hfk;rw[if_pos rfl]at e;split at e
   · cases htb:eK bz h with
     | false=>rw[htb]at e;simp at e
     | true =>
       rw[htb]at e
       simp only[cond_true,Option.some.injEq,Prod.mk.injEq]at e
       obtain⟨rfl,rfl⟩:=e
       have hargs:args'=#[]:=by obtain ⟨l⟩:=args';simp only at ra;cases ra;rfl
       subst hargs
       refine .inr (.inl ⟨f,#[],dz hf hn hb _ w,(hk w (Q7 aB htb hc hr hg)).mono fun e w' hh=>?_⟩)
       obtain⟨N,rfl,hN,ho,hB⟩:=hh
       refine⟨_,_,rfl,.slice _ _ _ (Ren.bh _ _ _) hlen,bV.YY hr hB hN ho (.cells _ _ _ _ (fun i v e=>⟨v,by simpa using e,VR.nV _ (List.all_eq_true.1 hcs v (List.mem_of_getElem? e))⟩) (by simp))⟩
   · simp at e
 · rw[if_neg hfk]at e;exact h0 f args h v h' e ρ w args' hr hg ra
end
section
variable {E:Env}{fr:Fr}{h:Heap}{K:Value→Heap→Prop}{x y:Operand}{t t':TypeId}
def Ah (E:Env) (t:TypeId) (v i:Value) (K:Value→Prop) [Tok K]:Prop:=dq (su E t v i) K
theorem Il:bY E (.index t x y) fr h K=bM E fr x fun v=>bM E fr y fun i=>Ah E t v i fun u=>K u h:=by
 simp only[bY,fF,iq,nv,aQ,kindOf,cX,bM,lq,dq,Ah];cases ev E fr x with
 | none=>simp
 | some a =>
   cases ev E fr y with
   | none=>simp
   | some b=>simp
theorem iO (ht:isStr E t=true) {l:List UInt8}{k:IntKind}{i:Nat}{K:Value→Prop}(hi:i<l.length) (q:K (.int .u8 (l[i].toNat:Int))):Ah E t (.string ⟨l.toArray⟩) (.int k (i:Int)) K:=by
 refine⟨_,?_,q⟩;have h0:(0:Int)≤(i:Int):=by omega
 simp only[su,mf ht,h0,decide_true,cond_true,Int.toNat_natCast,bK,List.getElem?_eq_getElem hi,Option.map_some]
def PH (E:Env) (t:TypeId) (n sz:Nat):Bool:=match a_ E t with
 | some (.array len e)=>Nat.beq len n&&match size E e with
   | some s=>Nat.beq s sz&&match E.l9.get e with
     | some i=>Nat.beq i.size sz&&match i.desc with|.struct _|.array _ _=>true|_=>false
     | none=>false
   | none=>false
 | _=>false
theorem vq {α:Type}:∀ (n:Nat) (l:List α),n≤l.length→takeN n l=some (l.take n)
 | 0,_,_=>rfl
 | n+1,[],h=>by simp at h
 | n+1,x::l,h=>by simp only[takeN,vq n l (by simpa using h),Option.map_some,List.take_succ_cons]
theorem WL {n sz:Nat}(ht:PH E t n sz=true) {l:List Value}{k:IntKind}{i:Nat}{K:Value→Prop}(hi:i<n) (hl:i*sz+sz≤l.length) (q:K (.agg ⟨(l.drop (i*sz)).take sz⟩)):Ah E t (.agg ⟨l⟩) (.int k (i:Int)) K:=by
 refine⟨_,?_,q⟩;unfold PH at ht;split at ht
 ·rename_i len e hu;simp only[Bool.and_eq_true,Nat.beq_eq]at ht;obtain⟨rfl,ht⟩:=ht;split at ht
  ·rename_i s hs;simp only[Bool.and_eq_true,Nat.beq_eq]at ht;obtain⟨rfl,ht⟩:=ht;split at ht
   ·rename_i inf he;simp only[Bool.and_eq_true,Nat.beq_eq]at ht;obtain⟨hz,ht⟩:=ht;have h0:(0:Int)≤(i:Int):=by omega
    have h1:(i:Int)<(len:Int):=by omega
    have tk:takeN s (l.drop (i*s))=some ((l.drop (i*s)).take s):=vq _ _ (by rw[List.length_drop];omega);simp only[su,hu,hs,h0,h1,decide_true,Bool.and_self,cond_true,Int.toNat_natCast,partOf,he];split at ht;·rename_i hd;rw[hd];simp only[hz,g_,tk,Option.map_some]
    ·rename_i hd;rw[hd];simp only[hz,g_,tk,Option.map_some]
    ·cases ht
   ·cases ht
  ·cases ht
 ·cases ht
theorem ig (ht:isStr E t=true) {l:List UInt8}{k k':IntKind}{lo hi:Nat}{K:Value→Prop}(h1:lo≤hi) (h:hi≤l.length) (q:K (.string ⟨((l.take hi).drop lo).toArray⟩)) :
  fe E t (.string ⟨l.toArray⟩) (some (.int k (lo:Int))) (some (.int k' (hi:Int))) none K:=by
 have hs:(⟨l.toArray⟩:ByteArray).size=l.length:=by simp[ByteArray.size]
 have hb:cg l.length l.length (some (.int k (lo:Int))) (some (.int k' (hi:Int))) none=some (lo,hi,l.length):=by simp only[cg,fp,dL,oJ h1,oJ h]
 simp only[fe,eB,mf ht,hs,hb,Option.map_some,qR,oK]
 exact q
theorem tG {sz:Nat}{b off n lo:Nat}{k:IntKind}{K:Value→Prop}(hs:pj E t=some sz) (hz:sz≠0) (h1:lo<n) (q:K (.slice (some ⟨b,off+lo*sz,none⟩) (n-lo) cY)) :
  fe E t (.slice (some ⟨b,off,none⟩) n cY) (some (.int k (lo:Int))) none none K:=by
 unfold pj at hs
 split at hs
 ·rename_i e hu;refine⟨_,?_,q⟩;have hb:cg n n (some (.int k (lo:Int))) none none=some (lo,n,n):=by simp only[cg,fp,dL,oJ (Nat.le_of_lt h1)]
  have e2:Nat.beq cY fY=false:=rfl;simp only[eB,hu,e2,cond_false,Nat.beq_refl,cond_true,hb,hs];by_cases h0:lo=0
  ·subst h0;cases sz with
   | zero=>exact absurd rfl hz
   | succ m=>simp[Nat.beq_refl]
  ·have e3:Nat.beq lo 0=false:=lK h0;have e4:Nat.beq lo n=false:=lK (by omega);cases sz with
   | zero=>exact absurd rfl hz
   | succ m=>simp only[e3,e4,cond_false,Option.map_some,Addr.add_lit]
 ·cases hs
theorem AP {kt et:TypeId}{d:TypeDesc}{k v:Value}{ok:Bool}{r i c:Nat}{es:List (Value×Value×Nat)}{K:Value→Prop}(hr:r<h.n) (hb:h.b.get r=some (.map es c)) (hu:a_ E t=some (.map kt et)) (hd:a_ E kt=some d) (hc:cI E 20 kt k=true)
  (hs:jC E kt d k es 0=some (some (i,v))) (q:K (cond ok (.tuple #[v,.bool true]) v)):qo E t (.map (some r)) k ok h K:=by
 have h1:Nat.blt r h.n=true:=by rw[blt_eq];exact decide_eq_true hr
 refine⟨_,?_,q⟩
 simp only[iy,hu,hd,hc,cond_true,bU,h1,hb,Option.map_some,hs]
theorem xi {kt et:TypeId}{d:TypeDesc}{k z:Value}{ok:Bool}{r c:Nat}{es:List (Value×Value×Nat)}{K:Value→Prop}(hr:r<h.n) (hb:h.b.get r=some (.map es c)) (hu:a_ E t=some (.map kt et)) (hd:a_ E kt=some d) (hc:cI E 20 kt k=true)
  (hz:zero E et=some z) (hs:jC E kt d k es 0=some none) (q:K (cond ok (.tuple #[z,.bool false]) z)):qo E t (.map (some r)) k ok h K:=by
 have h1:Nat.blt r h.n=true:=by rw[blt_eq];exact decide_eq_true hr
 refine⟨_,?_,q⟩
 simp only[iy,hu,hd,hc,cond_true,bU,h1,hb,Option.map_some,hs,hz]
theorem rK {r pos:Nat}{l:List UInt8}(hr:h.b.get r=some (.aO ⟨l.toArray⟩ pos)) (hp:pos<l.length) (ha:l[pos].toNat<128) (q:K (.tuple #[.bool true,.int .i64 pos,.int .i32 (l[pos].toNat:Int)]) { h with b:=h.b.set r (.aO ⟨l.toArray⟩ (pos+1)) }):PG true (.pointer (some ⟨r,0,none⟩)) h K:=by
 have hs:(⟨l.toArray⟩:ByteArray).size=l.length:=by simp[ByteArray.size]
 have hg:((⟨l.toArray⟩:ByteArray)[pos]'(by rw[hs];exact hp))=l[pos]:=rfl;have hd:=decode_ascii ⟨l.toArray⟩ pos (by rw[hs];exact hp) (by rw[hg];exact ha);rw[hg]at hd;refine Rp hr (by rw[hs];exact hp) ?_;rw[hd];exact q
def SJ (a b:Value) (K:Value→Prop) [Tok K]:Prop:=dq (nk false a b) K
theorem Rl:bY E (.call ⟨.builtin .min,⟨[x,y]⟩,⟨[t,t']⟩⟩) fr h K=bM E fr x fun a=>bM E fr y fun b=>SJ a b fun u=>K u h:=by
 simp only[bY,fF,iq,nv,lX,aQ,kindOf,cX,wk,aA,bM,lq,dq,SJ];cases ev E fr x with
 | none=>simp
 | some a =>
   cases ev E fr y with
   | none=>simp
   | some b =>
     simp only[Option.some.injEq,exists_eq_left',tO]
     cases nk false a b<;>simp
theorem R0 {k k':IntKind}{a b:Int}{K:Value→Prop}:SJ (.int k a) (.int k' b) K=K (.int k (min a b)):=by
 simp only[SJ,nk,cond_false,aU];rw[Int.min_def];by_cases hl:b<a;·rw[if_pos hl,if_neg (by omega)]
 ·rw[if_neg hl];by_cases he:a=b;·subst he;simp
  ·rw[if_pos (by omega)]
def Q8 (E:Env) (t:TypeId):Bool:=match a_ E t with
 | some (.slice e)=>match a_ E e with|some (.int .u8)=>true|_=>false
 | _=>false
def bbK (E:Env) (t:TypeId) (v:Value) (h:Heap) (K:Value→Heap→Prop) [Tok K]:Prop:=kg (o8 E t t v h) K
theorem VD (hb:Q8 E t=true):bY E (.convert t t x) fr h K=bM E fr x fun v=>bbK E t v h fun u h'=>K u h':=by
 unfold Q8 at hb;split at hb
 ·rename_i e hu;rw[mV (by simp[kindOf,hu]) (by simp)];simp only[iw,aQ,bM,dq,bbK];cases ev E fr x with
  | none=>simp[kg]
  | some v=>simp
 ·cases hb
theorem Xr {i n c:Nat}{cs:List Value}{e:TypeId}(hb:Q8 E t=true) (hi:i<h.n) (hc:c<cY) (hg:h.b.get i=some (.cells cs e true)) (q:K (.slice (some ⟨i,0,none⟩) n c) { h with b:=h.b.set i (.ro fun j=>nth cs j) }):bbK E t (.slice (some ⟨i,0,none⟩) n c) h K:=by
 unfold Q8 at hb;split at hb
 ·rename_i e0 hu;split at hb
  ·rename_i hu2;have h1:Nat.blt i h.n=true:=by rw[blt_eq];exact decide_eq_true hi
   have h2:Nat.blt c cY=true:=by rw[blt_eq];exact decide_eq_true hc
   exact⟨_,_,by simp only[o8,hu,hu2,hg,Nat.beq_refl,h1,h2,Bool.and_self,cond_true],q⟩
  ·cases hb
 ·cases hb
theorem Kc {e:TypeId}{sz n m:Nat}{a:Addr}{y:Value}{cs new:List Value}(hn:n<cY) (hc:firstCells h sz n (.slice (some a) n n)=some cs) (hy:lenOf y=some m) (hm:m≠0) (hsz:n+m≤1000000)
  (hnew:firstCells h sz m y=some new) (hone:new.all aF=true) (k:K (.slice (some ⟨h.n,0,none⟩) (n+m) cY) (af h (.cells (cs++new) e false))):jN e sz (.slice (some a) n n) y h K:=by
 simp only[jN,hy]
 refine⟨⟨by omega,.inr hm⟩,fun h0=>absurd h0 hm,fun _=>?_⟩
 rw[hnew,aU]
 refine⟨hone,?_⟩
 have:cy h e sz (some a) n n m new=some (.slice (some ⟨h.n,0,none⟩) (n+m) cY,af h (.cells (cs++new) e false)):=by
  have f1:Nat.beq n fY=false:=by
   cases hb:Nat.beq n fY with
   | true=>have:=Nat.eq_of_beq_eq_true hb;unfold fY at this;unfold cY at hn;omega
   | false=>rfl
  have f2:Nat.beq n cY=false:=by
   cases hb:Nat.beq n cY with
   | true=>have:=Nat.eq_of_beq_eq_true hb;omega
   | false=>rfl
  have f3:Nat.ble (n+m) n=false:=by
   cases hb:Nat.ble (n+m) n with
   | true=>have:=Nat.le_of_ble_eq_true hb;omega
   | false=>rfl
  unfold cy;simp only[f1,f2,f3,cond_false,hc]
 rw[this,fE]
 exact k
def Tp (E:Env) (ts:List TypeId) (a b:Value) (h:Heap) (K:Value→Heap→Prop) [Tok K]:Prop:=kg (fP E ts [a,b] h) K
theorem KP {ts:Array TypeId}:bY E (.call ⟨.builtin .unsafeString,⟨[x,y]⟩,ts⟩) fr h K=bM E fr x fun a=>bM E fr y fun b=>Tp E ts.toList a b h K:=by
 simp only[bY,fF,iq,nv,lX,aQ,kindOf,iw,wk,aA,bM,dq,Tp];cases ev E fr x with
 | none=>simp[kg]
 | some a =>
   cases ev E fr y with
   | none=>simp[kg]
   | some b=>simp
def XG (v:Value) (K:Value→Prop) [Tok K]:Prop:=dq (kG v) K
theorem Rv {ts:Array TypeId}:bY E (.call ⟨.builtin .unsafeSliceData,⟨[x]⟩,ts⟩) fr h K=bM E fr x fun a=>XG a fun u=>K u h:=by
 simp only[bY,fF,iq,nv,lX,aQ,kindOf,cX,wk,aA,bM,lq,dq,XG];cases ev E fr x with
 | none=>simp
 | some a=>simp
end
end Go.Ev
