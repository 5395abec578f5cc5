/- THE EVALUATOR: a deterministic reading of the program's code over an abstract heap, and that the model does what it says (1). Conditions: none beyond each theorem's own. -/
import Derived.Orders
import Derived.Below
import Derived.Laws.CopyRow
import Derived.Laws.Cells
import Derived.ChangeKeysEq
import Derived.WideKeyRuns
import Derived.DefersIn
import Derived.Calls
import Derived.Laws.Entries
import Derived.Lib.UnsafeStr
set_option linter.unusedSimpArgs false
set_option linter.unusedVariables false
set_option linter.defProp false
def aY:=@Option.map_eq_some_iff
def bw:=@List.getElem?_eq_getElem
def aI:=@List.length_map
def aS:=@Option.some.injEq
def aZ:=@Bool.and_eq_true
def cQ:=@List.getElem?_eq_some_iff
def cu:=@List.getElem?_cons_succ
def cR:=@List.getElem?_cons_zero
def cU:=@List.getElem_set_self
def bA:=@Prod.mk.injEq
def aL:=@Nat.le_succ
def bG:=@List.getElem_mem
def aQ:=@Nat.le_refl
def bX:=@Nat.lt_of_lt_of_le
def dq:=@List.length_eq_zero_iff
def bS:=@Option.map_some
def cV:=@List.getElem_set_ne
def bD:=@List.mem_map
def fq:=@Array.getElem?_eq_some_iff
def cK:=@Nat.lt_succ_self
def cJ:=@List.getElem_set
def cF:=@List.length_nil
def bO:=@Nat.le_trans
def dA:=@List.length_append
def cS:=@List.length_set
def eY:=@Nat.eq_of_beq_eq_true
def bN:=@Int.le_refl
def dn:=@List.length_cons
def dQ:=@Bool.false_eq_true
def dr:=@List.getElem_map
def bQ:=@Nat.mul_one
def cb:=@Nat.zero_add
def fX:=@Nat.le_of_ble_eq_true
def cM:=@List.mem_cons
def eU:=@List.getElem_of_mem
def cj:=@Nat.add_zero
def fU:=@List.mem_cons_of_mem
def eZ:=@List.mem_cons_self
def kx:=@List.take_succ_eq_append_getElem
def dX:=@List.all_eq_true
def hJ:=@List.getElem_cons_zero
def dV:=@List.mem_append
def db:=@Nat.beq_refl
def iE:=@List.take_append_drop
def jx:=@List.getElem?_take_of_lt
def ei:=@List.append_nil
def dy:=@Nat.lt_irrefl
def fp:=@List.length_take
def iU:=@List.length_replicate
def eh:=@List.drop_zero
def dP:=@Bool.and_self
def fo:=@List.map_append
def dT:=@List.map_cons
def kJ:=@List.drop_eq_getElem_cons
def lr:=@Array.getD_eq_getD_getElem?
def ie:=@List.getElem?_map
def hI:=@List.count_append
def ic:=@Bool.not_eq_true'
def iX:=@List.take_succ_cons
def dO:=@Nat.zero_mul
def gy:=@List.nil_append
def jw:=@List.mem_append_left
def gY:=@Option.some.inj
def jA:=@List.flatten_append
def iF:=@List.take_length
def jC:=@List.mem_singleton
def qs:=@List.findIdx?_eq_some_iff_getElem
def ct:=@Eq.trans
def jB:=@List.append_assoc
def lj:=@Array.getElem?_toList
def eX:=@Nat.zero_le
def bV:=@Ne.symm
def iH:=@List.take_zero
def fk:=@Nat.one_mul
def mj:=@Nat.ne_of_beq_eq_false
def mE:=@List.drop_eq_nil_of_le
def kH:=@List.getElem?_drop
def kD:=@List.count_pos_iff
def hY:=@List.all_cons
def jv:=@Nat.min_eq_left
def jO:=@Bool.or_eq_true
def kg:=@List.length_drop
def mB:=@List.drop_succ_cons
def qo:=@Option.isSome_iff_exists
def oH:=@Nat.ble_eq_true_of_le
def iD:=@List.set_set
def lx:=@Classical.not_not
def qD:=@Option.bind_eq_some_iff
def mC:=@Nat.lt_of_le_of_lt
def om:=@Bool.or_eq_false_iff
def lz:=@Option.getD_some
def qU:=@List.getElem_replicate
def oE:=@List.length_pos_iff
def mG:=@List.flatten_cons
def tM:=@Option.isNone_iff_eq_none
def tO:=@List.findIdx?_eq_none_iff
def qK:=@List.getElem?_eq_none
def mo:=@List.cons_append
def qS:=@List.length_erase_le
def kI:=@Bool.true_and
def jb:=@Bool.and_true
def mV:=@Array.getElem?_push
def lF:=@List.not_mem_nil
def qg:=@List.mem_append_right
def iN:=@Nat.add_mul
def sH:=@List.getElem_append_right
def sZ:=@Array.getElem?_eq_getElem
def pE:=@List.getElem?_append
def mZ:=@Bool.eq_false_iff
def jG:=@Nat.le_of_lt
def mT:=@List.append_inj'
def sT:=@List.getElem_cons_succ
def pD:=@Option.isNone_none
def pe:=@List.count_eq_zero
def pG:=@List.append_of_mem
def sO:=@Nat.sub_eq_zero_of_le
def kE:=@List.all_nil
def lE:=@List.sum_cons
def qb:=@List.nodup_append
def nB:=@List.drop_drop
def pX:=@Nat.le_max_right
def pP:=@List.drop_append
def pw:=@Array.toList_inj
def sF:=@Nat.testBit_two_pow
def tq:=@List.countP_eq_zero
def si:=@Array.length_toList
def ti:=@Option.isNone_some
def py:=@Nat.le_max_left
def nu:=@Nat.add_assoc
def uZ:=@List.filter_cons_of_neg
def pV:=@List.cons.injEq
def wz:=@List.take_of_length_le
def pN:=@Nat.testBit_or
def pA:=@List.count_nil
def nh:=@Nat.sub_zero
def nH:=@Nat.sub_self
def vw:=@Array.getElem?_modify
def zf:=@Nat.exists_eq_succ_of_ne_zero
def r_:=@List.mem_flatten
def sb:=@List.any_eq_true
def wJ:=@List.length_zipWith
def sK:=@Bool.eq_iff_iff
def wL:=@List.map_replicate
def u_:=@List.filter_append
def sj:=@List.mem_range
def sE:=@Bool.not_false
def nj:=@Nat.mod_lt
def vl:=@Nat.lt_succ_of_lt
def mM:=@Nat.blt_eq
def mP:=@Nat.beq_eq
def Ae:=@List.getElem_append_left
def vq:=@Int.toNat_natCast
def u7:=@Array.toList_push
def m_:=@Array.ext'
def zU:=@List.filter_cons_of_pos
def zm:=@Int.eq_ofNat_of_zero_le
def sg:=@Bool.not_true
def vB:=@Option.bind_some
def yW:=@List.modify_zero_cons
def AA:=@List.modify_succ_cons
def th:=@List.map_map
def AX:=@List.getElem?_toArray
def wI:=@List.foldl_cons
def zb:=@List.eq_nil_or_concat
def AJ:=@Nat.mul_le_mul_right
def Bd:=@List.range_eq_range'
def AY:=@List.getElem_zipWith
def u6:=@Int.mul_le_mul
def Ax:=@List.take_set_of_le
def Ar:=@List.replicate_succ
def AF:=@List.getElem?_range
def ze:=@List.drop_set_of_lt
def zE:=@List.countP_pos_iff
def A8:=@Array.toList_modify
def Bf:=@List.set_cons_zero
def zg:=@List.length_range
def AO:=@List.getElem?_set
def vV:=@Nat.add_comm
theorem ah {p:Prop}(h:p:=by omega):p:=h
theorem ao {p:Prop}(h:p:=by decide):p:=h
theorem an {p:Prop}(h:p:=by simp):p:=h
theorem aA {p:Prop}(h:p:=by simp[Go.Ev.T.aj]):p:=h
theorem a_ {n:Nat}:n≤n:=aQ n
namespace Go.Ev
inductive T (α:Type) where
 | leaf
 | node (l:T α) (v:Option α) (r:T α)
def T.get {α:Type}:T α→Nat→Option α
 | .leaf,_=>none
 | .node l v r,i=>cond (Nat.beq i 0) v (cond (Nat.beq (i%2) 1) (l.get (i / 2)) (r.get (i / 2-1)))
def T.qX {α:Type}:Nat→T α→Nat→α→T α
 | 0,t,_,_=>t
 | n + 1,.leaf,i,x=>cond (Nat.beq i 0) (.node .leaf (some x) .leaf)
     (cond (Nat.beq (i%2) 1) (.node (T.qX n .leaf (i / 2) x) none .leaf) (.node .leaf none (T.qX n .leaf (i / 2-1) x)))
 | n + 1,.node l v r,i,x=>cond (Nat.beq i 0) (.node l (some x) r)
     (cond (Nat.beq (i%2) 1) (.node (T.qX n l (i / 2) x) v r) (.node l v (T.qX n r (i / 2-1) x)))
def T.set {α:Type}(t:T α) (i:Nat) (x:α):T α:=T.qX (i+1) t i x
def T.mR {α:Type}:List α→Nat→T α→T α
 | [],_,t=>t
 | x::l,i,t=>T.mR l (i+1) (t.set i x)
def T.ofList {α:Type}(l:List α):T α:=T.mR l 0 .leaf
structure TI where
 desc:TypeDesc
 size:Nat
 bytes:Nat
 zero:Option Value
 comparable:Bool
 zd:Bool
inductive iY where
 | cells (cs:List Value) (elem:TypeId) (exact:Bool)
 | dead
 | map (es:List (Value×Value×Nat)) (clock:Nat)
 | im (s:ByteArray) (pos:Nat)
 | nU (m:Option Nat) (since:Nat) (seen:List Nat) (stepped:Nat)
 | loop (st:LoopState) (tY:Option Code) (fr:T Value) (nt:Nat) (ps:List Nat) (assign body:Code)
 | ro (at_:Nat→Option Value)
 | smap (es:List (Nat×Value×Value))
structure ak where
 n:Nat
 b:T iY
abbrev Fr:=T Value
structure Env where
 qh:T TI
 vQ:T Func
 ng:Nat
 ext:FuncId→List Value→ak→Option (Option (Value×ak))
 XG:FuncId→Bool:=fun _=>false
 smap:TypeId→Bool:=fun _=>false
 qf:FuncId→Bool:=fun _=>false
 qc:FuncId→List Value→Option Value:=fun _ _=>none
def bh:Nat:=1000000000000000000000
def fb:Nat:=1000000000000000000001
def Vx:Value:=.chan none
def sJ (n:Nat):Bool:=Nat.blt 9218868437227405312 (n%9223372036854775808)
def KW:Option Nat→Value
 | some r=>.float .f64 r
 | none=>Vx
def Xc (op:BinOp) (a b:Nat):Option Value :=
 match op with
 | .add=>some (KW (Ieee.double.add a b))
 | .sub=>some (KW (Ieee.double.sub a b))
 | .mul=>some (KW (Ieee.double.mul a b))
 | .quo=>some (KW (Ieee.double.div a b))
 | .eql=>some (.bool (Ieee.double.order a b==some .eq))
 | .neq=>some (.bool (Ieee.double.order a b != some .eq))
 | .lss=>some (.bool (Ieee.double.order a b==some .lt))
 | .leq=>some (.bool (Ieee.double.order a b==some .lt || Ieee.double.order a b==some .eq))
 | .gtr=>some (.bool (Ieee.double.order a b==some .gt))
 | .geq=>some (.bool (Ieee.double.order a b==some .gt || Ieee.double.order a b==some .eq))
 | _=>none
def DL:BinOp→Option Value
 | .add|.sub|.mul|.quo=>some Vx
 | .eql|.lss|.leq|.gtr|.geq=>some (.bool false)
 | .neq=>some (.bool true)
 | _=>none
def lK:Value→Bool
 | .bool _|.int _ _|.string _|.float _ _|.pointer none|.slice none 0 0|.map none|.nilFunc|.nilIface=>true
 | _=>false
def fW:Value→Bool
 | .agg cs=>cs.toList.all lK
 | .tuple cs=>cs.toList.all lK
 | v=>lK v
def aW {α β:Type}(f:α→Option β):List α→Option (List β)
 | []=>some []
 | x::l=>match f x,aW f l with|some y,some r=>some (y::r)|_,_=>none
section
variable (E:Env)
def b_ (t:TypeId):Option TypeDesc:=(E.qh.get t).map (·.desc)
def size (t:TypeId):Option Nat:=(E.qh.get t).map (·.size)
def zero (t:TypeId):Option Value:=(E.qh.get t).bind (·.zero)
def zd (t:TypeId):Bool:=match E.qh.get t with|some i=>i.zd|none=>true
def isAgg (t:TypeId):Option Bool:=(b_ E t).map fun|.struct _|.array _ _=>true|_=>false
def nth {α:Type}:List α→Nat→Option α
 | [],_=>none
 | x::l,i=>cond (Nat.beq i 0) (some x) (nth l (i-1))
def uX {α:Type}:List α→Nat→List α
 | [],_=>[]
 | x::l,i=>cond (Nat.beq i 0) (x::l) (uX l (i-1))
def takeN {α:Type}:Nat→List α→Option (List α)
 | 0,_=>some []
 | _+1,[]=>none
 | n+1,x::l=>(takeN n l).map (x::·)
def fV {α:Type}:List α→Nat→List α→Option (List α)
 | l,_,[]=>some l
 | [],_,_::_=>none
 | c::l,i,x::xs=>cond (Nat.beq i 0) ((fV l 0 xs).map (x::·)) ((fV l (i-1) (x::xs)).map (c::·))
def aE:Value→Bool
 | .agg _|.tuple _=>false
 | _=>true
def jz (g:Nat→Option Value):Nat→Nat→Option (List Value)
 | _,0=>some []
 | o,n+1=>match g o,jz g (o+1) n with|some v,some l=>some (v::l)|_,_=>none
def av (h:ak) (a:Addr) (n:Nat):Option (List Value) :=
 cond (Nat.beq n 0) (some []) (match a.spot with
 | some _=>none
 | none=>cond (Nat.blt a.block h.n) (match h.b.get a.block with
   | some (.cells cs _ _)=>takeN n (uX cs a.off)
   | some (.ro g)=>jz g a.off n
   | _=>none) none)
def loadAt (t:TypeId) (x:Value) (h:ak):Option Value :=
 match x,E.qh.get t with
 | .pointer (some a),some i =>
   match i.desc with
   | .struct _|.array _ _=>(av h a i.size).map fun l=>.agg l.toArray
   | .invalid=>none
   | _=>match av h a 1 with|some [v]=>some v|_=>none
 | _,_=>none
def du (h:ak) (a:Addr) (xs:List Value):Option ak :=
 match a.spot with
 | some _=>none
 | none=>match xs with
   | []=>some h
   | _=>match h.b.get a.block with
     | some (.cells cs e x)=>(fV cs a.off xs).map fun cs=>{ h with b:=h.b.set a.block (.cells cs e x) }
     | _=>none
def storeAt (t:TypeId) (x v:Value) (h:ak):Option ak :=
 match x,size E t with
 | .pointer (some a),some n =>
   let l:=v.cells.toList
   cond (Nat.beq l.length n&&l.all aE) (du h a l) none
 | _,_=>none
def ai (h:ak) (b:iY):ak:={ n:=h.n+1,b:=h.b.set h.n b }
def partOf (t:TypeId) (cs:List Value) (off:Nat):Option Value :=
 match E.qh.get t with
 | none=>none
 | some i=>match i.desc with
   | .struct _|.array _ _=>(takeN i.size (uX cs off)).map fun l=>.agg l.toArray
   | .invalid=>none
   | _=>nth cs off
def iV (place:Nat→Option (Nat×Nat)):List Value→List (Nat×Value)→Option (List Value)
 | cs,[]=>some cs
 | cs,(i,v)::rest =>
   match place i with
   | none=>none
   | some (off,n) =>
     let l:=v.cells.toList
     cond (Nat.blt 0 n) (cond (Nat.beq l.length n) (match fV cs off l with|some cs=>iV place cs rest|none=>none) none) none
def rep {α:Type}:Nat→List α→List α
 | 0,_=>[]
 | n+1,l=>l++rep n l
def eqStr (a b:ByteArray):Bool:=a.data.toList.map (·.toNat)==b.data.toList.map (·.toNat)
def nP:Nat→TypeId→Value→Value→Option Bool
 | 0,_,_,_=>none
 | d+1,t,x,y =>
   match b_ E t,x,y with
   | some .bool,.bool a,.bool b=>some (a==b)
   | some (.int _),.int k a,.int k' b=>cond (decide (k=k')) (some (a==b)) none
   | some .string,.string a,.string b=>some (eqStr a b)
   | some (.pointer _),.pointer none,.pointer b=>some b.isNone
   | some (.pointer _),.pointer _,.pointer none=>some false
   | some (.pointer e),.pointer (some a),.pointer (some b) =>
     match size E e with
     | some (_+1)=>cond (Nat.beq a.block b.block) (some (Nat.beq a.off b.off)) none
     | _=>none
   | some (.interface _),.nilIface,.nilIface=>some true
   | some (.interface _),.nilIface,.iface _ _|some (.interface _),.iface _ _,.nilIface=>some false
   | some (.interface _),.iface tx vx,.iface ty vy =>
     cond (Nat.beq tx ty) (match E.qh.get tx with|some i=>cond i.comparable (nP d tx vx vy) none|none=>none) (some false)
   | some (.struct fields),.agg xs,.agg ys =>
     cond (zd E t) none <| fields.toList.foldr (fun f k=>cond (f.name== "_") k (match partOf E f.type xs.toList f.offset,partOf E f.type ys.toList f.offset with
       | some p,some q=>match nP d f.type p q with
         | some true=>k
         | r=>r
       | _,_=>none)) (some true)
   | some (.array len elem),.agg xs,.agg ys =>
     match size E elem with
     | none=>none
     | some n=>(List.range len).foldr (fun i k=>match partOf E elem xs.toList (i*n),partOf E elem ys.toList (i*n) with
       | some p,some q=>match nP d elem p q with
         | some true=>k
         | r=>r
       | _,_=>none) (some true)
   | some (.slice _),.slice none _ _,.slice b _ _=>some b.isNone
   | some (.slice _),.slice _ _ _,.slice none _ _=>some false
   | some (.map _ _),.map none,.map b=>some b.isNone
   | some (.map _ _),.map _,.map none=>some false
   | some (.func _ _ _),.nilFunc,.nilFunc=>some true
   | some (.func _ _ _),.nilFunc,.func _ _ _|some (.func _ _ _),.func _ _ _,.nilFunc=>some false
   | _,_,_=>none
def qi:List UInt8→List UInt8→Bool
 | _,[]=>false
 | [],_::_=>true
 | a::x,b::y=>Nat.blt a.toNat b.toNat || (Nat.beq a.toNat b.toNat&&qi x y)
def plainKey:Nat→TypeId→Bool
 | 0,_=>false
 | d+1,t=>match b_ E t with
   | some (.struct fs)=>fs.toList.all fun f=>plainKey d f.type
   | some (.array _ e)=>plainKey d e
   | some .bool|some (.int _)|some .string|some (.pointer _)=>true
   | _=>false
def d_:Nat→TypeId→Value→Bool
 | 0,_,_=>false
 | d+1,t,v=>match b_ E t,v with
   | some (.struct fs),.agg cs=>fs.toList.all fun f=>f.name== "_" || (match partOf E f.type cs.toList f.offset with|some x=>d_ d f.type x|none=>false)
   | some (.array n e),.agg cs=>match size E e with
     | some sz=>(List.range n).all fun i=>match partOf E e cs.toList (i*sz) with|some x=>d_ d e x|none=>false
     | none=>false
   | some .bool,_|some (.int _),_|some .string,_|some (.pointer _),_=>true
   | _,_=>false
def gw:Value→Bool
 | .int _ _|.float _ _|.complex _ _ _|.string _|.chan none=>true
 | _=>false
def eS (op:BinOp) (t:TypeId) (x y:Value):Option Value :=
 match op,x,y with
 | .shl,.int k a,.int _ b=>cond (decide (b<0)) none (some (.int k (k.wrap (a*2 ^ min b.toNat k.bits))))
 | .shr,.int k a,.int _ b=>cond (decide (b<0)) none (some (.int k (a.fdiv (2 ^ min b.toNat k.bits))))
 | op,.int k a,.int k' b =>
   cond (decide (k=k')) (match op with
   | .add=>some (.int k (k.wrap (a+b)))
   | .sub=>some (.int k (k.wrap (a-b)))
   | .mul=>some (.int k (k.wrap (a*b)))
   | .quo=>cond (decide (b=0)) none (some (.int k (k.wrap (a.tdiv b))))
   | .rem=>cond (decide (b=0)) none (some (.int k (a.tmod b)))
   | .and=>some (.int k (k.wrap (BitVec.ofInt k.bits a &&& BitVec.ofInt k.bits b).toNat))
   | .or=>some (.int k (k.wrap (BitVec.ofInt k.bits a ||| BitVec.ofInt k.bits b).toNat))
   | .xor=>some (.int k (k.wrap (BitVec.ofInt k.bits a ^^^ BitVec.ofInt k.bits b).toNat))
   | .andNot=>some (.int k (k.wrap (BitVec.ofInt k.bits a &&& ~~~BitVec.ofInt k.bits b).toNat))
   | .eql=>some (.bool (a==b))
   | .neq=>some (.bool (a != b))
   | .lss=>some (.bool (decide (a<b)))
   | .leq=>some (.bool (decide (a≤b)))
   | .gtr=>some (.bool (decide (a > b)))
   | .geq=>some (.bool (decide (a≥b)))
   | _=>none) none
 | op,.string a,.string b =>
   match op with
   | .add=>cond (Nat.blt (a.size+b.size) 1000000000) (some (.string (a++b))) none
   | .eql=>some (.bool (eqStr a b))
   | .neq=>some (.bool (!eqStr a b))
   | .lss=>some (.bool (qi a.data.toList b.data.toList))
   | .leq=>some (.bool (qi a.data.toList b.data.toList || eqStr a b))
   | .gtr=>some (.bool (!(qi a.data.toList b.data.toList || eqStr a b)))
   | .geq=>some (.bool (!qi a.data.toList b.data.toList))
   | _=>none
 | .eql,.agg x,.agg y=>cond (plainKey E 20 t) ((nP E 100 t (.agg x) (.agg y)).map .bool) none
 | .neq,.agg x,.agg y=>cond (plainKey E 20 t) ((nP E 100 t (.agg x) (.agg y)).map fun b=>.bool (!b)) none
 | .eql,x,y=>cond (gw x) none ((nP E 100 t x y).map .bool)
 | .neq,x,y=>cond (gw x) none ((nP E 100 t x y).map fun b=>.bool (!b))
 | _,_,_=>none
def aun (op:UnOp) (x:Value):Option Value :=
 match op,x with
 | .neg,.int k n=>some (.int k (k.wrap (0-n)))
 | .xor,.int k n=>some (.int k (k.wrap (BitVec.ofInt k.bits (if k.signed then -1 else k.max) ^^^ BitVec.ofInt k.bits n).toNat))
 | .not,.bool b=>some (.bool !b)
 | .neg,.float .f64 b=>some (.float .f64 (b ^^^ 9223372036854775808))
 | .neg,.chan none=>some Vx
 | _,_=>none
def bound (x:Value) (y:Nat):Option Nat :=
 match x with
 | .int _ i=>cond (decide (0≤i)&&decide (i≤(y:Int))) (some i.toNat) none
 | _=>none
def lO (cap:Nat):Option Value→Option Nat
 | some v=>bound v cap
 | none=>some cap
def iL (h:Nat):Option Value→Option Nat
 | some v=>bound v h
 | none=>some 0
def ia (len cap:Nat) (low high max:Option Value):Option (Nat×Nat×Nat) :=
 match lO cap max with
 | none=>none
 | some m=>match (match high,max with|some v,_=>bound v m|none,none=>some len|none,some _=>none) with
   | none=>none
   | some h=>match iL h low with
     | none=>none
     | some l=>some (l,h,m)
def hX (t:TypeId) (x:Value) (low high max:Option Value):Option Value :=
 match b_ E t,x with
 | some .string,.string s =>
   match max with
   | some _=>none
   | none=>(ia s.size s.size low high none).map fun p=>.string (s.extract p.1 p.2.1)
 | some (.slice elem),.slice a len cap =>
   cond (Nat.beq cap fb) (match ia 0 0 low high max,size E elem with|some _,some _=>some (.slice a len cap)|_,_=>none) (
   cond (Nat.beq cap bh)
     (match ia len len low high max,size E elem with
       | _,some 0=>none
       | some (l,h,m),some sz =>
         match max with
         | some _=>some (.slice (cond (Nat.beq m l) a (a.map (·.add (l*sz)))) (h-l) (m-l))
         | none=>some (cond (Nat.beq l 0) (.slice a h bh) (cond (Nat.beq l m) (.slice a 0 fb) (.slice (a.map (·.add (l*sz))) (h-l) bh)))
       | _,_=>none)
     (match ia len cap low high max,size E elem with
       | some (l,h,m),some sz=>some (.slice (cond (Nat.beq m l) a (a.map (·.add (l*sz)))) (h-l) (m-l))
       | _,_=>none))
 | some (.array n elem),.pointer (some a) =>
   match (cond (Nat.blt n 1000000) (ia n n low high max) none),size E elem with
   | some (l,h,m),some sz=>some (.slice (some (cond (Nat.beq m l) a (a.add (l*sz)))) (h-l) (m-l))
   | _,_=>none
 | _,_=>none
def nM (t:TypeId) (x ix:Value):Option Value :=
 match b_ E t,x,ix with
 | some (.array len elem),.pointer (some a),.int _ i =>
   match size E elem with
   | some sz=>cond (decide (0≤i)&&decide (i<(len:Int))) (some (.pointer (some (a.add (i.toNat*sz))))) none
   | none=>none
 | some (.slice elem),.slice (some a) len _,.int _ i =>
   match size E elem with
   | some sz=>cond (decide (0≤i)&&decide (i<(len:Int))) (some (.pointer (some (a.add (i.toNat*sz))))) none
   | none=>none
 | _,_,_=>none
def yX (t:TypeId) (x ix:Value):Option Value :=
 match b_ E t,x,ix with
 | some (.array len elem),.agg cs,.int _ i =>
   match size E elem with
   | some sz=>cond (decide (0≤i)&&decide (i<(len:Int))) (partOf E elem cs.toList (i.toNat*sz)) none
   | none=>none
 | some .string,.string s,.int _ i =>
   cond (decide (0≤i)) ((nth s.data.toList i.toNat).map fun b=>.int .u8 b.toNat) none
 | _,_,_=>none
def qy (s:TypeId) (x:Value) (f:Nat):Option Value :=
 match b_ E s,x with
 | some (.struct fields),.pointer (some a) =>
   match nth fields.toList f with
   | some fd=>match size E fd.type with
     | some sz=>cond (Nat.beq sz 0) none (some (.pointer (some (a.add fd.offset))))
     | none=>none
   | none=>none
 | _,_=>none
def GS (t:TypeId) (x:Value) (f:Nat):Option Value :=
 match b_ E t,x with
 | some (.struct fields),.agg cs =>
   match nth fields.toList f with
   | some fd=>partOf E fd.type cs.toList fd.offset
   | none=>none
 | _,_=>none
def yU (t:TypeId) (parts:List (Nat×Value)):Option Value :=
 match zero E t,b_ E t with
 | some z,some (.struct fields) =>
   match aW (fun f=>(size E f.type).map (f.offset,·)) fields.toList with
   | some places=>(iV (nth places) z.cells.toList parts).map fun l=>.agg l.toArray
   | none=>none
 | some z,some (.array _ elem) =>
   match size E elem with
   | some sz=>(iV (fun i=>some (i*sz,sz)) z.cells.toList parts).map fun l=>.agg l.toArray
   | none=>none
 | _,_=>none
def tb (t:TypeId) (len:Nat) (parts:List (Nat×Value)):Option (iY×(Nat→Value)) :=
 match b_ E t with
 | some (.slice elem) =>
   match E.qh.get elem with
   | some i=>match i.zero with
     | some z =>
       cond (Nat.ble (len*i.size) 1000000&&Nat.beq z.cells.toList.length i.size&&!Nat.beq i.size 0) (match iV (fun k=>some (k*i.size,i.size)) (rep len z.cells.toList) parts with
       | some l=>some (.cells l elem true,fun b=>.slice (some ⟨b,0,none⟩) len len)
       | none=>none) none
     | none=>none
   | none=>none
 | _=>none
def uN (t:TypeId) (len cap:Value):Option (iY×(Nat→Value)) :=
 match b_ E t,len,cap with
 | some (.slice elem),.int _ l,.int _ c =>
   cond (decide (0≤l)&&decide (l≤c)&&decide (c<1000000)) (match E.qh.get elem with
   | some i=>match i.zero with
     | some z=>cond (Nat.ble i.bytes 10000&&Nat.beq z.cells.toList.length i.size&&!Nat.beq i.size 0) (some (.cells (rep c.toNat z.cells.toList) elem true,
       fun b=>.slice (some ⟨b,0,none⟩) l.toNat c.toNat)) none
     | none=>none
   | none=>none) none
 | _,_,_=>none
def byteOf:Value→Option UInt8
 | .int .u8 n=>some (UInt8.ofNat n.toNat)
 | _=>none
def wj (src dst:TypeId) (x:Value):Option Value :=
 match b_ E src,b_ E dst,x with
 | some (.int _),some (.int k),.int _ n=>some (.int k (k.wrap n))
 | some .string,some .string,.string s=>some (.string s)
 | some (.int _),some (.float .f64),.int _ n=>some (.float .f64 (FloatKind.nearest .f64 n))
 | some (.float .f64),some (.float .f64),.float .f64 n=>some (.float .f64 n)
 | some (.float .f64),some (.float .f64),.chan none=>some Vx
 | _,_,_=>none
def mL (src dst:TypeId) (x:Value) (h:ak):Option Value :=
 match b_ E src,b_ E dst,x with
 | some (.slice e),some .string,x =>
   match b_ E e,x with
   | some (.int .u8),.slice none _ _=>some (.string .empty)
   | some (.int .u8),.slice (some a) len _ =>
     match av h a len with
     | some l=>(aW byteOf l).map fun l=>.string ⟨l.toArray⟩
     | none=>none
   | _,_=>none
 | _,_,_=>none
def bt:Nat→Value→Value→Bool
 | _,.bool a,.bool b=>a==b
 | _,.int k a,.int k' b=>decide (k=k')&&a==b
 | _,.float k a,.float k' b=>decide (k=k')&&a==b
 | _,.string a,.string b=>eqStr a b
 | _,.pointer none,.pointer none=>true
 | _,.pointer (some a),.pointer (some b)=>Nat.beq a.block b.block&&Nat.beq a.off b.off&&a.spot.isNone&&b.spot.isNone
 | _,.slice none n c,.slice none m d=>Nat.beq n m&&Nat.beq c d
 | _,.slice (some a) n c,.slice (some b) m d=>Nat.beq a.block b.block&&Nat.beq a.off b.off&&a.spot.isNone&&b.spot.isNone&&Nat.beq n m&&Nat.beq c d
 | _,.map none,.map none=>true
 | _,.map (some a),.map (some b)=>Nat.beq a b
 | _,.nilFunc,.nilFunc=>true
 | _,.nilIface,.nilIface=>true
 | n+1,.func (.func f) a b,.func (.func g) c d=>Nat.beq f g&&go n a.toList c.toList&&go n b.toList d.toList
 | n+1,.iface t v,.iface u w=>Nat.beq t u&&bt n v w
 | n+1,.agg a,.agg b=>go n a.toList b.toList
 | n+1,.tuple a,.tuple b=>go n a.toList b.toList
 | _,_,_=>false
 where go:Nat→List Value→List Value→Bool
 | _,[],[]=>true
 | n,x::l,y::r=>bt n x y&&go n l r
 | _,_,_=>false
def mX:TypeDesc→Value→Value→Option Bool
 | .int _,.int k a,.int k' b=>cond (decide (k=k')) (some (a==b)) none
 | .string,.string a,.string b=>some (eqStr a b)
 | .bool,.bool a,.bool b=>some (a==b)
 | _,_,_=>none
def pT:TypeDesc→Bool
 | .int _|.string|.bool=>true
 | _=>false
def lG (kt:TypeId) (d:TypeDesc) (k:Value):List (Value×Value×Nat)→Nat→Option (Option (Nat×Value))
 | [],_=>some none
 | (k',v,_)::es,i =>
   match (cond (pT d) (mX d k k') (nP E 100 kt k k')) with
   | some true=>some (some (i,v))
   | some false=>lG kt d k es (i+1)
   | none=>none
def gP (h:ak):Value→Option (List (Value×Value×Nat)×Nat)
 | .map (some r)=>cond (Nat.blt r h.n) (match h.b.get r with|some (.map es c)=>some (es,c)|_=>none) none
 | _=>none
def Xf:Value→Option Nat
 | .int _ (.ofNat n)=>some n
 | .string s=>some (s.data.toList.foldl (fun a b=>a*257+b.toNat+1) 0)
 | _=>none
def Mi (c:Nat) (k v:Value):List (Nat×Value×Value)→Option (List (Nat×Value×Value))
 | []=>some [(c,k,v)]
 | e::es=>cond (Nat.blt e.1 c) ((Mi c k v es).map (e::·)) (cond (Nat.beq c e.1) none (some ((c,k,v)::e::es)))
def Jn:Option Bool→Bool
 | some false=>true
 | _=>false
def ln (h:ak):Value→Option (List (Nat×Value×Value))
 | .map (some r)=>cond (Nat.blt r h.n) (match h.b.get r with|some (.smap es)=>some es|_=>none) none
 | _=>none
def zD (d:TypeDesc) (k:Value):List (Nat×Value×Value)→Option (Option Value)
 | []=>some none
 | e::es=>match mX d k e.2.1,zD d k es with
   | some false,r=>r
   | some true,some none=>some (some e.2.2)
   | _,_=>none
def YR (d:TypeDesc) (k v:Value) (es:List (Nat×Value×Value)):Option (List (Nat×Value×Value)) :=
 match Xf k with
 | some c=>cond (es.all fun x=>Jn (mX d k x.2.1)) (Mi c k v es) none
 | none=>none
def mh (t:TypeId) (m k:Value) (ok:Bool) (h:ak):Option Value :=
 match b_ E t with
 | some (.map kt et) =>
   match b_ E kt with
   | none=>none
   | some d =>
   cond (d_ E 20 kt k) (match (match m with|.map none=>some []|m=>(gP h m).map (·.1)) with
   | none=>cond (pT d) (match ln h m with
     | none=>none
     | some es=>match zD d k es with
       | some (some v)=>some (cond ok (.tuple #[v,.bool true]) v)
       | some none=>(zero E et).map fun z=>cond ok (.tuple #[z,.bool false]) z
       | none=>none) none
   | some es=>match lG E kt d k es 0 with
     | some (some (_,v))=>some (cond ok (.tuple #[v,.bool true]) v)
     | some none=>(zero E et).map fun z=>cond ok (.tuple #[z,.bool false]) z
     | none=>none) none
 | _=>none
def qT:List (Value×Value×Nat)→Nat→Value→List (Value×Value×Nat)
 | [],_,_=>[]
 | (k,v,b)::es,i,x=>cond (Nat.beq i 0) ((k,x,b)::es) ((k,v,b)::qT es (i-1) x)
def jT (t:TypeId) (m k v:Value) (h:ak):Option ak :=
 match b_ E t,m with
 | some (.map kt _),.map (some r) =>
   match b_ E kt,gP h m with
   | some d,some (es,c) =>
     cond (d_ E 20 kt k) (match lG E kt d k es 0 with
     | some (some (i,_))=>match nth es i with
       | some e=>cond (bt 50 e.1 k) (some { h with b:=h.b.set r (.map (qT es i v) c) }) none
       | none=>none
     | some none=>some { h with b:=h.b.set r (.map (es++[(k,v,c)]) (c+1)) }
     | none=>none) none
   | some d,none=>cond (pT d&&d_ E 20 kt k) (match ln h m with
     | none=>none
     | some es=>(YR d k v es).map fun es=>{ h with b:=h.b.set r (.smap es) }) none
   | none,_=>none
 | _,_=>none
def xH (t:TypeId) (m k:Value) (h:ak):Option (Value×ak) :=
 match b_ E t,m with
 | some (.map kt et),.map (some r) =>
   match b_ E kt,gP h m with
   | some d,some (es,c) =>
     cond (d_ E 20 kt k) (match lG E kt d k es 0 with
     | some (some (i,v))=>match nth es i with
       | some e=>cond (bt 50 e.1 k) (some (.tuple #[v,.int .i64 e.2.2],{ h with b:=h.b.set r (.map es c) })) none
       | none=>none
     | some none=>(zero E et).map fun z=>(.tuple #[z,.int .i64 c],{ h with b:=h.b.set r (.map (es++[(k,z,c)]) (c+1)) })
     | none=>none) none
   | _,_=>none
 | _,_=>none
def wx:List (Value×Value×Nat)→Int→Value→Option (List (Value×Value×Nat))
 | [],_,_=>none
 | (k,v,b)::es,n,x=>cond ((b:Int)==n) (some ((k,x,b)::es)) ((wx es n x).map ((k,v,b)::·))
def sd (m s v:Value) (h:ak):Option ak :=
 match m,s,gP h m with
 | .map (some r),.int _ n,some (es,c)=>(wx es n v).map fun es=>{ h with b:=h.b.set r (.map es c) }
 | _,_,_=>none
def Dy (t:TypeId) (m k:Value) (h:ak):Option ak :=
 match b_ E t,m with
 | some (.map kt _),.map none=>cond (d_ E 20 kt k) (some h) none
 | some (.map kt _),.map (some r) =>
   match b_ E kt,gP h m with
   | some d,some (es,c) =>
     cond (d_ E 20 kt k) (match lG E kt d k es 0 with
     | some (some (i,_))=>some { h with b:=h.b.set r (.map (es.take i++uX es (i+1)) c) }
     | some none=>some { h with b:=h.b.set r (.map es c) }
     | none=>none) none
   | _,_=>none
 | _,_=>none
def Tt (t:TypeId) (x:Value):Option Value :=
 match b_ E t,x with
 | some .string,.string s=>some (.int .i64 s.size)
 | some (.array n _),_=>some (.int .i64 n)
 | some (.slice _),.slice _ n _=>some (.int .i64 n)
 | _,_=>none
def aat (t:TypeId) (x:Value):Option Value :=
 match b_ E t,x with
 | some (.slice _),.slice _ _ c=>cond (Nat.blt c bh) (some (.int .i64 c)) none
 | _,_=>none
def Cv (t:TypeId) (x:Value) (h:ak):Option Value :=
 match b_ E t,x with
 | some (.map _ _),.map none=>some (.int .i64 0)
 | some (.map _ _),m=>(gP h m).map fun p=>.int .i64 p.1.length
 | _,_=>none
def firstCells (h:ak) (sz n:Nat):Value→Option (List Value)
 | .slice (some a) _ _=>av h a (n*sz)
 | .slice none _ _=>cond (Nat.beq n 0) (some []) none
 | .string s=>cond (Nat.beq sz 1) ((takeN n s.data.toList).map fun l=>l.map fun b=>.int .u8 b.toNat) none
 | _=>none
def lenOf:Value→Option Nat
 | .slice _ n _=>some n
 | .string s=>some s.size
 | _=>none
def AM:TypeDesc→Bool
 | .slice _|.string=>true
 | _=>false
def bW (h:ak) (elem:TypeId) (sz:Nat) (base:Option Addr) (sl sc n:Nat) (new:List Value):Option (Value×ak) :=
 cond (Nat.beq sc fb) none (
 cond (Nat.beq sc bh)
   (match base with
    | some ⟨i,0,none⟩=>match h.b.get i with
      | some (.cells cs e false) =>
        cond (Nat.beq e elem)
          (cond (Nat.ble ((sl+n)*sz) cs.length)
            ((du h ⟨i,sl*sz,none⟩ new).map fun h=>(.slice base (sl+n) bh,h))
            (cond (Nat.beq (sl*sz) cs.length)
              (some (.slice (some ⟨h.n,0,none⟩) (sl+n) bh,ai { h with b:=h.b.set i .dead } (.cells (cs++new) elem false))) none)) none
      | _=>none
    | _=>none)
   (cond (Nat.ble (sl+n) sc)
     (match base with
      | some ⟨i,o,none⟩=>(du h ⟨i,o+sl*sz,none⟩ new).map fun h=>(.slice base (sl+n) sc,h)
      | _=>none)
     (match firstCells h sz sl (.slice base sl sc) with
      | some old=>some (.slice (some ⟨h.n,0,none⟩) (sl+n) bh,ai h (.cells (old++new) elem false))
      | none=>none)))
def EE (elem xt:TypeId) (base:Option Addr) (sl sc:Nat) (x:Value) (h:ak):Option (Value×ak) :=
 match b_ E xt,x,E.qh.get elem with
 | some (.int _),.int _ l,some i =>
   match i.zero with
   | some z =>
     cond (decide (0≤l)&&decide (l≤1000000)&&!Nat.beq i.size 0&&Nat.beq z.cells.toList.length i.size&&Nat.ble i.bytes 10000&&Nat.ble (sl+l.toNat) 1000000&&(Nat.ble sl sc || !Nat.beq l.toNat 0))
       (cond (Nat.beq l.toNat 0) (some (.slice base sl sc,h)) (cond ((rep l.toNat z.cells.toList).all aE) (bW h elem i.size base sl sc l.toNat (rep l.toNat z.cells.toList)) none)) none
   | none=>none
 | _,_,_=>none
def yL (argTypes:List TypeId) (args:List Value) (h:ak):Option (Value×ak) :=
 match argTypes,args with
 | st::xt::_,.slice base sl sc::x::_ =>
   match b_ E st,(b_ E xt).map AM with
   | some (.slice elem),some true =>
     match E.qh.get elem,lenOf x with
     | some i,some n =>
       match i.zero with
       | some z =>
         cond (!Nat.beq i.size 0&&Nat.beq z.cells.toList.length i.size&&Nat.ble i.bytes 10000&&Nat.ble (sl+n) 1000000&&(Nat.ble sl sc || !Nat.beq n 0))
           (cond (Nat.beq n 0) (some (.slice base sl sc,h)) (match firstCells h i.size n x with
             | some new=>cond (new.all aE) (bW h elem i.size base sl sc n new) none
             | none=>none)) none
       | none=>none
     | _,_=>none
   | some (.slice elem),some false=>EE E elem xt base sl sc x h
   | _,_=>none
 | _,_=>none
def Ct (argTypes:List TypeId) (args:List Value) (h:ak):Option (Value×ak) :=
 match argTypes,args with
 | dt::_,.slice base dl _::x::_ =>
   match b_ E dt with
   | some (.slice elem)=>match size E elem,lenOf x with
     | some sz,some m =>
       match firstCells h sz (min m dl) x with
       | some l=>match base with
         | some a=>cond (l.all aE) ((du h a l).map fun h=>(.int .i64 ↑(min m dl),h)) none
         | none=>some (.int .i64 ↑(min m dl),h)
       | none=>none
     | _,_=>none
   | _=>none
 | _,_=>none
def uT (argTypes:List TypeId) (args:List Value) (h:ak):Option (Value×ak) :=
 match argTypes,args with
 | t::_,.slice base n _::_ =>
   match b_ E t with
   | some (.slice elem)=>match base,zero E elem with
     | none,_=>some (.tuple #[],h)
     | some a,some z=>cond (!Nat.beq z.cells.toList.length 0&&(rep n z.cells.toList).all aE) ((du h a (rep n z.cells.toList)).map fun h=>(.tuple #[],h)) none
     | _,_=>none
   | _=>none
 | _,_=>none
def zW:Value→Option UInt8
 | .int .u8 n=>cond (decide (0≤n)&&decide (n<256)) (some (UInt8.ofNat n.toNat)) none
 | _=>none
def oJ (argTypes:List TypeId) (args:List Value) (h:ak):Option (Value×ak) :=
 match argTypes,args with
 | [_,_],[.pointer none,.int .i64 n]=>cond (decide (n=0)) (some (.string .empty,h)) none
 | [pt,_],[.pointer (some ⟨i,0,none⟩),.int .i64 n] =>
   match b_ E pt,h.b.get i with
   | some (.pointer e),some (.cells cs e' _) =>
     match size E e with
     | some 1=>cond (Nat.beq e e'&&decide (0<n)&&decide (n≤9223372036854775807)&&Nat.blt i h.n) (match takeN n.toNat cs with
       | some l=>match aW zW l with
         | some bs=>some (.string ⟨bs.toArray⟩,{ h with b:=h.b.set i .dead })
         | none=>none
       | none=>none) none
     | _=>none
   | _,_=>none
 | _,_=>none
def rE (mx:Bool):Value→Value→Option Value
 | .int k x,.int _ y=>some (.int k (cond mx (if y > x then y else x) (if y<x then y else x)))
 | _,_=>none
def xX (f:Value→Value→Option Value):Value→List Value→Option Value
 | x,[]=>some x
 | x,y::l=>match f x y with|some z=>xX f z l|none=>none
def Al (t:TypeId) (x:Value) (h:ak):Option (Value×ak) :=
 match b_ E t,x with
 | some .string,.string s=>some (.pointer (some ⟨h.n,0,none⟩),ai h (.im s 0))
 | some (.map _ _),.map none=>some (.pointer (some ⟨h.n,0,none⟩),ai h (.nU none 0 [] 0))
 | some (.map _ _),.map (some m)=>match gP h x with
   | some (_,c)=>some (.pointer (some ⟨h.n,0,none⟩),ai h (.nU (some m) c [] c))
   | none=>none
 | _,_=>none
def BV (it:Value) (str:Bool) (h:ak):Option (Value×ak) :=
 match it with
 | .pointer (some ⟨r,0,_⟩) =>
   match h.b.get r,str with
   | some (.im s pos),true =>
     cond (Nat.blt pos s.size)
       (let (c,w):=Utf8.decode s pos
        some (.tuple #[.bool true,.int .i64 pos,.int .i32 c],{ h with b:=h.b.set r (.im s (pos+w)) }))
       (some (.tuple #[.bool false],h))
   | some (.nU none _ _ _),false=>some (.tuple #[.bool false],h)
   | some (.nU (some m) since seen last),false =>
     match gP h (.map (some m)) with
     | some (es,c) =>
       cond (!seen.isEmpty&&!es.isEmpty&&es.all (fun e=>Nat.ble last e.2.2)) none (
       let left:=es.filter fun e=>!seen.contains e.2.2
       match left with
       | []=>some (.tuple #[.bool false],h)
       | [(k,v,b)]=>cond (Nat.blt b since)
           (some (.tuple #[.bool true,k,v],{ h with b:=h.b.set r (.nU (some m) since (seen++[b]) c) })) none
       | _=>none)
     | none=>none
   | _,_=>none
 | _=>none
def lQ (x:Value) (asserted:TypeId) (ok:Bool):Option Value :=
 match b_ E asserted,x with
 | some (.interface _),_|some .invalid,_=>none
 | some _,.nilIface=>cond ok ((zero E asserted).map fun z=>.tuple #[z,.bool false]) none
 | some _,.iface t v=>cond (Nat.beq t asserted) (some (cond ok (.tuple #[v,.bool true]) v)) (cond ok ((zero E asserted).map fun z=>.tuple #[z,.bool false]) none)
 | _,_=>none
def ev (E:Env) (fr:Fr):Operand→Option Value
 | .tmp t=>fr.get t
 | .const v=>cond (fW v) (some v) none
 | .global g=>cond (Nat.blt g E.ng) (some (.pointer (some ⟨g,0,none⟩))) none
 | .func f=>some (.func (.func f) #[] #[])
def target (fr:Fr) (c:Call):Option (Fn×List Value) :=
 match aW (ev E fr) c.args.toList with
 | none=>none
 | some args=>match c.callee with
   | .value f=>match ev E fr f with
     | some (.func (.func g) first captured)=>some (.func g,first.toList++args++captured.toList)
     | some (.func (.yield l) _ _)=>some (.yield l,args)
     | _=>none
   | _=>none
inductive OpK where
 | pure|read|alloc|act
def isConst:Operand→Bool
 | .const _=>true
 | _=>false
def eT:Op→OpK
 | .move _|.assign _|.pick ..|.build ..|.nilCheck _|.binOp ..|.unOp ..|.makeInterface ..|.makeFunc ..|.slice ..|.fieldAddr ..
 | .field ..|.indexAddr ..|.index ..|.typeAssert ..|.extract ..=>.pure
 | .convert s d _=>match b_ E s with
   | some (.slice _)=>(match b_ E d with|some (.slice _)=>.act|_=>.read)
   | some .string=>(match b_ E d with|some (.slice _)=>.act|_=>.pure)
   | _=>.pure
 | .load ..|.lookup ..=>.read
 | .alloc _|.box ..|.buildSlice ..|.makeMap ..|.makeSlice ..=>.alloc
 | .call c=>match c.callee with
   | .builtin .len=>match c.argTypes.toList with
     | t::_=>match b_ E t with|some (.map ..)=>.read|_=>.pure
     | _=>.act
   | .builtin .max|.builtin .min|.builtin .cap|.builtin .unsafeSliceData=>.pure
   | .value (.func f)=>cond (E.qf f) .pure .act
   | _=>.act
 | _=>.act
def Bx (fr:Fr) (xs:Array Operand):Option (List Value):=aW (ev E fr) xs.toList
def Zp (fr:Fr) (ps:Array (Nat×Operand)):Option (List (Nat×Value)):=aW (fun (p:Nat×Operand)=>(ev E fr p.2).map (p.1,·)) ps.toList
def Gz (fr:Fr):Option Operand→Option (Option Value)
 | none=>some none
 | some y=>(ev E fr y).map some
def uM:Value→Option Value
 | .slice none _ _=>some (.pointer none)
 | .slice (some a) n c=>cond ((Nat.beq c bh&&Nat.blt 0 n) || (Nat.blt 0 c&&Nat.blt c bh)) (some (.pointer (some a))) none
 | _=>none
def Dx:Fn→Bool
 | .yield _=>true
 | _=>false
def dZ (fr:Fr) (o:Oper):Option Value :=
 match o.op with
 | .move x|.assign x=>ev E fr x
 | .pick c a b=>match ev E fr c with
   | some (.bool true)=>ev E fr a
   | some (.bool false)=>ev E fr b
   | _=>none
 | .build t ps=>match Zp E fr ps with|some l=>yU E t l|none=>none
 | .nilCheck x=>match ev E fr x with
   | some (.pointer (some a))=>some (.pointer (some a))
   | some (.iface t v)=>some (.iface t v)
   | some (.func (.func f) a b)=>some (.func (.func f) a b)
   | some (.func (.yield l) a b)=>some (.func (.yield l) a b)
   | _=>none
 | .binOp op t x y _=>match ev E fr x,ev E fr y with
   | some .nilIface,some .nilIface=>cond (isConst x || isConst y) (eS E op t .nilIface .nilIface) none
   | some a,some b=>eS E op t a b
   | _,_=>none
 | .unOp op _ x=>match ev E fr x with|some v=>aun op v|none=>none
 | .convert s d x=>match ev E fr x with|some v=>wj E s d v|none=>none
 | .makeInterface t x=>match ev E fr x,b_ E t with
   | _,some (.interface _)|_,some .invalid=>none
   | some v,some _=>some (.iface t v)
   | _,_=>none
 | .makeFunc fn first cap=>match Dx fn,Bx E fr first,Bx E fr cap with
   | false,some a,some b=>some (.func fn a.toArray b.toArray)
   | _,_,_=>none
 | .slice t x lo hi mx=>match ev E fr x,Gz E fr lo,Gz E fr hi,Gz E fr mx with
   | some x,some lo,some hi,some mx=>hX E t x lo hi mx
   | _,_,_,_=>none
 | .fieldAddr s x f=>match ev E fr x with|some x=>qy E s x f|none=>none
 | .field t x f=>match ev E fr x with|some x=>GS E t x f|none=>none
 | .indexAddr t x i=>match ev E fr x,ev E fr i with|some x,some i=>nM E t x i|_,_=>none
 | .index t x i=>match ev E fr x,ev E fr i with|some x,some i=>yX E t x i|_,_=>none
 | .typeAssert x _ t ok=>match ev E fr x with|some x=>lQ E x t ok|none=>none
 | .extract t i=>match ev E fr t with|some (.tuple vs)=>nth vs.toList i|_=>none
 | .call c=>match c.callee with
   | .builtin .len=>match c.argTypes.toList,Bx E fr c.args with|t::_,some (x::_)=>Tt E t x|_,_=>none
   | .builtin .cap=>match c.argTypes.toList,Bx E fr c.args with|t::_,some (x::_)=>aat E t x|_,_=>none
   | .builtin .max=>match Bx E fr c.args with|some (x::l)=>xX (rE true) x l|_=>none
   | .builtin .min=>match Bx E fr c.args with|some (x::l)=>xX (rE false) x l|_=>none
   | .builtin .unsafeSliceData=>match Bx E fr c.args with|some [x]=>uM x|_=>none
   | _=>none
 | _=>none
def H8 (op:BinOp):Value→Value→Option Value
 | .float .f64 a,.float .f64 b=>Xc op a b
 | .float .f64 _,.chan none|.chan none,.float .f64 _|.chan none,.chan none=>DL op
 | _,_=>none
def v8 (fr:Fr) (c:Call):Option Value :=
 match c.callee with
 | .value (.func f)=>cond (E.qf f) (match Bx E fr c.args with|some l=>E.qc f l|none=>none) none
 | _=>none
def tV (fr:Fr) (o:Oper):Option Value :=
 match o.op with
 | .binOp op _ x y _=>match ev E fr x,ev E fr y with
   | some a,some b=>H8 op a b
   | _,_=>none
 | .call c=>v8 E fr c
 | _=>none
def kR (fr:Fr) (o:Oper):Option Value :=
 match tV E fr o with
 | some v=>some v
 | none=>dZ E fr o
def gH (fr:Fr) (o:Oper) (h:ak):Option Value :=
 match o.op with
 | .load t a=>match ev E fr a with|some x=>loadAt E t x h|none=>none
 | .lookup t x i ok=>match ev E fr x,ev E fr i with|some x,some i=>mh E t x i ok h|_,_=>none
 | .convert s d x=>match ev E fr x with|some v=>mL E s d v h|none=>none
 | .call c=>match c.callee with
   | .builtin .len=>match c.argTypes.toList,Bx E fr c.args with|t::_,some (x::_)=>Cv E t x h|_,_=>none
   | _=>none
 | _=>none
def xE (t:TypeId) (v:Value):Option (iY×(Nat→Value)) :=
 cond (v.cells.toList.all aE) (some (.cells v.cells.toList t true,fun b=>.pointer (some ⟨b,0,none⟩))) none
def gQ (fr:Fr) (o:Oper):Option (iY×(Nat→Value)) :=
 match o.op with
 | .alloc t=>match zero E t with|some z=>xE t z|none=>none
 | .box t x=>match ev E fr x with|some v=>xE t v|none=>none
 | .buildSlice t n ps=>match Zp E fr ps with|some l=>tb E t n l|none=>none
 | .makeSlice t l c=>match ev E fr l,ev E fr c with
   | some l,some c=>uN E t l c
   | _,_=>none
 | .makeMap t r=>match r,b_ E t with
   | none,some _=>some (cond (E.smap t) (.smap []) (.map [] 0),fun b=>.map (some b))
   | some x,some (.map _ _)=>match ev E fr x with
     | some (.int _ _)=>some (cond (E.smap t) (.smap []) (.map [] 0),fun b=>.map (some b))
     | _=>none
   | _,_=>none
 | _=>none
def DT (s:ByteArray):List Value:=s.data.toList.map fun b=>.int .u8 (b.toNat:Int)
def Dq (src dst:TypeId) (x:Value) (h:ak):Option (Value×ak) :=
 match b_ E src,b_ E dst,x with
 | some .string,some (.slice e),.string s=>match b_ E e with
   | some (.int .u8)=>cond (!Nat.beq s.size 0&&Nat.ble s.size 1000000) (some (.slice (some ⟨h.n,0,none⟩) s.size bh,{ n:=h.n+1,b:=h.b.set h.n (.ro fun j=>nth (DT s) j) })) none
   | _=>none
 | some (.slice _),some (.slice e),.slice (some ⟨i,0,none⟩) n c=>match b_ E e,h.b.get i with
   | some (.int .u8),some (.cells cs _ true)=>cond (Nat.beq src dst&&Nat.blt i h.n&&Nat.blt c bh) (some (.slice (some ⟨i,0,none⟩) n c,{ h with b:=h.b.set i (.ro fun j=>nth cs j) })) none
   | _,_=>none
 | _,_,_=>none
def mb (fr:Fr) (o:Oper) (h:ak):Option (Value×ak) :=
 match o.op with
 | .store t a x=>match ev E fr a,ev E fr x with
   | some a,some v=>(storeAt E t a v h).map fun h=>(undef,h)
   | _,_=>none
 | .mapUpdate t m k x|.insert t m k x=>match ev E fr m,ev E fr k,ev E fr x with
   | some m,some k,some x=>(jT E t m k x h).map fun h=>(undef,h)
   | _,_,_=>none
 | .mapEntry t m k=>match ev E fr m,ev E fr k with
   | some m,some k=>xH E t m k h
   | _,_=>none
 | .entryStore _ m s x=>match ev E fr m,ev E fr s,ev E fr x with
   | some m,some s,some x=>(sd m s x h).map fun h=>(undef,h)
   | _,_,_=>none
 | .convert s d x=>match ev E fr x with|some x=>Dq E s d x h|none=>none
 | .range t x=>match ev E fr x with|some x=>Al E t x h|none=>none
 | .next it s=>match ev E fr it with|some x=>BV x s h|none=>none
 | .call c=>match c.callee with
   | .builtin b=>match Bx E fr c.args with
     | none=>none
     | some args=>match b with
       | .append=>yL E c.argTypes.toList args h
       | .copy=>Ct E c.argTypes.toList args h
       | .clear=>uT E c.argTypes.toList args h
       | .unsafeString=>oJ E c.argTypes.toList args h
       | .delete=>match c.argTypes.toList,args with|t::_,m::k::_=>(Dy E t m k h).map fun h=>(undef,h)|_,_=>none
       | _=>none
   | _=>none
 | _=>none
inductive Ex where
 | normal
 | exit (id:Nat)
 | ret
structure Item where
 i:Nat
 again:List Nat
def cf:List Oper→List Nat→List Nat
 | [],acc=>acc
 | o::os,acc=>cf os (acc++[o.after.toList.foldl (fun s e=>cond (Region.binds .any e) (s ||| 2 ^ e.on ||| (nth acc e.on).getD 0) s) 0])
def j9 (o:Oper):Bool:=match eT E o.op with|.act=>true|_=>false
def oI (o:Oper):Bool:=match eT E o.op with|.read=>true|_=>false
def SX (aX:List Nat) (b:Nat):Nat:=aX.foldl (fun n a=>cond (b.testBit a) (n+1) n) 0
def O3 (ops:List Oper) (bs:List Nat):List Item :=
 let rows:=(ops.zip bs).zipIdx.map fun ((o,b),i)=>(i,b,j9 E o,oI E o)
 let aX:=(rows.filter fun r=>r.2.2.1).map (·.1)
 let staged:=rows.map fun r=>(SX aX r.2.1,r)
 (List.range (aX.length+1)).flatMap fun s =>
  (staged.filter fun r=>Nat.beq r.1 s&&!r.2.2.2.1).map (fun r=>{ i:=r.2.1,again:=[]:Item }) ++
  (staged.filter fun r=>Nat.beq r.1 s&&r.2.2.2.1).map fun r =>
   { i:=r.2.1,again:=(staged.filter fun q=>Nat.ble q.1 s&&q.2.2.2.2&&!(r.2.2.1).testBit q.2.1).map (·.2.1) }
def Pg:Operand→List Nat
 | .tmp t=>[t]
 | _=>[]
def looks (ops:List Oper) (o:Oper):List Nat :=
 (match o.guard with|some (j,_)=>(match (nth ops j).bind (·.dst) with|some d=>[d]|none=>[])|none=>[])++o.op.operands.toList.flatMap Pg
def writes (o:Oper) (t:Nat):Bool:=match o.dst with|some d=>Nat.beq d t|none=>false
def JG (ops:List Oper) (bs:List Nat):Bool :=
 (ops.zip bs).zipIdx.all fun p=>(looks ops p.1.1).all fun t=>(ops.zip bs).zipIdx.all fun q=>!writes q.1.1 t || Nat.beq p.2 q.2 || p.1.2.testBit q.2 || q.1.2.testBit p.2
def El:List Oper→Bool
 | []=>true
 | o::os=>(match o.dst with|some d=>os.all fun q=>!writes q d|none=>true)&&El os
def wR (ops:List Oper) (bs:List Nat) (done:Nat) (r:Nat):Bool :=
 match nth ops r,nth bs r with
 | some o,some b=>(looks ops o).all fun t=>ops.zipIdx.all fun q=>!writes q.1 t || b.testBit q.2 || !done.testBit q.2
 | _,_=>false
def oR (mm:Bool) (ops:List Oper) (bs:List Nat):List Item→(done aX:Nat)→(rds:List Nat)→Bool
 | [],done,_,_=>(List.range ops.length).all fun i=>done.testBit i
 | x::xs,done,aX,rds =>
   match nth ops x.i,nth bs x.i with
   | some o,some b =>
     !done.testBit x.i&&(o.after.toList.all fun e=>!Region.binds .any e || done.testBit e.on)&&Nat.beq (aX &&& b) aX &&
     cond (j9 E o)
       ((rds.all fun r=>b.testBit r || x.again.contains r)&&(x.again.all fun r=>rds.contains r&&wR ops bs done r)&&oR mm ops bs xs (done ||| 2 ^ x.i) (cond mm (aX ||| 2 ^ x.i) aX) rds)
       (oR mm ops bs xs (done ||| 2 ^ x.i) aX (cond (oI E o) (x.i::rds) rds))
   | _,_=>false
def D9 (mm:Bool) (ops:List Oper) (bs:List Nat) (pl:List Item):Bool:=JG ops bs&&El ops&&oR E mm ops bs pl 0 0 []
def dB (ops:List Oper) (fr:Fr) (o:Oper):Option Bool :=
 match o.guard with
 | none=>some true
 | some (j,w)=>match (nth ops j).bind (·.dst) with
   | some d=>match fr.get d with
     | some (.bool b)=>some (b==w)
     | some _=>some false
     | none=>none
   | none=>some false
def put (nt:Nat) (fr:Fr) (o:Oper) (v:Value):Option Fr:=match o.dst with|some d=>cond (Nat.blt d nt) (some (fr.set d v)) none|none=>some fr
def jl (call:Fn→List Value→ak→Option (Value×ak)) (fr:Fr) (o:Oper) (h:ak):Option (Value×ak) :=
 match eT E o.op with
 | .pure=>(kR E fr o).map (·,h)
 | .read=>(gH E fr o h).map (·,h)
 | .alloc=>(gQ E fr o).map fun p=>(p.2 h.n,ai h p.1)
 | .act=>match o.op with
   | .call c=>match c.callee with
     | .builtin _=>mb E fr o h
     | _=>match target E fr c with
       | some (f,args)=>call f args h
       | none=>none
   | _=>mb E fr o h
def step (call:Fn→List Value→ak→Option (Value×ak)) (nt:Nat) (ops:List Oper) (fr:Fr) (o:Oper) (h:ak):Option (Fr×ak) :=
 match dB ops fr o with
 | none=>none
 | some false=>(put nt fr o undef).map (·,h)
 | some true=>match jl E call fr o h with
   | some p=>(put nt fr o p.1).map (·,p.2)
   | none=>none
def mi (ops:List Oper) (fr:Fr) (h:ak):List Nat→Bool
 | []=>true
 | i::l=>(match nth ops i with
   | none=>false
   | some o=>match dB ops fr o with
     | none=>false
     | some false=>true
     | some true=>match gH E fr o h,o.dst.bind fr.get with
       | some v,some v'=>bt 50 v v'
       | _,_=>false)&&mi ops fr h l
def ig (call:Fn→List Value→ak→Option (Value×ak)) (nt:Nat) (all:List Oper):List Oper→Fr→ak→Option (Fr×ak)
 | [],fr,h=>some (fr,h)
 | o::os,fr,h=>match step E call nt all fr o h with
   | some (fr,h)=>ig call nt all os fr h
   | none=>none
def yz (fr:Fr) (o:Oper):Bool :=
 match o.op with
 | .defer c=>match target E fr c with
   | some (.func g,_)=>E.XG g
   | _=>false
 | _=>false
def ml (o:Oper):Bool:=match o.op with|.defer _=>true|_=>false
def nf (nt:Nat) (all:List Oper):List Oper→Fr→ak→Option (Fr×ak)
 | [],fr,h=>some (fr,h)
 | o :: os,fr,h=>match (cond (ml o) (match dB all fr o with
     | some true=>cond (yz E fr o) ((put nt fr o undef).map (·,h)) none
     | _=>none) (step E (fun _ _ _=>none) nt all fr o h)) with
   | some (fr,h)=>nf nt all os fr h
   | none=>none
def aJ (call:Fn→List Value→ak→Option (Value×ak)) (nt:Nat) (all:List Oper):List Item→Fr→ak→Option (Fr×ak)
 | [],fr,h=>some (fr,h)
 | x::xs,fr,h=>match nth all x.i with
   | none=>none
   | some o=>match step E call nt all fr o h with
     | some (fr1,h1)=>cond (Nat.ble h.n h1.n&&mi E all fr1 h1 x.again) (aJ call nt all xs fr1 h1) none
     | none=>none
def yK (ops:List Oper):Option (List Item) :=
 let bs:=cf ops []
 let pl:=O3 E ops bs
 cond (D9 E true ops bs pl) (some pl) none
def iter (f:Fr→ak→Option (Ex×Fr×ak)):Nat→Fr→ak→Option (Ex×Fr×ak)
 | 0,_,_=>none
 | n+1,fr,h=>match f fr h with
   | some (.normal,fr,h)=>iter f n fr h
   | r=>r
def oY (h:ak) (l:Nat):Option iY:=cond (Nat.blt l h.n) (h.b.get l) none
def inRound (h:ak):Option Nat→Bool
 | none=>true
 | some l=>match oY h l with|some (.loop ..)=>true|_=>false
def qV (h:ak) (l:Nat) (k:iY):ak:={ h with b:=h.b.set l k }
def tg (h:ak) (l:Nat) (fr:Fr):Option (Ex×Fr×ak) :=
 match oY h l with
 | some (.loop .busy _ _ _ _ _ _)=>none
 | some (.loop _ none f n p a b)=>some (.normal,fr,qV h l (.loop .exhausted none f n p a b))
 | some (.loop _ (some .ret) f n p a b)=>some (.ret,fr,qV h l (.loop .exhausted (some .ret) f n p a b))
 | some (.loop _ (some (.exit id)) f n p a b)=>some (.exit id,fr,qV h l (.loop .exhausted (some (.exit id)) f n p a b))
 | _=>none
noncomputable def code (call:Fn→List Value→ak→Option (Value×ak)) (nt:Nat) (rd:Option Nat):Code→Fr→ak→Option (Ex×Fr×ak)
 | .skip,fr,h=>some (.normal,fr,h)
 | .label _,fr,h=>some (.normal,fr,h)
 | .region _ ops false,fr,h=>cond (ops.toList.any ml) (cond rd.isNone ((nf E nt ops.toList ops.toList fr h).map fun (fr,h)=>(.normal,fr,h)) none)
     ((ig E call nt ops.toList ops.toList fr h).map fun (fr,h)=>(.normal,fr,h))
 | .region _ ops true,fr,h=>match yK E ops.toList with
   | some pl=>(aJ E call nt ops.toList pl fr h).map fun (fr,h)=>(.normal,fr,h)
   | none=>none
 | .seq a b,fr,h=>match code call nt rd a fr h with
   | some (.normal,fr,h)=>code call nt rd b fr h
   | r=>r
 | .cond c a b,fr,h=>match ev E fr c with
   | some (.bool true)=>code call nt rd a fr h
   | some (.bool false)=>code call nt rd b fr h
   | _=>none
 | .block id b,fr,h=>match code call nt rd b fr h with
   | some (.exit j,fr,h)=>some (cond (Nat.beq j id) .normal (.exit j),fr,h)
   | r=>r
 | .loop b,fr,h=>iter (code call nt rd b) 1000000 fr h
 | .scope b,fr,h=>code call nt rd b fr h
 | .rangeFunc g ps assign body,fr,h =>
   cond (inRound h rd) (match ev E fr g with
     | some (.func (.func f) first cap) =>
       match E.ext f (first.toList++.func (.yield h.n) #[] #[]::cap.toList) (ai h (.loop .ready none fr nt ps.toList assign body)) with
       | some _=>none
       | none=>match call (.func f) (first.toList++.func (.yield h.n) #[] #[]::cap.toList) (ai h (.loop .ready none fr nt ps.toList assign body)) with
         | some (_,h2)=>tg h2 h.n fr
         | none=>none
     | _=>none) none
 | .exit id,fr,h=>some (.exit id,fr,h)
 | .ret,fr,h=>some (.ret,fr,h)
 | _,_,_=>none
def bY:List Value→Nat→Fr→Fr
 | [],_,fr=>fr
 | v::l,i,fr=>bY l (i+1) (fr.set i v)
def me (fr:Fr) (h:ak):ResultVar→Option Value
 | .tmp t=>ev E fr (.tmp t)
 | .cell a t=>match fr.get a with|some x=>loadAt E t x h|none=>none
def Ap (nt:Nat):List Nat→List Value→Fr→Option Fr
 | [],[],fr=>some fr
 | t::ps,v::vs,fr=>cond (Nat.blt t nt) (Ap nt ps vs (fr.set t v)) none
 | _,_,_=>none
def wO (h:ak) (l:Nat) (ex:Ex):Option (Value×ak) :=
 match oY h l with
 | some (.loop .busy none f n p a b)=>match ex with
   | .normal=>some (.bool true,qV h l (.loop .ready none f n p a b))
   | .exit id=>some (.bool false,qV h l (.loop .done (some (.exit id)) f n p a b))
   | .ret=>some (.bool false,qV h l (.loop .done (some .ret) f n p a b))
 | _=>none
def sk (h:ak) (l:Nat):Option ak :=
 match oY h l with
 | some (.loop .ready none f n p a b)=>some (qV h l (.loop .busy none f n p a b))
 | _=>none
noncomputable def dN:Nat→Fn→List Value→ak→Option (Value×ak)
 | 0,_,_,_=>none
 | d+1,.func f,args,h =>
   match E.ext f args h with
   | some r=>r
   | none=>match E.vQ.get f with
     | none=>none
     | some fn=>match fn.body with
       | none=>none
       | some b=>match code E (dN d) (max fn.ntmps args.length) none b (bY args 0 .leaf) h with
         | some (.exit _,_,_)=>none
         | some (_,fr,h) =>
           match aW (me E fr h) fn.results.toList with
           | some [v]=>some (v,h)
           | some vs=>some (.tuple vs.toArray,h)
           | none=>none
         | none=>none
 | d+1,.yield l,args,h =>
   match oY h l with
   | some (.loop .ready none fr nt ps assign body)=>match Ap nt ps args fr with
     | none=>none
     | some fr1=>match code E (dN d) nt (some l) assign fr1 h with
       | some (.normal,fr2,h2)=>match sk h2 l with
         | none=>none
         | some h3=>match code E (dN d) nt (some l) body fr2 h3 with
           | some (ex,_,h4)=>wO h4 l ex
           | none=>none
       | _=>none
   | _=>none
 | _,_,_,_=>none
end
def Rz:Option Value→Option Value
 | some z=>cond (fW z) (some z) none
 | none=>none
def WH (P:Program) (t:TypeId) (i:TypeInfo):TI :=
 { desc:=(P.underlying t).getD .invalid,size:=i.size,bytes:=i.bytes,zero:=Rz i.zero,comparable:=i.comparable,zd:=P.stoodInHeld t }
def CE (P:Program):List TypeInfo→Nat→List TI
 | [],_=>[]
 | i::l,t=>WH P t i::CE P l (t+1)
def iW (P:Program) (ng:Nat) (ext:FuncId→List Value→ak→Option (Option (Value×ak))):Env :=
 { qh:=T.ofList (CE P P.types.toList 0),vQ:=T.ofList P.funcs.toList,ng,ext }
theorem bF {α:Type}(i j:Nat) (x y:α):cond (Nat.beq i j) x y=if i=j then x else y:=by
 cases hb:Nat.beq i j with
 | true=>rw[if_pos (eY hb)];rfl
 | false=>rw[if_neg (mj hb)];rfl
theorem T.mO {α:Type}(i:Nat):(T.leaf:T α).get i=none:=rfl
theorem T.kG {α:Type}(l r:T α) (v:Option α) (i:Nat) :
  (T.node l v r).get i=if i=0 then v else if i%2=1 then l.get (i / 2) else r.get (i / 2-1):=by
 simp only[T.get,bF]
theorem T.wP {α:Type}(n i:Nat) (x:α):T.qX (n+1) .leaf i x=if i=0 then .node .leaf (some x) .leaf else
  if i%2=1 then .node (T.qX n .leaf (i / 2) x) none .leaf else .node .leaf none (T.qX n .leaf (i / 2-1) x):=by
 simp only[T.qX,bF]
theorem T.jy {α:Type}(n i:Nat) (l r:T α) (v:Option α) (x:α):T.qX (n+1) (.node l v r) i x=if i=0 then .node l (some x) r else
  if i%2=1 then .node (T.qX n l (i / 2) x) v r else .node l v (T.qX n r (i / 2-1) x):=by
 simp only[T.qX,bF]
theorem T.sY {α:Type}(x:α):∀ (n i j:Nat) (t:T α),i<n→(T.qX n t i x).get j=if i=j then some x else t.get j
 | 0,_,_,_,h=>ah
 | n+1,i,j,.leaf,h=>by
   rw[T.wP];by_cases h0:i=0
   · subst h0;rw[if_pos rfl,T.kG];by_cases hj:j=0;· subst hj;simp
     · have h1:¬0=j:=fun e=>hj e.symm;simp[hj,h1,T.mO]
   · rw[if_neg h0];by_cases hp:i%2=1
     · rw[if_pos hp,T.kG];by_cases hj:j=0;· subst hj;rw[if_pos rfl,if_neg h0];rfl
       · rw[if_neg hj];by_cases hq:j%2=1
         · rw[if_pos hq,T.sY x n _ _ _ ah];by_cases e:i=j;· subst e;simp
           · rw[if_neg ah,if_neg e];simp[T.mO]
         · rw[if_neg hq,if_neg (by intro e;subst e;omega)];simp[T.mO]
     · rw[if_neg hp,T.kG];by_cases hj:j=0;· subst hj;rw[if_pos rfl,if_neg h0];rfl
       · rw[if_neg hj];by_cases hq:j%2=1;· rw[if_pos hq,if_neg (by intro e;subst e;omega)];simp[T.mO]
         · rw[if_neg hq,T.sY x n _ _ _ ah];by_cases e:i=j;· subst e;simp
           · rw[if_neg ah,if_neg e];simp[T.mO]
 | n+1,i,j,.node l v r,h=>by
   rw[T.jy];by_cases h0:i=0
   · subst h0;rw[if_pos rfl,T.kG,T.kG];by_cases hj:j=0;· subst hj;simp
     · have h1:¬0=j:=fun e=>hj e.symm;simp[hj,h1]
   · rw[if_neg h0];by_cases hp:i%2=1
     · rw[if_pos hp,T.kG,T.kG];by_cases hj:j=0;· subst hj;rw[if_pos rfl,if_neg h0,if_pos rfl]
       · rw[if_neg hj,if_neg hj];by_cases hq:j%2=1
         · rw[if_pos hq,if_pos hq,T.sY x n _ _ _ ah];by_cases e:i=j;· subst e;simp
           · rw[if_neg ah,if_neg e]
         · rw[if_neg hq,if_neg hq,if_neg (by intro e;subst e;omega)]
     · rw[if_neg hp,T.kG,T.kG];by_cases hj:j=0;· subst hj;rw[if_pos rfl,if_neg h0,if_pos rfl]
       · rw[if_neg hj,if_neg hj];by_cases hq:j%2=1;· rw[if_pos hq,if_pos hq,if_neg (by intro e;subst e;omega)]
         · rw[if_neg hq,if_neg hq,T.sY x n _ _ _ ah];by_cases e:i=j;· subst e;simp
           · rw[if_neg ah,if_neg e]
theorem T.aj {α:Type}(t:T α) (i j:Nat) (x:α):(t.set i x).get j=if i=j then some x else t.get j:=T.sY x _ i j t ah
theorem T.get_set_same {α:Type}(t:T α) (i:Nat) (x:α):(t.set i x).get i=some x:=aA
theorem T.aR {α:Type}(t:T α) {i j:Nat}(x:α) (h:i≠j):(t.set i x).get j=t.get j:=by simp[T.aj,h]
theorem T.s_ {α:Type}:∀ (l:List α) (k:Nat) (t:T α) (j:Nat),(T.mR l k t).get j=if k≤j∧j<k+l.length then l[j-k]? else t.get j
 | [],k,t,j=>by simp[T.mR];omega
 | x::l,k,t,j=>by
   rw[T.mR,T.s_ l,T.aj];by_cases h:k=j;· subst h;simp;omega
   · by_cases h2:k+1≤j∧j<k+1+l.length;· rw[if_pos h2,if_pos (by simp;omega),show j-k=(j-(k+1))+1 by omega];simp
     · rw[if_neg h2,if_neg h,if_neg (by simp;omega)]
theorem T.uG {α:Type}(l:List α) (j:Nat):(T.ofList l).get j=l[j]?:=by
 rw[T.ofList,T.s_];by_cases h:j<l.length;·simp[h]
 ·simp[h,T.mO]
theorem dL {α:Type}:∀ (l:List α) (i:Nat),nth l i=l[i]?
 | [],i=>by simp[nth]
 | x::l,i=>by
   rw[nth,bF];by_cases h:i=0;· subst h;simp
   · rw[if_neg h,dL l];obtain⟨k,rfl⟩:=zf h;simp
theorem jJ {α:Type}:∀ (l:List α) (i:Nat),uX l i=l.drop i
 | [],i=>by simp[uX]
 | x::l,i=>by
   rw[uX,bF];by_cases h:i=0;· subst h;simp
   · rw[if_neg h,jJ l];obtain⟨k,rfl⟩:=zf h;simp
theorem pI {α:Type}:∀ (n:Nat) (l r:List α),takeN n l=some r→n≤l.length∧r=l.take n
 | 0,l,r,h=>by simp[takeN]at h;simp[← h]
 | n+1,[],r,h=>by simp[takeN]at h
 | n+1,x::l,r,h=>by simp only[takeN,aY]at h;obtain⟨q,hq,rfl⟩:=h;obtain⟨h1,rfl⟩:=pI n l q hq;exact⟨by simp;omega,an⟩
theorem tv {α:Type}:∀ (l:List α) (i:Nat) (xs r:List α),fV l i xs=some r→(xs=[]∨i+xs.length≤l.length)∧r=l.take i++xs++l.drop (i+xs.length)
 | [],i,[],r,h=>by simp[fV]at h;subst h;simp
 | c::l,i,[],r,h=>by simp[fV]at h;subst h;simp
 | [],i,x::xs,r,h=>by simp[fV]at h
 | c::l,i,x::xs,r,h=>by
   rw[fV,bF]at h;by_cases h0:i=0
   · subst h0;rw[if_pos rfl]at h;simp only[aY]at h;obtain⟨q,hq,rfl⟩:=h;obtain⟨h1,rfl⟩:=tv l 0 xs q hq;refine⟨.inr ?_,?_⟩;· rcases h1 with rfl|h1<;>simp at *;omega
     · simp
   · rw[if_neg h0]at h;simp only[aY]at h;obtain⟨q,hq,rfl⟩:=h;obtain⟨h1,rfl⟩:=tv l (i-1) (x::xs) q hq;obtain⟨k,rfl⟩:=zf h0;refine⟨.inr ?_,?_⟩
     · rcases h1 with h1|h1;· cases h1
       · simp at *;omega
     · simp[Nat.succ_add]
abbrev Ren:=Nat→Option (Nat×Nat)
mutual
inductive VR (ρ:Ren):Value→Value→Prop
 | bool (b:Bool):VR ρ (.bool b) (.bool b)
 | int (k:IntKind) (n:Int):VR ρ (.int k n) (.int k n)
 | float (k:FloatKind) (n:Nat):VR ρ (.float k n) (.float k n)
 | Bn (n:Nat) (h:sJ n=true) (hn:n<18446744073709551616):VR ρ (.chan none) (.float .f64 n)
 | string (s:ByteArray):VR ρ (.string s) (.string s)
 | AN:VR ρ (.pointer none) (.pointer none)
 | ptr {i b c:Nat}(off:Nat) (h:ρ i=some (b,c)):VR ρ (.pointer (some ⟨i,off,none⟩)) (.pointer (some ⟨b,off,none⟩))
 | jq (n c:Nat) (hc:c<bh):VR ρ (.slice none n c) (.slice none n c)
 | slice {i b c:Nat}(off len cap:Nat) (h:ρ i=some (b,c)) (hc:cap<bh):VR ρ (.slice (some ⟨i,off,none⟩) len cap) (.slice (some ⟨b,off,none⟩) len cap)
 | g_ {i b c:Nat}(off len cap:Nat) (h:ρ i=some (b,c)) (hn:len<bh) (hl:len≤cap) (h0:off=0→cap=c):VR ρ (.slice (some ⟨i,off,none⟩) len bh) (.slice (some ⟨b,off,none⟩) len cap)
 | iQ (a a':Addr) (cap:Nat):VR ρ (.slice (some a) 0 fb) (.slice (some a') 0 cap)
 | DI:VR ρ (.map none) (.map none)
 | map {i b c:Nat}(h:ρ i=some (b,c)):VR ρ (.map (some i)) (.map (some b))
 | nilFunc:VR ρ .nilFunc .nilFunc
 | func (fn:Fn) (xs ys xs' ys':Array Value) (hy:Dx fn=false) (h:eW ρ xs.toList xs'.toList) (h':eW ρ ys.toList ys'.toList):VR ρ (.func fn xs ys) (.func fn xs' ys')
 | yield {i b c:Nat}(h:ρ i=some (b,c)):VR ρ (.func (.yield i) #[] #[]) (.func (.yield b) #[] #[])
 | nilIface:VR ρ .nilIface .nilIface
 | iface (t:TypeId) (v v':Value) (h:VR ρ v v'):VR ρ (.iface t v) (.iface t v')
 | agg (xs xs':Array Value) (h:eW ρ xs.toList xs'.toList):VR ρ (.agg xs) (.agg xs')
 | tuple (xs xs':Array Value) (h:eW ρ xs.toList xs'.toList):VR ρ (.tuple xs) (.tuple xs')
inductive eW (ρ:Ren):List Value→List Value→Prop
 | nil:eW ρ [] []
 | cons {v v':Value}{l l':List Value}(h:VR ρ v v') (t:eW ρ l l'):eW ρ (v::l) (v'::l')
end
def Ren.le (ρ ρ':Ren):Prop:=∀ i x,ρ i=some x→ρ' i=some x
theorem Ren.le_refl (ρ:Ren):ρ.le ρ:=fun _ _ h=>h
theorem Ren.le_trans {ρ ρ₁ ρ₂:Ren}(h:ρ.le ρ₁) (h':ρ₁.le ρ₂):ρ.le ρ₂:=fun _ _ e=>h' _ _ (h _ _ e)
mutual
theorem VR.mono {ρ ρ':Ren}(hle:ρ.le ρ'):∀ {v v':Value},VR ρ v v'→VR ρ' v v'
 | _,_,.bool b=>.bool b
 | _,_,.int k n=>.int k n
 | _,_,.float k n=>.float k n
 | _,_,.Bn n h hn=>.Bn n h hn
 | _,_,.string s=>.string s
 | _,_,.AN=>.AN
 | _,_,.ptr off h=>.ptr off (hle _ _ h)
 | _,_,.jq n c hc=>.jq n c hc
 | _,_,.slice off len cap h hc=>.slice off len cap (hle _ _ h) hc
 | _,_,.g_ off len cap h hn hl h0=>.g_ off len cap (hle _ _ h) hn hl h0
 | _,_,.iQ a a' cap=>.iQ a a' cap
 | _,_,.DI=>.DI
 | _,_,.map h=>.map (hle _ _ h)
 | _,_,.nilFunc=>.nilFunc
 | _,_,.func fn xs ys xs' ys' hy h h'=>.func fn xs ys xs' ys' hy (eW.mono hle h) (eW.mono hle h')
 | _,_,.yield h=>.yield (hle _ _ h)
 | _,_,.nilIface=>.nilIface
 | _,_,.iface t v v' h=>.iface t v v' (VR.mono hle h)
 | _,_,.agg xs xs' h=>.agg xs xs' (eW.mono hle h)
 | _,_,.tuple xs xs' h=>.tuple xs xs' (eW.mono hle h)
theorem eW.mono {ρ ρ':Ren}(hle:ρ.le ρ'):∀ {l l':List Value},eW ρ l l'→eW ρ' l l'
 | _,_,.nil=>.nil
 | _,_,.cons h t=>.cons (VR.mono hle h) (eW.mono hle t)
end
theorem eW.length {ρ:Ren}:∀ {l l':List Value},eW ρ l l'→l.length=l'.length
 | _,_,.nil=>rfl
 | _,_,.cons _ t=>by simp[eW.length t]
theorem eW.get {ρ:Ren}:∀ {l l':List Value},eW ρ l l'→∀ (i:Nat) (v:Value),l[i]?=some v→∃ v',l'[i]?=some v'∧VR ρ v v'
 | _,_,.nil,i,v,h=>by simp at h
 | _,_,.cons h t,0,v,e=>by simp at e;subst e;exact⟨_,rfl,h⟩
 | _,_,.cons h t,i+1,v,e=>by simp at e ⊢;exact eW.get t i v e
theorem eW.xv {ρ:Ren}:∀ {l l':List Value},l.length=l'.length→(∀ (i:Nat) (v:Value),l[i]?=some v→∃ v',l'[i]?=some v'∧VR ρ v v')→eW ρ l l'
 | [],[],_,_=>.nil
 | [],_::_,h,_=>by simp at h
 | _::_,[],h,_=>by simp at h
 | v::l,v'::l',h,k=>by obtain⟨u,e,hu⟩:=k 0 v an;simp at e;subst e;exact .cons hu (eW.xv (by simpa using h) fun i x e=>by simpa using k (i+1) x (by simpa using e))
theorem eW.append {ρ:Ren}:∀ {l l' m m':List Value},eW ρ l l'→eW ρ m m'→eW ρ (l++m) (l'++m')
 | _,_,_,_,.nil,h=>h
 | _,_,_,_,.cons h t,h'=>.cons h (eW.append t h')
theorem eW.take {ρ:Ren}:∀ {l l':List Value},eW ρ l l'→∀ n,eW ρ (l.take n) (l'.take n)
 | _,_,.nil,n=>by simp;exact .nil
 | _,_,.cons _ _,0=>.nil
 | _,_,.cons h t,n+1=>.cons h (eW.take t n)
theorem eW.drop {ρ:Ren}:∀ {l l':List Value},eW ρ l l'→∀ n,eW ρ (l.drop n) (l'.drop n)
 | _,_,.nil,n=>by simp;exact .nil
 | _,_,.cons h t,0=>.cons h t
 | _,_,.cons _ t,n+1=>eW.drop t n
theorem VR.cells {ρ:Ren}{v v':Value}(h:VR ρ v v'):eW ρ v.cells.toList v'.cells.toList:=by cases h<;>first
  | (simp only[Value.cells];assumption)
  | (simp only[Value.cells];exact .cons (by constructor<;>assumption) .nil)
theorem VR.aE {ρ:Ren}{v v':Value}(h:VR ρ v v') (ho:Ev.aE v=true):v'.oneCell'=true:=by cases h<;>first|rfl|simp[Ev.aE]at ho
theorem eW.aE {ρ:Ren}{l l':List Value}(h:eW ρ l l') (ho:l.all Ev.aE=true):∀ v∈l',v.oneCell'=true:=by
 intro v hv;obtain⟨i,hi,e⟩:=eU hv;have hl:=h.length;have e2:l[i]?=some (l[i]'(by omega)):=bw _;obtain⟨u,eu,hu⟩:=h.get i _ e2;rw[bw hi]at eu;have:u=v:=by rw[← e];exact(gY eu).symm
 subst this;exact hu.aE (dX.1 ho _ (bG _))
theorem VR.xz (ρ:Ren):∀ {v:Value},lK v=true→VR ρ v v
 | .bool _,_=>.bool _
 | .int _ _,_=>.int _ _
 | .float _ _,_=>.float _ _
 | .string _,_=>.string _
 | .pointer none,_=>.AN
 | .slice none 0 0,_=>.jq 0 0 ao
 | .map none,_=>.DI
 | .nilFunc,_=>.nilFunc
 | .nilIface,_=>.nilIface
theorem eW.xz (ρ:Ren):∀ {l:List Value},l.all lK=true→eW ρ l l
 | [],_=>.nil
 | v::l,h=>by simp only[hY,aZ]at h;exact .cons (VR.xz ρ h.1) (eW.xz ρ h.2)
theorem VR.const (ρ:Ren) {v:Value}(h:fW v=true):VR ρ v v:=by
 unfold fW at h;split at h;·exact .agg _ _ (eW.xz ρ h)
 ·exact .tuple _ _ (eW.xz ρ h)
 ·exact VR.xz ρ h
theorem VR.undef (ρ:Ren):VR ρ undef undef:=.tuple _ _ .nil
inductive MR (ρ:Ren):List (Value×Value×Nat)→List MapEntry→Prop
 | nil:MR ρ [] []
 | cons {k k' v v':Value}{n:Nat}{l:List (Value×Value×Nat)}{l':List MapEntry}(hk:VR ρ k k') (hv:VR ρ v v') (t:MR ρ l l'):MR ρ ((k,v,n)::l) ({ key:=k',val:=v',born:=n }::l')
def SR (ρ:Ren) (es:List (Nat×Value×Value)) (l:List MapEntry):Prop :=
 (∀ e∈l,∃ x∈es,VR ρ x.2.1 e.key∧VR ρ x.2.2 e.val)∧∀ x∈es,∃ e∈l,VR ρ x.2.1 e.key∧VR ρ x.2.2 e.val
theorem SR.mono {ρ ρ':Ren}(hle:ρ.le ρ') {es:List (Nat×Value×Value)}{l:List MapEntry}(h:SR ρ es l):SR ρ' es l :=
 ⟨fun e he=>let ⟨x,hx,a,b⟩:=h.1 e he;⟨x,hx,a.mono hle,b.mono hle⟩,fun x hx=>let ⟨e,he,a,b⟩:=h.2 x hx;⟨e,he,a.mono hle,b.mono hle⟩⟩
inductive BR (P:Program) (ρ:Ren) (c:Nat):iY→Obj→Prop
 | cells (cs:List Value) (xs:Array Value) (e:TypeId) (exact:Bool) (h:∀ (i:Nat) (v:Value),cs[i]?=some v→∃ v',xs[i]?=some v'∧VR ρ v v')
   (hs:if exact then xs.size=cs.length else xs.size=c*P.cellsOf e):BR P ρ c (.cells cs e exact) (.cells xs e (0,0))
 | dead (o:Obj):BR P ρ c .dead o
 | map (es:List (Value×Value×Nat)) (es':Array MapEntry) (n:Nat) (h:MR ρ es es'.toList):BR P ρ c (.map es n) (.map es' n)
 | im (s:ByteArray) (n:Nat):BR P ρ c (.im s n) (.stringIter s n)
 | Ej (a:Nat) (l:List Nat) (n:Nat):BR P ρ c (.nU none a l n) (.mapIter none a l.toArray n)
 | nU {i b d:Nat}(h:ρ i=some (b,d)) (a:Nat) (l:List Nat) (n:Nat):BR P ρ c (.nU (some i) a l n) (.mapIter (some b) a l.toArray n)
 | loop (fr:T Value) (r:Loop) (h:∀ t v,fr.get t=some v→VR ρ v (r.tmps.getD t undef)):BR P ρ c (.loop r.state r.pending fr r.tmps.size r.params.toList r.assign r.body) (.loop r)
 | ro (g:Nat→Option Value) (o:Obj) (h:∀ i v,g i=some v→∃ xs e f v',o=.cells xs e f∧xs[i]?=some v'∧VR ρ v v'):BR P ρ c (.ro g) o
 | smap (es:List (Nat×Value×Value)) (es':Array MapEntry) (n:Nat) (h:SR ρ es es'.toList):BR P ρ c (.smap es) (.map es' n)
theorem MR.mono {ρ ρ':Ren}(hle:ρ.le ρ'):∀ {l:List (Value×Value×Nat)}{l':List MapEntry},MR ρ l l'→MR ρ' l l'
 | _,_,.nil=>.nil
 | _,_,.cons hk hv t=>.cons (hk.mono hle) (hv.mono hle) (MR.mono hle t)
theorem BR.mono {P:Program}{ρ ρ':Ren}(hle:ρ.le ρ') {c:Nat}{k:iY}{o:Obj}(h:BR P ρ c k o):BR P ρ' c k o:=by
 cases h with
 | cells cs xs e exact h hs=>exact .cells cs xs e exact (fun i v e=>let ⟨v',e',r⟩:=h i v e;⟨v',e',r.mono hle⟩) hs
 | dead o=>exact .dead o
 | map es es' n h=>exact .map es es' n (h.mono hle)
 | im s n=>exact .im s n
 | Ej a l n=>exact .Ej a l n
 | nU h a l n=>exact .nU (hle _ _ h) a l n
 | loop fr r h=>exact .loop fr r fun t v e=>(h t v e).mono hle
 | ro g o h=>exact .ro g o fun i v e=>let ⟨xs,el,f,v',e1,e2,r⟩:=h i v e;⟨xs,el,f,v',e1,e2,r.mono hle⟩
 | smap es es' n h=>exact .smap es es' n (h.mono hle)
def soft (k:Option iY):Prop:=k=some .dead∨(∃ g,k=some (.ro g))
structure HR (P:Program) (ρ:Ren) (h:ak) (w:World):Prop where
 gG:∀ i b c,ρ i=some (b,c)→i<h.n∧b<w.heap.size
 rj:∀ i b c,ρ i=some (b,c)→∃ k o,h.b.get i=some k∧w.heap[b]?=some o∧BR P ρ c k o
 inj:∀ i j b c d,ρ i=some (b,c)→ρ j=some (b,d)→i≠j→h.b.get i=some .dead∨h.b.get j=some .dead
structure dG (P:Program) (ρ:Ren) (h:ak) (w:World) (ρ':Ren) (h':ak) (w':World):Prop where
 le:ρ.le ρ'
 hr:HR P ρ' h' w'
 n:h.n≤h'.n
 new:∀ i x,ρ' i=some x→ρ i=none→h.n≤i
 bM:∀ i,i<h.n→ρ i=none→h'.b.get i=h.b.get i
 os:w'.os=w.os
 tape:w'.tape=w.tape
 output:w'.output=w.output
 size:w.heap.size≤w'.heap.size
 frame:∀ b,b<w.heap.size→(∀ i c,ρ i=some (b,c)→soft (h.b.get i))→w'.heap[b]?=w.heap[b]?
 Fe:∀ i b c,ρ' i=some (b,c)→b<w.heap.size→∃ j d,ρ j=some (b,d)∧(j=i∨¬soft (h.b.get j))
 stays:∀ i x,ρ i=some x→soft (h.b.get i)→h'.b.get i=h.b.get i
section
variable {P:Program}{ρ:Ren}{h:ak}{w:World}
theorem dG.refl (hr:HR P ρ h w):dG P ρ h w ρ h w :=
 ⟨Ren.le_refl ρ,hr,aQ _,fun i x e e'=>by simp[e]at e',fun _ _ _=>rfl,rfl,rfl,rfl,aQ _,fun _ _ _=>rfl,fun i _ c e _=>⟨i,c,e,.inl rfl⟩,fun _ _ _ _=>rfl⟩
theorem dG.soft {ρ':Ren}{h':ak}{w':World}(a:dG P ρ h w ρ' h' w') {i:Nat}{x:Nat×Nat}(e:ρ i=some x) (hs:Ev.soft (h.b.get i)):Ev.soft (h'.b.get i):=by rw[a.stays i x e hs];exact hs
theorem dG.trans {ρ₁ ρ₂:Ren}{h₁ h₂:ak}{w₁ w₂:World}(a:dG P ρ h w ρ₁ h₁ w₁) (b:dG P ρ₁ h₁ w₁ ρ₂ h₂ w₂):dG P ρ h w ρ₂ h₂ w₂ where
 le:=Ren.le_trans a.le b.le
 hr:=b.hr
 n:=bO a.n b.n
 new i x e e0:=by
  cases e1:ρ₁ i with
  | none=>exact bO a.n (b.new i x e e1)
  | some y=>exact a.new i y e1 e0
 bM i hi e0:=by
  have e1:ρ₁ i=none:=by
   cases e1:ρ₁ i with
   | none=>rfl
   | some y=>have:=a.new i y e1 e0;omega
  rw[b.bM i (bX hi a.n) e1,a.bM i hi e0]
 os:=b.os.trans a.os
 tape:=b.tape.trans a.tape
 output:=b.output.trans a.output
 size:=bO a.size b.size
 frame k hk hn:=by rw[b.frame k (bX hk a.size) (fun i c e=>by
   obtain⟨j,d,e',hj⟩:=a.Fe i k c e hk;have hsj:=hn j d e';rcases hj with rfl|hj;·exact a.soft e' hsj
   ·exact absurd hsj hj),a.frame k hk hn]
 Fe i k c e hk:=by
  obtain⟨j,d,e',hj⟩:=b.Fe i k c e (bX hk a.size);obtain⟨l,d',e'',hl⟩:=a.Fe j k d e' hk;refine⟨l,d',e'',?_⟩;rcases hl with rfl|hl
  ·rcases hj with rfl|hj;·exact .inl rfl
   ·exact .inr fun hs=>hj (a.soft e'' hs)
  ·exact .inr hl
 stays i x e hs:=by have h1:=a.stays i x e hs;rw[b.stays i x (a.le _ _ e) (by rw[h1];exact hs),h1]
theorem HR.of_heap {w':World}(hr:HR P ρ h w) (he:w'.heap=w.heap):HR P ρ h w' :=
 ⟨fun i b c e=>by rw[he];exact hr.gG i b c e,fun i b c e=>by rw[he];exact hr.rj i b c e,hr.inj⟩
theorem dG.draw (hr:HR P ρ h w) (n:Nat):dG P ρ h w ρ h { w with drawn:=n } :=
 { dG.refl hr with hr:=hr.of_heap rfl }
def Ren.Er (ρ:Ren) (i:Nat) (x:Nat×Nat):Ren:=fun j=>if j=i then some x else ρ j
theorem Ren.dD (ρ:Ren) (i:Nat) (x:Nat×Nat):ρ.Er i x i=some x:=by simp[Ren.Er]
theorem Ren.iG (ρ:Ren) {i j:Nat}(x:Nat×Nat) (h:j≠i):ρ.Er i x j=ρ j:=by simp[Ren.Er,h]
theorem Ren.se {ρ:Ren}{i:Nat}(x:Nat×Nat) (h:ρ i=none):ρ.le (ρ.Er i x):=by
 intro j y e;by_cases hj:j=i;·subst hj;rw[h]at e;cases e
 ·rw[Ren.iG ρ x hj];exact e
theorem HR.fresh (hr:HR P ρ h w):ρ h.n=none:=by
 cases e:ρ h.n with
 | none=>rfl
 | some x=>obtain⟨b,c⟩:=x;have:=(hr.gG _ _ _ e).1;omega
theorem HR.grow (hr:HR P ρ h w) (k:iY):HR P ρ (ai h k) w where
 gG i b c e:=⟨vl (hr.gG i b c e).1,(hr.gG i b c e).2⟩
 rj i b c e:=by obtain⟨k',o,e1,e2,e3⟩:=hr.rj i b c e;refine⟨k',o,?_,e2,e3⟩;rw[ai,T.aR _ _ (by have:=(hr.gG i b c e).1;omega)];exact e1
 inj i j b c d e e' hn:=by have h1:=(hr.gG i b c e).1;have h2:=(hr.gG j b d e').1;rw[ai,T.aR _ _ ah,T.aR _ _ ah];exact hr.inj i j b c d e e' hn
theorem HR.bind (hr:HR P ρ h w) {i c:Nat}{k:iY}{o:Obj}(hi:i<h.n) (h0:ρ i=none) (hk:h.b.get i=some k) (hb:BR P ρ c k o) {w':World}
  (he:w'.heap=w.heap.push o):HR P (ρ.Er i (w.heap.size,c)) h w' where
 gG j b d e:=by
  by_cases hj:j=i;·subst hj;rw[Ren.dD]at e;cases e;exact⟨hi,by simp[he]⟩
  ·rw[Ren.iG ρ _ hj]at e;have:=hr.gG j b d e;exact⟨this.1,by rw[he];simp;omega⟩
 rj j b d e:=by
  by_cases hj:j=i;·subst hj;rw[Ren.dD]at e;cases e;exact⟨k,o,hk,by simp[he],hb.mono (Ren.se _ h0)⟩
  ·rw[Ren.iG ρ _ hj]at e;obtain⟨k',o',e1,e2,e3⟩:=hr.rj j b d e;have aT:=(hr.gG j b d e).2;refine⟨k',o',e1,?_,e3.mono (Ren.se _ h0)⟩;rw[he,mV,if_neg ah];exact e2
 inj j l b d d' e e' hn:=by
  by_cases hj:j=i;·subst hj;rw[Ren.dD]at e;cases e;rw[Ren.iG ρ _ (fun x=>hn x.symm)]at e';have:=(hr.gG _ _ _ e').2;omega
  ·rw[Ren.iG ρ _ hj]at e;by_cases hl:l=i;·subst hl;rw[Ren.dD]at e';cases e';have:=(hr.gG _ _ _ e).2;omega
   ·rw[Ren.iG ρ _ hl]at e';exact hr.inj j l b d d' e e' hn
theorem dG.alloc (hr:HR P ρ h w) {c:Nat}{k:iY}{o:Obj}(hb:BR P ρ c k o) {w':World}(he:w'.heap=w.heap.push o)
  (h1:w'.os=w.os) (h2:w'.tape=w.tape) (h3:w'.output=w.output) :
  dG P ρ h w (ρ.Er h.n (w.heap.size,c)) (ai h k) w' where
 le:=Ren.se _ hr.fresh
 hr:=(hr.grow k).bind (i:=h.n) (by simp[ai]) hr.fresh (by simp[ai,T.aj]) hb he
 n:=by simp[ai]
 new i x e e0:=by
  by_cases hi:i=h.n;·omega
  ·rw[Ren.iG ρ _ hi,e0]at e;cases e
 bM i hi _:=by rw[ai,T.aR _ _ ah]
 os:=h1
 tape:=h2
 output:=h3
 size:=by rw[he];simp
 frame b hb _:=by rw[he,mV,if_neg ah]
 Fe i b d e aT:=by
  by_cases hi:i=h.n;·subst hi;rw[Ren.dD]at e;cases e;omega
  ·rw[Ren.iG ρ _ hi]at e;exact⟨i,d,e,.inl rfl⟩
 stays i x e _:=by have:i<h.n:=(hr.gG i x.1 x.2 e).1;rw[ai,T.aR _ _ ah]
theorem dG.write (hr:HR P ρ h w) {i b c:Nat}{k k':iY}{o':Obj}(hi:ρ i=some (b,c)) (hk:h.b.get i=some k) (hso:¬Ev.soft (some k))
   (hb:BR P ρ c k' o') {w':World}(hsz:w'.heap.size=w.heap.size) (hw:w'.heap[b]?=some o') (ho:∀ j,j≠b→w'.heap[j]?=w.heap[j]?)
   (h1:w'.os=w.os) (h2:w'.tape=w.tape) (h3:w'.output=w.output) :
   dG P ρ h w ρ { h with b:=h.b.set i k' } w' :=
 have hd:k≠.dead:=fun e=>hso (.inl (by rw[e]))
 { le:=Ren.le_refl _,hr:={
   gG:=fun j b d e=>by rw[hsz];exact hr.gG j b d e
   rj:=fun j b' d e=>by
     obtain⟨k2,o,e1,e2,e3⟩:=hr.rj j b' d e;by_cases hj:j=i;· subst hj;rw[hi]at e;cases e;exact⟨k',o',aA,hw,hb⟩
     · by_cases hbb:b'=b
       · subst hbb;have hdd:k2=.dead:=by
           rcases hr.inj j i b' d c e hi hj with h|h;· rw[e1]at h;exact gY h
           · rw[hk]at h;exact absurd (gY h) hd
         subst hdd;exact⟨.dead,o',by rw[T.aR _ _ (bV hj)];exact e1,hw,.dead _⟩
       · exact⟨k2,o,by rw[T.aR _ _ (bV hj)];exact e1,by rw[ho _ hbb];exact e2,e3⟩
   inj:=fun j l b' d d' e e' hn=>by
     rcases hr.inj j l b' d d' e e' hn with h|h
     · by_cases hj:i=j;· subst hj;rw[hk]at h;exact absurd (gY h) hd
       · left;rw[T.aR _ _ hj];exact h
     · by_cases hl:i=l;· subst hl;rw[hk]at h;exact absurd (gY h) hd
       · right;rw[T.aR _ _ hl];exact h }
   n:=aQ _,
   new:=fun j x e e0=>by rw[e]at e0;cases e0
   bM:=fun j _ e0=>by
     have:i≠j:=by intro e;subst e;rw[hi]at e0;cases e0
     exact T.aR _ _ this
   os:=h1,tape:=h2,output:=h3,
   size:=by rw[hsz];exact aQ _
   frame:=fun j _ hn=>ho j (fun e=>hso (by have:=hn i c (by rw[e];exact hi);rw[hk]at this;exact this))
   Fe:=fun j b d e _=>⟨j,d,e,.inl rfl⟩
   stays:=fun j x e hs=>by
     by_cases hj:i=j;· subst hj;rw[hk]at hs;exact absurd hs hso
     · exact T.aR _ _ hj }
theorem dG.grown (hr:HR P ρ h w) {i b c:Nat}{k k':iY}{o':Obj}(hi:ρ i=some (b,c)) (hk:h.b.get i=some k) (hso:¬Ev.soft (some k))
   (hb:BR P ρ c k' o') {w':World}(hsz:w'.heap.size=w.heap.size) (hw:w'.heap[b]?=some o') (ho:∀ j,j≠b→w'.heap[j]?=w.heap[j]?)
   (h1:w'.os=w.os) (h2:w'.tape=w.tape) (h3:w'.output=w.output) :
   dG P ρ h w (ρ.Er h.n (b,c)) (ai { h with b:=h.b.set i .dead } k') w' :=
 have hd:k≠.dead:=fun e=>hso (.inl (by rw[e]))
 { le:=Ren.se _ hr.fresh,hr:={
   gG:=fun j b' d e=>by
     rw[hsz];by_cases hj:j=h.n;· subst hj;rw[Ren.dD]at e;cases e;exact⟨by simp[ai],(hr.gG _ _ _ hi).2⟩
     · rw[Ren.iG ρ _ hj]at e;have:=hr.gG j b' d e;exact⟨by simp[ai];omega,this.2⟩
   rj:=fun j b' d e=>by
     by_cases hj:j=h.n;· subst hj;rw[Ren.dD]at e;cases e;exact⟨k',o',by simp[ai,T.aj],hw,hb.mono (Ren.se _ hr.fresh)⟩
     · rw[Ren.iG ρ _ hj]at e;obtain⟨k2,o,e1,e2,e3⟩:=hr.rj j b' d e;by_cases hji:j=i;· subst hji;rw[hi]at e;cases e;exact⟨.dead,o',by simp[ai,T.aj,bV hj],hw,.dead _⟩
       · by_cases hbb:b'=b
         · subst hbb;have hdd:k2=.dead:=by
             rcases hr.inj j i b' d c e hi hji with h|h;· rw[e1]at h;exact gY h
             · rw[hk]at h;exact absurd (gY h) hd
           subst hdd;exact⟨.dead,o',by simp[ai,T.aj,bV hj,bV hji,e1],hw,.dead _⟩
         · exact⟨k2,o,by simp[ai,T.aj,bV hj,bV hji,e1],by rw[ho _ hbb];exact e2,e3.mono (Ren.se _ hr.fresh)⟩
   inj:=fun j l b' d d' e e' hn=>by
     have key:∀ j,j≠h.n→∀ d,ρ j=some (b',d)→b'=b→(ai { h with b:=h.b.set i .dead } k').b.get j=some .dead:=by
       intro j hj d ej hbb;subst hbb;by_cases hji:j=i;· subst hji;simp[ai,T.aj,bV hj]
       · simp only[ai,T.aj,bV hj,bV hji,if_false];rcases hr.inj j i b' d c ej hi hji with h|h;· exact h
         · rw[hk]at h;exact absurd (gY h) hd
     by_cases hj:j=h.n;· subst hj;rw[Ren.dD]at e;cases e;have hl:l≠h.n:=fun x=>hn x.symm;rw[Ren.iG ρ _ hl]at e';exact .inr (key l hl _ e' rfl)
     · rw[Ren.iG ρ _ hj]at e;by_cases hl:l=h.n;· subst hl;rw[Ren.dD]at e';cases e';exact .inl (key j hj _ e rfl)
       · rw[Ren.iG ρ _ hl]at e';have hh:=hr.inj j l b' d d' e e' hn;have bM:∀ j,j≠h.n→h.b.get j=some .dead→(ai { h with b:=h.b.set i .dead } k').b.get j=some .dead:=by
           intro j hj e;by_cases hji:j=i;· subst hji;simp[ai,T.aj,bV hj]
           · simp[ai,T.aj,bV hj,bV hji,e]
         exact hh.imp (bM j hj) (bM l hl) }
   n:=by simp[ai]
   new:=fun j x e e0=>by
     by_cases hj:j=h.n;· omega
     · rw[Ren.iG ρ _ hj,e0]at e;cases e
   bM:=fun j hj e0=>by
     have:i≠j:=by intro e;subst e;rw[hi]at e0;cases e0
     simp only[ai];rw[T.aR _ _ ah,T.aR _ _ this]
   os:=h1,tape:=h2,output:=h3,
   size:=by rw[hsz];exact aQ _
   frame:=fun j _ hn=>ho j (fun e=>hso (by have:=hn i c (by rw[e];exact hi);rw[hk]at this;exact this))
   Fe:=fun j b' d e _=>by
     by_cases hj:j=h.n;· subst hj;rw[Ren.dD]at e;cases e;exact⟨i,c,hi,.inr (by rw[hk];exact hso)⟩
     · rw[Ren.iG ρ _ hj]at e;exact⟨j,d,e,.inl rfl⟩
   stays:=fun j x e hs=>by
     have aT:j<h.n:=(hr.gG j x.1 x.2 e).1;simp only[ai];rw[T.aR _ _ (show h.n≠j by omega)];by_cases hj:i=j;· subst hj;rw[hk]at hs;exact absurd hs hso
     · rw[T.aR _ _ hj] }
theorem dG.kill (hr:HR P ρ h w) {i:Nat}{x:Nat×Nat}(hi:ρ i=some x) (hso:¬Ev.soft (h.b.get i)):dG P ρ h w ρ { h with b:=h.b.set i .dead } w where
 le:=Ren.le_refl _
 hr:={
  gG:=hr.gG
  rj:=fun j b d e=>by
   obtain⟨k,o,e1,e2,e3⟩:=hr.rj j b d e;by_cases hj:i=j;·subst hj;exact⟨.dead,o,aA,e2,.dead _⟩
   ·exact⟨k,o,by rw[T.aR _ _ hj];exact e1,e2,e3⟩
  inj:=fun j l b d d' e e' hn=>by
   have bM:∀ j,h.b.get j=some .dead→(h.b.set i .dead).get j=some .dead:=by
    intro j e;by_cases hji:i=j;·subst hji;simp[T.aj]
    ·rw[T.aR _ _ hji];exact e
   exact(hr.inj j l b d d' e e' hn).imp (bM j) (bM l) }
 n:=aQ _
 new j x e e0:=by rw[e]at e0;cases e0
 bM j _ e0:=by
  have:i≠j:=by intro e;subst e;rw[hi]at e0;cases e0
  exact T.aR _ _ this
 os:=rfl
 tape:=rfl
 output:=rfl
 size:=aQ _
 frame _ _ _:=rfl
 Fe j _ d e _:=⟨j,d,e,.inl rfl⟩
 stays j x e hs:=by
  by_cases hj:i=j;·subst hj;exact absurd hs hso
  ·exact T.aR _ _ hj
end
open Go.RowKit
def Qg (P:Program) (f:FuncId):Prop :=
 (∃ fn c,P.funcs[f]?=some fn∧fn.body=some c) ∧
 ∀ (args:Array Value) (w:World),CallsDIn Fence.wide 0 P f args .returning w fun e u w'=>(∃ v,e=.returned v)∧u=.returning∧w'=w
structure bJ (P:Program) (E:Env):Prop where
 qh:∀ t i,E.qh.get t=some i→∃ info,P.info? t=some info∧(i.desc≠.invalid→P.underlying t=some i.desc)∧info.size=i.size∧info.bytes=i.bytes ∧
  info.comparable=i.comparable∧(∀ z,i.zero=some z→info.zero=some z∧fW z=true)∧(i.zd=false→P.stoodInHeld t=false)
 vQ:∀ f fn,E.vQ.get f=some fn→P.funcs[f]?=some fn
 mixed:P.follows .mixedOrders=true
 XG:∀ f,E.XG f=true→Qg P f
 qc:∀ f l v,E.qf f=true→E.qc f l=some v→∀ (ρ:Ren) (w:World) (args':Array Value),eW ρ l args'.toList →
  (callFunc f args').run P w=.ok (.enter f args') w∧Calls P f args' w fun e w'=>∃ v',e=.returned v'∧VR ρ v v'∧Below w.heap.size w w'
section
variable {P:Program}{E:Env}{ρ:Ren}
theorem bJ.b_ (hE:bJ P E) {t:TypeId}{d:TypeDesc}(h:b_ E t=some d) (hd:d≠.invalid):P.underlying t=some d:=by simp only[Ev.b_,aY]at h;obtain⟨i,hi,rfl⟩:=h;obtain⟨info,_,hu,_⟩:=hE.qh t i hi;exact hu hd
theorem bJ.size (hE:bJ P E) {t:TypeId}{n:Nat}(h:Ev.size E t=some n):∃ info,P.info? t=some info∧info.size=n:=by simp only[Ev.size,aY]at h;obtain⟨i,hi,rfl⟩:=h;obtain⟨info,e,_,hs,_⟩:=hE.qh t i hi;exact⟨info,e,hs⟩
theorem bJ.gW (hE:bJ P E) {t:TypeId}{n:Nat}(h:Ev.size E t=some n) (w:World):(sizeOf t).run P w=.ok n w:=by obtain⟨info,e,hs⟩:=hE.size h;simp[sizeOf,Go.run_typeInfo w e,hs]
theorem bJ.cellsOf (hE:bJ P E) {t:TypeId}{n:Nat}(h:Ev.size E t=some n):P.cellsOf t=n:=by obtain⟨info,e,hs⟩:=hE.size h;simp[Program.cellsOf,e,hs]
theorem bJ.zero (hE:bJ P E) {t:TypeId}{z:Value}(h:Ev.zero E t=some z):(∃ info,P.info? t=some info∧info.zero=some z)∧fW z=true:=by simp only[Ev.zero,qD]at h;obtain⟨i,hi,hz⟩:=h;obtain⟨info,e,_,_,_,_,hzz,_⟩:=hE.qh t i hi;exact⟨⟨info,e,(hzz z hz).1⟩,(hzz z hz).2⟩
theorem bJ.kL (hE:bJ P E) {t:TypeId}{z:Value}(h:Ev.zero E t=some z) (w:World):(zeroValue t).run P w=.ok z w:=by obtain⟨⟨info,e,hz⟩,_⟩:=hE.zero h;simp[zeroValue,Go.run_typeInfo w e,hz]
theorem lC (hE:bJ P E) {t:TypeId}{xs xs':Array Value}{off:Nat}{v:Value}(h:partOf E t xs.toList off=some v) (hx:eW ρ xs.toList xs'.toList) :
   ∃ v',(∀ w:World,(part t xs' off).run P w=.ok v' w)∧VR ρ v v':=by
 unfold partOf at h
 cases hi:E.qh.get t with
 | none=>simp[hi]at h
 | some i =>
   simp only[hi]at h
   obtain⟨info,e1,e2,e3,_⟩:=hE.qh t i hi
   have agg:∀ d:TypeDesc,i.desc=d→(match d with|.struct _|.array _ _=>true|_=>false)=true→((takeN i.size (uX xs.toList off)).map fun l=>Value.agg l.toArray)=some v →
       ∃ v',(∀ w:World,(part t xs' off).run P w=.ok v' w)∧VR ρ v v':=by
     intro d hd ha hv
     simp only[aY]at hv
     obtain⟨l,hl,rfl⟩:=hv
     rw[jJ]at hl
     obtain⟨h1,rfl⟩:=pI _ _ _ hl
     have hu:=e2 (by intro e;rw[hd]at e;subst e;simp at ha)
     refine⟨.agg (xs'.extract off (off+i.size)),fun w=>?_,?_⟩
     · have hia:(Go.isAgg t).run P w=.ok true w:=by simp only[Go.isAgg,Sem.run_bind,run_underlying hu,Result.andThen_ok];rw[hd];cases d<;>simp at ha<;>rfl
       simp[part,hia,sizeOf,Go.run_typeInfo w e1,e3]
     · refine .agg _ _ ?_;have:(xs'.extract off (off+i.size)).toList=(xs'.toList.drop off).take i.size:=by simp[Array.toList_extract,List.extract_eq_take_drop]
       rw[this];simpa using (hx.drop off).take i.size
   cases hd:i.desc with
   | struct fs=>simp only[hd]at h;exact agg _ hd rfl h
   | array n e=>simp only[hd]at h;exact agg _ hd rfl h
   | invalid=>simp[hd]at h
   | _ =>
     simp only[hd,dL]at h
     obtain⟨v',e',r⟩:=hx.get _ _ h
     have hu:=e2 (by rw[hd];simp)
     refine⟨v',fun w=>?_,r⟩
     have hia:(Go.isAgg t).run P w=.ok false w:=by simp[Go.isAgg,run_underlying hu,hd]
     have:xs'[off]?=some v':=by simpa using e'
     simp[part,hia,this]
theorem vh (a b:ByteArray):eqStr a b=(a.toList==b.toList):=by
 rw[ByteArray.toList_eq,ByteArray.toList_eq];unfold eqStr;generalize a.data.toList=x;generalize b.data.toList=y;clear a b;induction x generalizing y with
 | nil=>cases y<;>rfl
 | cons c x ih =>
   cases y with
   | nil=>rfl
   | cons d y =>
     simp only[dT,List.cons_beq_cons,ih y]
     congr 1
     rw[sK]
     simp[UInt8.toNat_inj]
theorem AD {a b:ByteArray}(h:eqStr a b=true):a=b:=by
 rw[vh]at h;have h:a.toList=b.toList:=by simpa using h
 rw[ByteArray.toList_eq,ByteArray.toList_eq]at h;cases a;cases b;simp only[ByteArray.mk.injEq];exact pw.1 h
theorem zG (hE:bJ P E) {d D:Nat}{xs ys xs' ys':Array Value}(hx:eW ρ xs.toList xs'.toList) (hy:eW ρ ys.toList ys'.toList)
   (ih:∀ t x y b x' y',nP E d t x y=some b→VR ρ x x'→VR ρ y y'→∀ w,(Op.equalIn D t x' y').run P w=.ok b w) :
   ∀ (fs:List Field) (b:Bool),(fs.foldr (fun f k=>cond (f.name== "_") k (match partOf E f.type xs.toList f.offset,partOf E f.type ys.toList f.offset with
       | some p,some q=>match nP E d f.type p q with
         | some true=>k
         | r=>r
       | _,_=>none)) (some true))=some b→∀ w,(Op.eqFields D xs' ys' fs).run P w=.ok b w
 | [],b,h,w=>by simp at h;subst h;simp[Op.eqFields]
 | f::fs,b,h,w=>by
   simp only[List.foldr_cons]at h;have rest:=zG hE hx hy ih fs;simp only[Op.eqFields];by_cases hn:f.name= "_";· simp only[hn,beq_self_eq_true,cond_true]at h;simp only[hn,ne_eq,not_true_eq_false,if_false];exact rest b h w
   · rw[show (f.name== "_")=false by simpa using hn]at h;simp only[cond_false]at h;simp only[ne_eq,hn,not_false_eq_true,if_true];cases hp:partOf E f.type xs.toList f.offset with
     | none=>simp[hp]at h
     | some p =>
       cases hq:partOf E f.type ys.toList f.offset with
       | none=>simp[hp,hq]at h
       | some q =>
         simp only[hp,hq]at h
         obtain⟨p',ep,rp⟩:=lC hE hp hx
         obtain⟨q',eq,rq⟩:=lC hE hq hy
         cases he:nP E d f.type p q with
         | none=>simp[he]at h
         | some r =>
           have h1:=ih _ _ _ _ _ _ he rp rq w
           simp only[Sem.run_bind,ep,eq,Result.andThen_ok,h1]
           cases r with
           | true=>simp only[he]at h;simpa using rest b h w
           | false=>simp only[he]at h;cases h;simp
theorem BM (hE:bJ P E) {d D n:Nat}{elem:TypeId}{xs ys xs' ys':Array Value}(hx:eW ρ xs.toList xs'.toList) (hy:eW ρ ys.toList ys'.toList)
   (ih:∀ t x y b x' y',nP E d t x y=some b→VR ρ x x'→VR ρ y y'→∀ w,(Op.equalIn D t x' y').run P w=.ok b w) :
   ∀ (is:List Nat) (b:Bool),(is.foldr (fun i k=>match partOf E elem xs.toList (i*n),partOf E elem ys.toList (i*n) with
       | some p,some q=>match nP E d elem p q with
         | some true=>k
         | r=>r
       | _,_=>none) (some true))=some b→∀ w,(Op.eqItems D elem n xs' ys' is).run P w=.ok b w
 | [],b,h,w=>by simp at h;subst h;simp[Op.eqItems]
 | i::is,b,h,w=>by
   simp only[List.foldr_cons]at h;have rest:=BM hE (n:=n) (elem:=elem) hx hy ih is;simp only[Op.eqItems];cases hp:partOf E elem xs.toList (i*n) with
   | none=>simp[hp]at h
   | some p =>
     cases hq:partOf E elem ys.toList (i*n) with
     | none=>simp[hp,hq]at h
     | some q =>
       simp only[hp,hq]at h
       obtain⟨p',ep,rp⟩:=lC hE hp hx
       obtain⟨q',eq,rq⟩:=lC hE hq hy
       cases he:nP E d elem p q with
       | none=>simp[he]at h
       | some r =>
         have h1:=ih _ _ _ _ _ _ he rp rq w
         simp only[Sem.run_bind,ep,eq,Result.andThen_ok,h1]
         cases r with
         | true=>simp only[he]at h;simpa using rest b h w
         | false=>simp only[he]at h;cases h;simp
set_option maxHeartbeats 1000000 in
theorem yR (hE:bJ P E):∀ (d D:Nat),d≤D→∀ (t:TypeId) (x y:Value) (b:Bool) (x' y':Value),nP E d t x y=some b→VR ρ x x'→VR ρ y y' →
   ∀ w:World,(Op.equalIn D t x' y').run P w=.ok b w
 | 0,_,_,_,_,_,_,_,_,h,_,_,_=>by simp[nP]at h
 | d+1,D,hD,t,x,y,b,x',y',h,hx,hy,w=>by
   obtain⟨D,rfl⟩:∃ D',D=D'+1:=⟨D-1,ah⟩;have ih:=yR hE d D ah;unfold nP at h;split at h;· rename_i hu;have hu:=hE.b_ hu an;cases hx;cases hy;cases h;simp[Op.equalIn,run_underlying hu]
   · rename_i k a k' b' hu;have hu:=hE.b_ hu an;cases hx;cases hy;by_cases hk:k=k';· subst hk;simp at h;subst h;simp[Op.equalIn,run_underlying hu]
     · simp[hk]at h
   · rename_i hu;have hu:=hE.b_ hu an;cases hx;cases hy;cases h;simp[Op.equalIn,run_underlying hu,vh,beq_toListBytes]
   · rename_i hu;have hu:=hE.b_ hu an;cases hx;cases h;cases hy<;>simp[Op.equalIn,run_underlying hu]
   · rename_i hn hu;have hu:=hE.b_ hu an;cases hy;cases h;cases hx;· simp_all
     · simp[Op.equalIn,run_underlying hu]
   · rename_i e a b' hu;have hu:=hE.b_ hu an;split at h
     · rename_i n hs;rw[bF]at h;by_cases hb:a.block=b'.block
       · rw[if_pos hb]at h;cases hx with
         | ptr off h1 =>
           cases hy with
           | ptr off' h2 =>
             simp only at hb;subst hb
             rw[h1]at h2;cases h2
             cases h
             have:∀ m k:Nat,Nat.beq m k=decide (m=k):=fun m k=>by
               cases hh:Nat.beq m k with
               | true=>simp[eY hh]
               | false=>simp[mj hh]
             simp[Op.equalIn,run_underlying hu,hE.gW hs,sameAddr,this]
             rw[sK]
             simp
       · rw[if_neg hb]at h;cases h
     · cases h
   · rename_i hu;have hu:=hE.b_ hu an;cases hx;cases hy;cases h;simp[Op.equalIn,run_underlying hu]
   · rename_i hu;have hu:=hE.b_ hu an;cases hx;cases hy;cases h;simp[Op.equalIn,run_underlying hu]
   · rename_i hu;have hu:=hE.b_ hu an;cases hx;cases hy;cases h;simp[Op.equalIn,run_underlying hu]
   · rename_i tx vx ty vy hu;have hu:=hE.b_ hu an;cases hx with
     | iface _ _ vx' hvx =>
       cases hy with
       | iface _ _ vy' hvy =>
         rw[bF]at h
         by_cases ht:tx=ty
         · subst ht;simp only[if_true]at h;cases hi:E.qh.get tx with
           | none=>simp[hi]at h
           | some i =>
             simp only[hi]at h;obtain⟨info,e1,_,_,_,ec,_⟩:=hE.qh tx i hi;cases hc:i.comparable with
             | false=>simp[hc]at h
             | true =>
               simp only[hc,cond_true]at h
               simp[Op.equalIn,run_underlying hu,Go.run_typeInfo w e1,ec,hc,ih _ _ _ _ _ _ h hvx hvy w]
         · rw[if_neg ht]at h;cases h;simp[Op.equalIn,run_underlying hu,ht]
   · rename_i fields xs ys hu;have hu:=hE.b_ hu an;cases hx with
     | agg _ xs' hx =>
       cases hy with
       | agg _ ys' hy =>
         cases hst:zd E t with
         | true=>simp[hst]at h
         | false =>
           simp only[hst,cond_false]at h
           have hst':P.stoodInHeld t=false:=by
             unfold zd at hst;cases hi:E.qh.get t with
             | none=>simp[hi]at hst
             | some i =>
               simp only[hi]at hst
               obtain⟨info,_,_,_,_,_,_,hs⟩:=hE.qh t i hi
               exact hs hst
           have hf:P.fieldsOf t=fields:=by simp[Program.fieldsOf,hu]
           rw[run_equalIn_struct w D t xs' ys' (by rw[hf];exact hu) hst',hf]
           exact zG hE hx hy ih _ b h w
   · rename_i len elem xs ys hu;have hu:=hE.b_ hu an;cases hx with
     | agg _ xs' hx =>
       cases hy with
       | agg _ ys' hy =>
         split at h
         · cases h
         · rename_i n hs;obtain⟨info,e1,e2⟩:=hE.size hs;rw[run_equalIn_array w D xs' ys' hu e1,hE.cellsOf hs];exact BM hE hx hy ih _ b h w
   · rename_i hu;have hu:=hE.b_ hu an;cases hx;cases h;cases hy<;>simp[Op.equalIn,run_underlying hu]
   · rename_i hn hu;have hu:=hE.b_ hu an;cases hy;cases h;cases hx<;>first|exact(hn _ _ rfl).elim|exact(hn rfl).elim|simp[Op.equalIn,run_underlying hu]
   · rename_i hu;have hu:=hE.b_ hu an;cases hx;cases h;cases hy<;>simp[Op.equalIn,run_underlying hu]
   · rename_i hn hu;have hu:=hE.b_ hu an;cases hy;cases h;cases hx<;>first|exact(hn _ _ rfl).elim|exact(hn rfl).elim|simp[Op.equalIn,run_underlying hu]
   · rename_i hu;have hu:=hE.b_ hu an;cases hx<;>cases hy<;>cases h<;>simp[Op.equalIn,run_underlying hu]
   · rename_i hu;have hu:=hE.b_ hu an;cases hx<;>cases hy<;>cases h<;>simp[Op.equalIn,run_underlying hu]
   · rename_i hu;have hu:=hE.b_ hu an;cases hx<;>cases hy<;>cases h<;>simp[Op.equalIn,run_underlying hu]
   · cases h
end
section
variable {P:Program}{E:Env}{ρ:Ren}
structure FR (E:Env) (ρ:Ren) (fr:Fr) (a:Act):Prop where
 Ga:∀ g,g<E.ng→∃ c,ρ g=some (g,c)
 tmp:∀ t v,fr.get t=some v→VR ρ v (a.tmps.getD t undef)
theorem blt_eq (a b:Nat):Nat.blt a b=decide (a<b):=by
 cases h:Nat.blt a b with
 | true=>have:=fX h;simp;omega
 | false => have:¬a+1≤b:=fun e=>by rw[Nat.blt,oH e]at h;cases h
            simp;omega
theorem ble_eq (a b:Nat):Nat.ble a b=decide (a≤b):=by
 cases h:Nat.ble a b with
 | true=>have:=fX h;simp[this]
 | false => have:¬a≤b:=fun e=>by rw[oH e]at h;cases h
            simp;omega
theorem e_ (a b:Nat):Nat.beq a b=decide (a=b):=by
 cases h:Nat.beq a b with
 | true=>simp[eY h]
 | false=>simp[mj h]
theorem bH {fr:Fr}{a:Act}(hf:FR E ρ fr a) {x:Operand}{v:Value}(h:ev E fr x=some v):VR ρ v (a.eval x):=by
 cases x with
 | tmp t =>
   simp only[ev]at h
   exact hf.tmp t v h
 | const c =>
   simp only[ev]at h
   cases hc:fW c with
   | false=>simp[hc]at h
   | true=>simp only[hc,cond_true]at h;cases h;exact VR.const ρ hc
 | global g =>
   simp only[ev,blt_eq]at h
   by_cases hg:g<E.ng
   · simp only[hg,decide_true,cond_true]at h;cases h;obtain⟨c,e⟩:=hf.Ga g hg;exact .ptr 0 e
   · simp[hg]at h
 | func f=>simp only[ev]at h;cases h;exact .func _ _ _ _ _ rfl .nil .nil
theorem xQ {α β:Type}{f:α→Option β}:∀ {l:List α}{r:List β},aW f l=some r→r.length=l.length∧∀ (i:Nat) (x:α),l[i]?=some x→∃ y,f x=some y∧r[i]?=some y
 | [],r,h=>by simp[aW]at h;subst h;simp
 | x::l,r,h=>by
   simp only[aW]at h;cases hf:f x with
   | none=>simp[hf]at h
   | some y =>
     cases hm:aW f l with
     | none=>simp[hf,hm]at h
     | some q =>
       simp only[hf,hm]at h;cases h
       obtain⟨h1,h2⟩:=xQ hm
       refine⟨by simp[h1],fun i z hz=>?_⟩
       cases i with
       | zero=>simp at hz;subst hz;exact⟨y,hf,an⟩
       | succ i=>simpa using h2 i z (by simpa using hz)
theorem C7 {fr:Fr}{a:Act}(hf:FR E ρ fr a):∀ {xs:List Operand}{l:List Value},aW (ev E fr) xs=some l→eW ρ l (xs.map a.eval)
 | [],l,h=>by simp[aW]at h;subst h;exact .nil
 | x::xs,l,h=>by
   simp only[aW]at h;cases hx:ev E fr x with
   | none=>simp[hx]at h
   | some y =>
     cases hm:aW (ev E fr) xs with
     | none=>simp[hx,hm]at h
     | some q=>simp only[hx,hm]at h;cases h;exact .cons (bH hf hx) (C7 hf hm)
theorem kr {fr:Fr}{a:Act}(hf:FR E ρ fr a) {xs:Array Operand}{l:List Value}(h:Bx E fr xs=some l):eW ρ l (xs.map a.eval).toList:=by simpa using C7 hf h
theorem nI (hE:bJ P E):∀ (d:Nat) (t:TypeId),plainKey E d t=true→∀ D,d≤D→P.eqGuardType D t=false
 | 0,_,h,_,_=>by simp[plainKey]at h
 | d+1,t,h,D,hD=>by
   obtain⟨D,rfl⟩:∃ D',D=D'+1:=⟨D-1,ah⟩;unfold plainKey at h;cases hu:b_ E t with
   | none=>simp[hu]at h
   | some k =>
     simp only[hu]at h
     cases k with
     | struct fs =>
       have hu:=hE.b_ hu an
       simp only[dX]at h
       simp only[Program.eqGuardType,hu]
       rw[← Array.any_toList]
       simp only[List.any_eq_false]
       intro f hf
       have:=nI hE d f.type (h f hf) D ah
       simp[this]
     | array n e =>
       have hu:=hE.b_ hu an
       simp only[Program.eqGuardType,hu]
       exact nI hE d e h D ah
     | bool=>simp[Program.eqGuardType,hE.b_ hu an]
     | int _=>simp[Program.eqGuardType,hE.b_ hu an]
     | string=>simp[Program.eqGuardType,hE.b_ hu an]
     | pointer _=>simp[Program.eqGuardType,hE.b_ hu an]
     | _=>simp at h
theorem CR {t:TypeId}{x y:Value}(h:gw x=false):binOp .eql t x y=(do pure (.bool (← Op.equal t x y))):=by cases x<;>first|(simp[gw]at h;done)|(cases y<;>rfl)
theorem Ee {t:TypeId}{x y:Value}(h:gw x=false):binOp .neq t x y=(do pure (.bool (!(← Op.equal t x y)))):=by cases x<;>first|(simp[gw]at h;done)|(cases y<;>rfl)
theorem VR.gw {v v':Value}(h:VR ρ v v'):Ev.gw v'=Ev.gw v:=by cases h<;>rfl
theorem Ay:∀ (x y:List UInt8),qi x y=Op.bytesLess x y
 | _,[]=>by cases ‹List UInt8›<;>rfl
 | [],_::_=>rfl
 | a::x,b::y=>by simp only[qi,Op.bytesLess,Ay x y,blt_eq,e_];congr 1;rw[sK];simp[UInt8.toNat_inj]
theorem ph {op:BinOp}{t:TypeId}{X Y:Operand}{x y:Value}(hE:bJ P E)
  (hn:x=.nilIface→y=.nilIface→(isConst X || isConst Y)=true) (ha:(op=.eql∨op=.neq)→∀ xs ys,x=.agg xs→y=.agg ys→plainKey E 20 t=true) (w:World) :
  (eqGuard op t X Y x y).run P w=.ok () w:=by
 by_cases vH:op=.eql∨op=.neq
 ·rcases vH with rfl|rfl;all_goals
   unfold eqGuard
   simp only[sg,dQ,if_false]
   split
   ·have hh:=hn rfl rfl;clear hn ha;cases X<;>cases Y<;>first|(simp[isConst]at hh;done)|rfl
   ·have h1:=ha an _ _ rfl rfl;have h2:=nI hE 20 t h1 P.depth (by unfold Program.depth Made.depth;omega);simp[h2]
   ·rfl
 ·cases op<;>first|(simp at vH;done)|rfl
theorem KS {k k':IntKind}{a b:Int}{op:BinOp}{t:TypeId}{v:Value}(h:eS E op t (.int k a) (.int k' b)=some v) (w:World) :
   (binOp op t (.int k a) (.int k' b)).run P w=.ok v w∧VR ρ v v:=by
 cases op
 case shl =>
   simp only[eS]at h;by_cases hb:b<0;· simp[hb]at h
   · simp only[hb,decide_false,cond_false]at h;cases h;exact⟨by simp[binOp,Op.shift,hb],.int _ _⟩
 case shr =>
   simp only[eS]at h;by_cases hb:b<0;· simp[hb]at h
   · simp only[hb,decide_false,cond_false]at h;cases h;exact⟨by simp[binOp,Op.shift,hb],.int _ _⟩
 all_goals
   simp only[eS]at h
   by_cases hk:k=k'
   · subst hk;simp only[decide_true,cond_true]at h;first
       | (cases h;exact⟨by simp[binOp,Op.intArith,Op.intBits,Op.intCmp],by constructor⟩)
       | (by_cases hb:b=0
          · simp[hb]at h
          · simp only[hb,decide_false,cond_false]at h;cases h;exact⟨by simp[binOp,Op.intDiv,hb],by constructor⟩)
   · simp[hk]at h
theorem Rl (hE:bJ P E) {op:BinOp}{t:TypeId}{x y x' y' v:Value}(h:eS E op t x y=some v) (hx:VR ρ x x') (hy:VR ρ y y') {X Y:Operand}
   (hn:x=.nilIface→y=.nilIface→(isConst X || isConst Y)=true) (w:World) :
   (eqGuard op t X Y x' y').run P w=.ok () w∧(binOp op t x' y').run P w=.ok v w∧VR ρ v v:=by
 have hn':x'=.nilIface→y'=.nilIface→(isConst X || isConst Y)=true:=by intro e1 e2;subst e1;subst e2;cases hx;cases hy;exact hn rfl rfl
 by_cases hint:∃ k a k' b,x=.int k a∧y=.int k' b
 · obtain⟨k,a,k',b,rfl,rfl⟩:=hint;cases hx;cases hy;exact⟨ph hE (fun e=>by cases e) (fun _ _ _ e=>by cases e) w,KS h w⟩
 by_cases hstr:∃ a b,x=.string a∧y=.string b
 · obtain⟨a,b,rfl,rfl⟩:=hstr;cases hx;cases hy;refine⟨ph hE (fun e=>by cases e) (fun _ _ _ e=>by cases e) w,?_⟩;cases op<;>simp only[eS]at h<;>first
     | (cases h;done)
     | (cases h;exact⟨by simp[binOp,Op.stringOp,vh,Ay,ByteArray.toList_eq],by constructor⟩)
     | skip
   rw[blt_eq]at h;by_cases hl:a.size+b.size<1000000000;· simp only[hl,decide_true,cond_true]at h;cases h;refine⟨?_,by constructor⟩;simp only[binOp,Op.stringOp,IntKind.max_i64];rw[if_neg ah];rfl
   · simp[hl]at h
 have key:∀ (neg:Bool) (r:Option Bool),(r.map fun b=>Value.bool (if neg then !b else b))=some v→op=(if neg then .neq else .eql)→gw x=false→(∀ b,r=some b→nP E 100 t x y=some b) →
     (binOp op t x' y').run P w=.ok v w∧VR ρ v v:=by
   intro neg r hr ho hnum ha
   simp only[aY]at hr
   obtain⟨b,hb,rfl⟩:=hr
   have h1:=yR hE 100 Op.maxDepth ao t x y b x' y' (ha b hb) hx hy w
   have hnum':gw x'=false:=by rw[hx.gw];exact hnum
   cases neg
   · simp only[dQ,if_false]at ho ⊢;subst ho;exact⟨by simp[CR hnum',Op.equal,h1],.bool _⟩
   · simp only[if_true]at ho ⊢;subst ho;exact⟨by simp[Ee hnum',Op.equal,h1],.bool _⟩
 unfold eS at h
 split at h
 · exact(hint ⟨_,_,_,_,rfl,rfl⟩).elim
 · exact(hint ⟨_,_,_,_,rfl,rfl⟩).elim
 · exact(hint ⟨_,_,_,_,rfl,rfl⟩).elim
 · exact(hstr ⟨_,_,rfl,rfl⟩).elim
 · rename_i xs ys;cases hp:plainKey E 20 t with
   | false=>simp[hp]at h
   | true =>simp only[hp,cond_true]at h;exact⟨ph hE hn' (fun _ _ _ _ _=>hp) w,key false _ (by simpa using h) rfl rfl (fun b e=>e)⟩
 · rename_i xs ys;cases hp:plainKey E 20 t with
   | false=>simp[hp]at h
   | true =>simp only[hp,cond_true]at h;exact⟨ph hE hn' (fun _ _ _ _ _=>hp) w,key true _ (by simpa using h) rfl rfl (fun b e=>e)⟩
 · rename_i hna;cases hnum:gw x with
   | true=>simp[hnum]at h
   | false =>simp only[hnum,cond_false]at h;refine⟨ph hE hn' (fun _ xs ys e1 e2=>?_) w,key false _ (by simpa using h) rfl hnum (fun b e=>e)⟩;subst e1;subst e2;cases hx;cases hy;exact(hna _ _ rfl rfl).elim
 · rename_i hna;cases hnum:gw x with
   | true=>simp[hnum]at h
   | false =>simp only[hnum,cond_false]at h;refine⟨ph hE hn' (fun _ xs ys e1 e2=>?_) w,key true _ (by simpa using h) rfl hnum (fun b e=>e)⟩;subst e1;subst e2;cases hx;cases hy;exact(hna _ _ rfl rfl).elim
 · cases h
theorem Im (n:Nat):Ieee.double.read n=.nan (n / 9223372036854775808%2==1) (n%9223372036854775808-9218868437227405312)∨sJ n=false:=by
 have e1:Ieee.double.signWeight=9223372036854775808:=by decide +kernel
 have e2:Ieee.double.binade=4503599627370496:=by decide +kernel
 have e3:Ieee.double.infRung=9218868437227405312:=by decide +kernel
 by_cases h:9218868437227405312<n%9223372036854775808;·left;simp only[Ieee.Format.read,e1,e2,e3];rw[if_neg ah,if_neg ah,if_neg ah]
 ·right;simp[sJ,blt_eq,h]
theorem E8 {n:Nat}(h:sJ n=true):∃ s t,Ieee.double.read n=.nan s t:=by
 rcases Im n with hh|hh;·exact⟨_,_,hh⟩
 ·rw[hh]at h;cases h
theorem N_ (d:Ieee.Datum) (s:Bool) (t:Nat):(Ieee.Datum.nan s t).sum d=none:=by cases d<;>rfl
theorem NN (d:Ieee.Datum) (s:Bool) (t:Nat):d.sum (Ieee.Datum.nan s t)=none:=by cases d<;>rfl
theorem DW (d:Ieee.Datum) (s:Bool) (t:Nat):(Ieee.Datum.nan s t).product d=none:=by cases d<;>rfl
theorem Ec (d:Ieee.Datum) (s:Bool) (t:Nat):d.product (Ieee.Datum.nan s t)=none:=by cases d<;>rfl
theorem Bz (k:Nat) (d:Ieee.Datum) (s:Bool) (t:Nat):(Ieee.Datum.nan s t).quotient k d=none:=by cases d<;>rfl
theorem BC (k:Nat) (d:Ieee.Datum) (s:Bool) (t:Nat):d.quotient k (Ieee.Datum.nan s t)=none:=by cases d<;>rfl
theorem G_ (d:Ieee.Datum) (s:Bool) (t:Nat):(Ieee.Datum.nan s t).order d=none:=by cases d<;>rfl
theorem GK (d:Ieee.Datum) (s:Bool) (t:Nat):d.order (Ieee.Datum.nan s t)=none:=by cases d<;>rfl
theorem F_ (a b:Nat) (w:World):∃ n m,(choose (.nanBits .f64 a b)).run P w=.ok n { w with drawn:=m }∧sJ n=true∧n<18446744073709551616:=by
 have hf:(Question.nanBits .f64 a b).forced=false:=rfl;refine⟨(Question.nanBits FloatKind.f64 a b).cut (w.tape w.drawn (Question.nanBits FloatKind.f64 a b)),w.drawn+1,by simp only[run_choose,hf,dQ,if_false],?_,?_⟩;·simp only[Question.cut,sJ,blt_eq,decide_eq_true_eq];generalize w.tape w.drawn _=t;simp only[Nat.reducePow,Nat.reduceSub];have hr:t / 2%4503599627370495<4503599627370495:=nj _ ao;generalize t / 2%4503599627370495=r at hr ⊢;rcases Nat.mod_two_eq_zero_or_one t with h|h<;>rw[h]<;>omega
 ·simp only[Question.cut];generalize w.tape w.drawn _=t;simp only[Nat.reducePow,Nat.reduceSub];have hr:t / 2%4503599627370495<4503599627370495:=nj _ ao;generalize t / 2%4503599627370495=r at hr ⊢;rcases Nat.mod_two_eq_zero_or_one t with h|h<;>rw[h]<;>omega
theorem Kj {op:BinOp}{t:TypeId}{a b:Nat}{v:Value}(h:Xc op a b=some v) (w:World):∃ v' n,(binOp op t (.float .f64 a) (.float .f64 b)).run P w=.ok v' { w with drawn:=n }∧VR ρ v v':=by
 have arith:∀ (r:Option Nat),v=KW r→(binOp op t (.float .f64 a) (.float .f64 b)).run P w=((match r with
     | some r=>pure (.float .f64 r)
     | none=>do pure (.float .f64 (← choose (.nanBits .f64 a b))):Sem Value)).run P w→∃ v' n,(binOp op t (.float .f64 a) (.float .f64 b)).run P w=.ok v' { w with drawn:=n }∧VR ρ v v':=by
   intro r hv hrun
   rw[hrun]
   cases r with
   | some r=>subst hv;exact⟨_,w.drawn,rfl,.float _ _⟩
   | none =>
     subst hv
     obtain⟨n,m,e,h1,h2⟩:=F_ (P:=P) a b w
     exact⟨.float .f64 n,m,by simp[Sem.run_bind,e],.Bn n h1 h2⟩
 cases op<;>simp only[Xc]at h<;>first
   | (cases h;done)
   | (cases h;exact arith _ rfl (by simp only[binOp,Op.floatArith,FloatKind.format];rfl))
   | (cases h;exact⟨_,w.drawn,rfl,.bool _⟩)
theorem zx {op:BinOp}{t:TypeId}{a b:Nat}{v:Value}(hn:sJ a=true∨sJ b=true) (h:DL op=some v) (w:World):∃ v' n,(binOp op t (.float .f64 a) (.float .f64 b)).run P w=.ok v' { w with drawn:=n }∧VR ρ v v':=by
 have ho:Ieee.double.order a b=none:=by rcases hn with hn|hn<;>obtain⟨s,t,e⟩:=E8 hn<;>simp only[Ieee.Format.order,e,G_,GK]
 have key:Xc op a b=some v:=by cases op<;>simp only[DL]at h<;>first
     | (cases h;done)
     | (cases h;simp only[Xc,ho];rfl)
     | (cases h
        rcases hn with hn|hn<;>obtain⟨s,t,e⟩:=E8 hn <;>
          simp only[Xc,Ieee.Format.add,Ieee.Format.sub,Ieee.Format.mul,Ieee.Format.div,e,Ieee.Datum.opposite,N_,NN,DW,Ec,Bz,BC,Option.map_none,KW])
 exact Kj key w
theorem N9 {op:BinOp}{t:TypeId}{x y x' y' v:Value}(h:H8 op x y=some v) (hx:VR ρ x x') (hy:VR ρ y y') (X Y:Operand) (w:World) :
  (eqGuard op t X Y x' y').run P w=.ok () w∧∃ v' n,(binOp op t x' y').run P w=.ok v' { w with drawn:=n }∧VR ρ v v':=by
 have hg:∀ a b,(eqGuard op t X Y (.float .f64 a) (.float .f64 b)).run P w=.ok () w:=by intro a b;unfold eqGuard;split<;>rfl
 unfold H8 at h
 split at h
 ·cases hx;cases hy;exact⟨hg _ _,Kj h w⟩
 ·cases hx;cases hy with|Bn n h1 h2=>exact⟨hg _ _,zx (.inr h1) h w⟩
 ·cases hy;cases hx with|Bn n h1 h2=>exact⟨hg _ _,zx (.inl h1) h w⟩
 ·cases hy;cases hx with|Bn n h1 h2=>exact⟨hg _ _,zx (.inl h1) h w⟩
 ·cases h
end
section
variable {P:Program}{E:Env}{ρ:Ren}
theorem zX {n:Nat}(h:sJ n=true) (hn:n<18446744073709551616):sJ (n ^^^ 9223372036854775808)=true∧n ^^^ 9223372036854775808<18446744073709551616:=by
 constructor
 ·unfold sJ at h ⊢;have:(n ^^^ 9223372036854775808)%9223372036854775808=n%9223372036854775808:=by have:=Nat.xor_mod_two_pow (a:=n) (b:=2 ^ 63) (n:=63);simpa using this
  rw[this];exact h
 ·exact Nat.xor_lt_two_pow (n:=64) (by simpa using hn) ao
theorem TY {op:UnOp}{x x' v:Value}(h:aun op x=some v) (hx:VR ρ x x'):∃ v',(∀ w:World,(Op.unary op x').run P w=.ok v' w)∧VR ρ v v':=by
 unfold aun at h;split at h;·cases hx;cases h;exact⟨_,fun w=>by simp[Op.unary,Op.intArith],.int _ _⟩
 ·cases hx;cases h;exact⟨_,fun w=>by simp[Op.unary,Op.intBits],.int _ _⟩
 ·cases hx;cases h;exact⟨_,fun w=>by simp[Op.unary],.bool _⟩
 ·cases hx;cases h;exact⟨_,fun w=>rfl,.float _ _⟩
 ·cases h;cases hx with
  | Bn n h1 h2=>exact⟨_,fun w=>rfl,.Bn _ (zX h1 h2).1 (zX h1 h2).2⟩
 ·cases h
theorem CZ (hE:bJ P E) {s d:TypeId}{x x' v:Value}(h:wj E s d x=some v) (hx:VR ρ x x'):∃ v',(∀ w:World,(convert s d x').run P w=.ok v' w)∧VR ρ v v':=by
 unfold wj at h;split at h;·rename_i h1 h2;have h1:=hE.b_ h1 an;have h2:=hE.b_ h2 an;cases hx;cases h;exact⟨_,fun w=>by simp[convert,run_underlying h1,run_underlying h2,Conv.intToInt],.int _ _⟩
 ·rename_i h1 h2;have h1:=hE.b_ h1 an;have h2:=hE.b_ h2 an;cases hx;cases h;exact⟨_,fun w=>by simp[convert,run_underlying h1,run_underlying h2],.string _⟩
 ·rename_i h1 h2;have h1:=hE.b_ h1 an;have h2:=hE.b_ h2 an;cases hx;cases h;exact⟨_,fun w=>by simp[convert,run_underlying h1,run_underlying h2,Conv.intToFloat],.float _ _⟩
 ·rename_i h1 h2;have h1:=hE.b_ h1 an;have h2:=hE.b_ h2 an;cases hx;cases h;exact⟨_,fun w=>by simp[convert,run_underlying h1,run_underlying h2,Conv.floatToFloat],.float _ _⟩
 ·rename_i h1 h2;have h1:=hE.b_ h1 an;have h2:=hE.b_ h2 an;cases h;cases hx with
  | Bn n g1 g2=>exact⟨_,fun w=>by simp[convert,run_underlying h1,run_underlying h2,Conv.floatToFloat],.Bn n g1 g2⟩
 ·cases h
theorem OY (hE:bJ P E) {t ty:TypeId}{ts:Array TypeId}{xs:Array Value}{x x' v:Value}(ht:ts[0]?=some t) (hxs:xs[0]?=some x') (h:Tt E t x=some v) (hx:VR ρ x x') (w:World) :
  (Builtin.len_ ts ty xs).run P w=.ok v w∧VR ρ v v:=by
 unfold Tt at h
 split at h
 ·rename_i h1;have h1:=hE.b_ h1 an;cases hx;cases h;exact⟨by simp[Builtin.len_,ht,hxs,run_underlying h1,goInt],.int _ _⟩
 ·rename_i h1;have h1:=hE.b_ h1 an;cases h;exact⟨by simp[Builtin.len_,ht,hxs,run_underlying h1,goInt],.int _ _⟩
 ·rename_i h1;have h1:=hE.b_ h1 an;cases h;cases hx<;>exact⟨by simp[Builtin.len_,ht,hxs,run_underlying h1,goInt],.int _ _⟩
 ·cases h
theorem Qo (hE:bJ P E) {t ty:TypeId}{ts:Array TypeId}{xs:Array Value}{x x' v:Value}(ht:ts[0]?=some t) (hxs:xs[0]?=some x') (h:aat E t x=some v) (hx:VR ρ x x') (w:World) :
  (Builtin.cap_ ts ty xs).run P w=.ok v w∧VR ρ v v:=by
 unfold aat at h
 split at h
 ·rename_i base n c hu;have hu:=hE.b_ hu an;rw[blt_eq]at h;by_cases aT:c<bh
  ·simp only[aT,decide_true,cond_true,aS]at h;subst h;refine⟨?_,.int _ _⟩;cases hx with
   | jq _ _ _=>simp[Builtin.cap_,ht,hxs,run_underlying hu,goInt]
   | slice _ _ _ _ _=>simp[Builtin.cap_,ht,hxs,run_underlying hu,goInt]
   | g_ _ _ _ _ _ _ _=>exact absurd aT ao
   | iQ _ _ _=>exact absurd aT ao
  ·simp[aT]at h
 ·cases h
theorem mK {x x':Value}{y n:Nat}(h:bound x y=some n) (hx:VR ρ x x') {y':Nat}(hy:y≤y') (c:BoundsCode) (w:World):(Instr.sliceBound x' y' c).run P w=.ok n w∧n≤y:=by
 unfold bound at h;split at h
 ·rename_i k i;cases hx;by_cases hb:0≤i∧i≤(y:Int);·simp only[hb.1,hb.2,decide_true,dP,cond_true]at h;cases h;refine⟨?_,ah⟩;simp only[Instr.sliceBound,asIntOf,Sem.run_bind,Sem.run_pure,Result.andThen_ok,Sem.run_ite];rw[if_pos ⟨hb.1,ah⟩]
  ·have:(decide (0≤i)&&decide (i≤(y:Int)))=false:=by simpa using hb
   simp[this]at h
 ·cases h
theorem zj (hE:bJ P E) {t:TypeId}{x ix x' ix' v:Value}(h:nM E t x ix=some v) (hx:VR ρ x x') (hi:VR ρ ix ix') :
   ∃ v',(∀ w:World,(Instr.indexAt t x' ix').run P w=.ok v' w)∧VR ρ v v':=by
 unfold nM at h
 split at h
 · rename_i len elem a k i hu;have hu:=hE.b_ hu an;cases hi;split at h
   · rename_i sz hs;by_cases hb:0≤i∧i<(len:Int)
     · simp only[hb.1,hb.2,decide_true,dP,cond_true]at h;cases h;cases hx with
       | @ptr i0 b0 c0 off hr =>
         refine⟨.pointer (some ((⟨b0,off,none⟩:Addr).add (i.toNat*sz))),fun w=>?_,?_⟩;· simp only[Instr.indexAt,asIntOf,Sem.run_bind,Sem.run_pure,Result.andThen_ok,run_underlying hu,Instr.sureAddr,Sem.run_ite];rw[if_pos hb];simp[hE.gW hs]
         · rw[Addr.add_lit,Addr.add_lit];exact .ptr _ hr
     · have:(decide (0≤i)&&decide (i<(len:Int)))=false:=by simpa using hb
       simp[this]at h
   · cases h
 · rename_i elem a len cap k i hu;have hu:=hE.b_ hu an;cases hi;split at h
   · rename_i sz hs;by_cases hb:0≤i∧i<(len:Int)
     · simp only[hb.1,hb.2,decide_true,dP,cond_true]at h;cases h;have fin:∀ (b off c cap':Nat) (i':Nat),ρ i'=some (b,c)→∃ v',(∀ w:World,(Instr.indexAt t (.slice (some ⟨b,off,none⟩) len cap') (.int k i)).run P w=.ok v' w) ∧
           VR ρ (.pointer (some ((⟨i',off,none⟩:Addr).add (i.toNat*sz)))) v':=by
         intro b off c cap' i' hr
         refine⟨.pointer (some ((⟨b,off,none⟩:Addr).add (i.toNat*sz))),fun w=>?_,?_⟩
         · simp only[Instr.indexAt,asIntOf,Sem.run_bind,Sem.run_pure,Result.andThen_ok,run_underlying hu,Sem.run_ite];rw[if_pos hb];simp[hE.gW hs]
         · rw[Addr.add_lit,Addr.add_lit];exact .ptr _ hr
       cases hx with
       | slice off _ _ hr _=>exact fin _ off _ _ _ hr
       | g_ off _ _ hr _ _ _=>exact fin _ off _ _ _ hr
       | iQ a a' cap=>simp at hb;omega
     · have:(decide (0≤i)&&decide (i<(len:Int)))=false:=by simpa using hb
       simp[this]at h
   · cases h
 · cases h
theorem IZ (hE:bJ P E) {t:TypeId}{x ix x' ix' v:Value}(h:yX E t x ix=some v) (hx:VR ρ x x') (hi:VR ρ ix ix') :
   ∃ v',(∀ w:World,(Instr.index t x' ix').run P w=.ok v' w)∧VR ρ v v':=by
 unfold yX at h
 split at h
 · rename_i len elem cs k i hu;have hu:=hE.b_ hu an;cases hi;cases hx with
   | agg _ cs' hx =>
     split at h
     · rename_i sz hs;by_cases hb:0≤i∧i<(len:Int);· simp only[hb.1,hb.2,decide_true,dP,cond_true]at h;obtain⟨v',e,r⟩:=lC hE h hx;refine⟨v',fun w=>?_,r⟩;simp only[Instr.index,asIntOf,Sem.run_bind,Sem.run_pure,Result.andThen_ok,run_underlying hu,Sem.run_ite];rw[if_pos hb];simp[hE.gW hs,e]
       · have:(decide (0≤i)&&decide (i<(len:Int)))=false:=by simpa using hb
         simp[this]at h
     · cases h
 · rename_i s k i hu;have hu:=hE.b_ hu an;cases hi;cases hx;by_cases hb:0≤i
   · simp only[hb,decide_true,cond_true,aY,dL]at h;obtain⟨b,hb',rfl⟩:=h;refine⟨_,fun w=>?_,.int _ _⟩;have aT:i.toNat<s.data.toList.length:=(cQ.1 hb').1;have:s[i.toNat]?=some b:=by
       have hh:i.toNat<s.size:=by simpa using aT
       rw[getElem?_pos s i.toNat hh];rw[bw aT]at hb';have hb':=gY hb';rw[← hb'];rfl
     simp only[Instr.index,asIntOf,Sem.run_bind,Sem.run_pure,Result.andThen_ok,run_underlying hu,hb,if_true,this]
   · simp[hb]at h
 · cases h
theorem zr (hE:bJ P E) {s:TypeId}{x x' v:Value}{f:Nat}(h:qy E s x f=some v) (hx:VR ρ x x') :
   ∃ v',(∀ w:World,(Instr.fieldAt s x' f).run P w=.ok v' w)∧VR ρ v v':=by
 unfold qy at h
 split at h
 · rename_i fields a hu;have hu:=hE.b_ hu an;split at h
   · rename_i fd hf;split at h
     · rename_i sz hs;rw[bF]at h;split at h;· cases h
       · rename_i hz;cases h;cases hx with
         | @ptr i0 b0 c0 off hr =>
           refine⟨.pointer (some ((⟨b0,off,none⟩:Addr).add fd.offset)),fun w=>?_,?_⟩
           · have hf:fields[f]?=some fd:=by simpa[dL]using hf
             simp[Instr.fieldAt,run_underlying hu,hf,Instr.sureAddr,fieldPlace,hE.gW hs,hz]
           · rw[Addr.add_lit,Addr.add_lit];exact .ptr _ hr
     · cases h
   · cases h
 · cases h
theorem H6 (hE:bJ P E) {t:TypeId}{x x' v:Value}{f:Nat}(h:GS E t x f=some v) (hx:VR ρ x x') :
   ∃ v',(∀ w:World,(Instr.field t x' f).run P w=.ok v' w)∧VR ρ v v':=by
 unfold GS at h
 split at h
 · rename_i fields cs hu;have hu:=hE.b_ hu an;split at h
   · rename_i fd hf;cases hx with
     | agg _ cs' hx =>
       obtain⟨v',e,r⟩:=lC hE h hx;refine⟨v',fun w=>?_,r⟩;have hf:fields[f]?=some fd:=by simpa[dL]using hf
       simp[Instr.field,run_underlying hu,hf,asAgg,e]
   · cases h
 · cases h
theorem ym (hE:bJ P E) {x x' v:Value}{xt t:TypeId}{ok:Bool}(h:lQ E x t ok=some v) (hx:VR ρ x x') :
   ∃ v',(∀ w:World,(Instr.typeAssert x' xt t ok).run P w=.ok v' w)∧VR ρ v v':=by
 unfold lQ at h
 split at h
 · cases h
 · cases h
 · rename_i d hi1 hi2 hu;have hu:=hE.b_ hu (fun e=>hi2 e);cases hok:ok with
   | false=>simp[hok]at h
   | true =>simp only[hok,cond_true,aY]at h;obtain⟨z,hz,rfl⟩:=h;cases hx;refine⟨.tuple #[z,.bool false],fun w=>?_,.tuple _ _ (.cons (VR.const ρ (hE.zero hz).2) (.cons (.bool _) .nil))⟩;simp only[Instr.typeAssert,Sem.run_bind,run_underlying hu,Result.andThen_ok];cases d<;>first|exact(hi1 _ rfl).elim|simp[hE.kL hz]
 · rename_i d t' u hi1 hi2 hu;have hu:=hE.b_ hu (fun e=>hi2 e);cases hx with
   | iface _ _ u' hu' =>
     rw[bF]at h;by_cases ht:t'=t
     · rw[if_pos ht]at h;subst ht;cases ok with
       | true =>simp only[cond_true]at h;cases h;refine⟨.tuple #[u',.bool true],fun w=>?_,.tuple _ _ (.cons hu' (.cons (.bool _) .nil))⟩;simp only[Instr.typeAssert,Sem.run_bind,run_underlying hu,Result.andThen_ok];cases d<;>first|exact(hi1 _ rfl).elim|simp
       | false =>simp only[cond_false]at h;cases h;refine⟨u',fun w=>?_,hu'⟩;simp only[Instr.typeAssert,Sem.run_bind,run_underlying hu,Result.andThen_ok];cases d<;>first|exact(hi1 _ rfl).elim|simp
     · rw[if_neg ht]at h;cases ok with
       | false=>simp at h
       | true =>simp only[cond_true,aY]at h;obtain⟨z,hz,rfl⟩:=h;refine⟨.tuple #[z,.bool false],fun w=>?_,.tuple _ _ (.cons (VR.const ρ (hE.zero hz).2) (.cons (.bool _) .nil))⟩;simp only[Instr.typeAssert,Sem.run_bind,run_underlying hu,Result.andThen_ok];cases d<;>first|exact(hi1 _ rfl).elim|simp[ht,hE.kL hz]
 · cases h
theorem Ci {mx:Bool}{x x' y y' v:Value}(h:rE mx x y=some v) (hx:VR ρ x x') (hy:VR ρ y y') (w:World) :
  ((if mx then Builtin.max2 else Builtin.min2) x' y').run P w=.ok v w∧VR ρ v v:=by
 unfold rE at h
 split at h
 ·cases hx;cases hy;cases h;cases mx;·exact⟨by simp[Builtin.min2],.int _ _⟩
  ·exact⟨by simp[Builtin.max2],.int _ _⟩
 ·cases h
theorem wV {mx:Bool}:∀ {l l':List Value}{x x' v:Value},xX (rE mx) x l=some v→VR ρ x x'→eW ρ l l' →
   ∃ v',VR ρ v v'∧∀ w:World,(l'.foldlM (if mx then Builtin.max2 else Builtin.min2) x').run P w=.ok v' w
 | _,_,x,x',v,h,hx,.nil=>by simp only[xX]at h;cases h;exact⟨x',hx,fun w=>an⟩
 | _,_,x,x',v,h,hx,.cons hy t=>by
   rename_i y y' l l';simp only[xX]at h;cases hz:rE mx x y with
   | none=>simp[hz]at h
   | some z =>
     simp only[hz]at h
     have h1:=fun w=>(Ci (P:=P) hz hx hy w).1
     have h2:=(Ci (P:=P) hz hx hy default).2
     obtain⟨v',r,e⟩:=wV h h2 t
     exact⟨v',r,fun w=>by simp[List.foldlM_cons,h1 w,e w]⟩
theorem Co (off:Nat):∀ (vs:List Value) (k:Nat) (cs:List Value),off+k+vs.length≤cs.length →
   (vs.zipIdx k).foldl (fun (cs:Array Value) (p:Value×Nat)=>cs.setIfInBounds (off+p.2) p.1) cs.toArray=(cs.take (off+k)++vs++cs.drop (off+k+vs.length)).toArray
 | [],k,cs,_=>an
 | v::vs,k,cs,h=>by simp only[List.zipIdx_cons,wI,List.setIfInBounds_toArray];rw[Co off vs (k+1) (cs.set (off+k) v) (by simp at h ⊢;omega)];have:=list_seg_step cs (off+k) v vs (by simp at h;omega);simpa[nu,vV 1]using this
theorem vj {place place':Nat→Option (Nat×Nat)}(hp:∀ i x,place i=some x→place' i=some x) :
   ∀ {ps:List (Nat×Value)}{ps':List (Nat×Value)}{cs l:List Value}{cs':List Value},iV place cs ps=some l→eW ρ cs cs' →
     ps'.map (·.1)=ps.map (·.1)→eW ρ (ps.map (·.2)) (ps'.map (·.2)) →
     ∃ l':List Value,Instr.fill place' cs'.toArray ps'=some l'.toArray∧eW ρ l l'
 | [],[],cs,l,cs',h,hc,_,_=>by simp only[iV]at h;cases h;exact⟨cs',by simp[Instr.fill],hc⟩
 | [],_::_,_,_,_,_,_,h,_=>by simp at h
 | _::_,[],_,_,_,_,_,h,_=>by simp at h
 | (i,v)::ps,(i',v')::ps',cs,l,cs',h,hc,hi,hv=>by
   simp only[dT,pV]at hi;obtain⟨hii,hi⟩:=hi;simp only[dT]at hv;cases hv with
   | cons hv ht =>
     rw[iV]at h
     cases hpi:place i with
     | none=>rw[hpi]at h;cases h
     | some x =>
       obtain⟨off,n⟩:=x
       rw[hpi]at h
       simp only[bF,blt_eq]at h
       by_cases hn0:0<n
       case neg=>simp[hn0]at h
       simp only[hn0,decide_true,cond_true]at h
       by_cases hn:v.cells.toList.length=n
       · rw[if_pos hn]at h;cases ho:fV cs off v.cells.toList with
         | none=>rw[ho]at h;cases h
         | some cs1 =>
           rw[ho]at h;simp only at h;obtain⟨h1,rfl⟩:=tv _ _ _ _ ho;have hcl:=hv.cells;have hlen:=hcl.length;have hl:=hc.length;have hsz:v'.cells.size=n:=by rw[← si,← hlen];exact hn
           by_cases hfit:off+v'.cells.size≤cs'.length
           · have hfold:(v'.cells.zipIdx.foldl (fun cs (c,j)=>cs.setIfInBounds (off+j) c) cs'.toArray)=(cs'.take off++v'.cells.toList++cs'.drop (off+v'.cells.toList.length)).toArray:=by rw[← Array.foldl_toList,Array.toList_zipIdx];exact Co off v'.cells.toList 0 cs' (by simpa using hfit)
             have hc1:eW ρ (cs.take off++v.cells.toList++cs.drop (off+v.cells.toList.length)) (cs'.take off++v'.cells.toList++cs'.drop (off+v'.cells.toList.length)):=by rw[← hlen];exact((hc.take _).append hcl).append (hc.drop _)
             obtain⟨l',e,r⟩:=vj hp h hc1 hi ht;refine⟨l',?_,r⟩;simp only[Instr.fill,hii,hp _ _ hpi];rw[if_neg ?_];· rw[hfold];exact e
             · simp[hsz]at hfit ⊢;omega
           · exfalso;rcases h1 with h1|h1;· rw[h1]at hn;simp at hn;omega
             · rw[hlen]at h1;simp at h1;omega
       · rw[if_neg hn]at h;cases h
end
section
variable {P:Program}{E:Env}{ρ:Ren}
theorem uw {α β:Type}(f:α→Sem β) (g:α→β) (w:World):∀ (l:List α),(∀ x∈l,(f x).run P w=.ok (g x) w)→(l.mapM f).run P w=.ok (l.map g) w
 | [],_=>an
 | x::l,h=>by have h1:=h x an;have h2:=uw f g w l (fun y hy=>h y (by simp[hy]));simp[List.mapM_cons,h1,h2]
theorem AS {α β:Type}(f:α→Sem β) (g:α→β) (w:World) (xs:Array α) (h:∀ x∈xs.toList,(f x).run P w=.ok (g x) w):(xs.mapM f).run P w=.ok (xs.map g) w:=by rw[Array.mapM_eq_mapM_toList];simp only[Sem.run_map,uw f g w xs.toList h,Result.andThen_ok];congr 1;apply m_;simp
theorem GQ (hE:bJ P E) {t:TypeId}{ps:List (Nat×Value)}{ps':Array (Nat×Value)}{v:Value}(h:yU E t ps=some v)
  (hi:ps'.toList.map (·.1)=ps.map (·.1)) (hv:eW ρ (ps.map (·.2)) (ps'.toList.map (·.2))) :
  ∃ v',(∀ w:World,(Instr.build t ps').run P w=.ok v' w)∧VR ρ v v':=by
 unfold yU at h
 split at h
 ·rename_i z fields hz hu;have hu:=hE.b_ hu an;split at h
  ·rename_i places hp;simp only[aY]at h;obtain⟨l,hl,rfl⟩:=h;have hz':=VR.const ρ (hE.zero hz).2;obtain⟨hlen,hall⟩:=xQ hp;have hmap:∀ w:World,(fields.mapM fun (f:Field)=>(do pure (f.offset,← sizeOf f.type):Sem (Nat×Nat))).run P w=.ok (fields.map fun (f:Field)=>(f.offset,P.cellsOf f.type)) w:=by intro w;refine AS _ _ w fields fun f hf=>?_;obtain⟨i,hi',e⟩:=eU hf;obtain⟨y,hy,_⟩:=hall i f (by rw[bw hi',e]);simp only[aY]at hy;obtain⟨n,hn,rfl⟩:=hy;simp[hE.gW hn,hE.cellsOf hn]
   obtain⟨l',e,r⟩:=vj (ρ:=ρ) (place:=nth places) (place':=((fields.map fun (f:Field)=>(f.offset,P.cellsOf f.type))[·]?)) (fun i x hx=>by
    rw[dL]at hx;have aT:i<fields.toList.length:=by rw[← hlen];exact(cQ.1 hx).1
    obtain⟨y,hy,hy2⟩:=hall i _ (bw aT);rw[hx]at hy2;cases hy2;simp only[aY]at hy;obtain⟨n,hn,rfl⟩:=hy;have hlt':i<fields.size:=by simpa using aT
    have hn:Ev.size E fields[i].type=some n:=by simpa using hn
    simp[hlt',hE.cellsOf hn]) hl hz'.cells hi hv
   refine⟨.agg l'.toArray,fun w=>?_,.agg _ _ (by simpa using r)⟩;have e:Instr.fill (fun x=>(fields.map fun (f:Field)=>(f.offset,P.cellsOf f.type))[x]?) z.cells ps'.toList=some l'.toArray:=by simpa using e
   simp only[Instr.build,Sem.run_bind,hE.kL hz,Result.andThen_ok,run_underlying hu,hmap w];simp only[e,Sem.run_pure]
  ·cases h
 ·rename_i z n elem hz hu;have hu:=hE.b_ hu an;split at h
  ·rename_i sz hs;simp only[aY]at h;obtain⟨l,hl,rfl⟩:=h;have hz':=VR.const ρ (hE.zero hz).2;obtain⟨l',e,r⟩:=vj (ρ:=ρ) (place:=fun i=>some (i*sz,sz)) (place':=fun i=>some (i*sz,sz)) (fun i x hx=>hx) hl hz'.cells hi hv;refine⟨.agg l'.toArray,fun w=>?_,.agg _ _ (by simpa using r)⟩;have e:Instr.fill (fun i=>some (i*sz,sz)) z.cells ps'.toList=some l'.toArray:=by simpa using e
   simp only[Instr.build,Sem.run_bind,hE.kL hz,Result.andThen_ok,run_underlying hu,hE.gW hs];simp only[e,Sem.run_pure]
  ·cases h
 ·cases h
inductive OR (ρ:Ren):Option Value→Option Value→Prop
 | none:OR ρ none none
 | some {v v':Value}(h:VR ρ v v'):OR ρ (some v) (some v')
theorem jZ {len cap cap' l h m:Nat}{low high mx low' high' mx':Option Value}(e:ia len cap low high mx=some (l,h,m)) (hc:cap≤cap')
   (h1:OR ρ low low') (h2:OR ρ high high') (h3:OR ρ mx mx') (b:Bool) (w:World) :
   (Instr.sliceBounds b len cap' low' high' mx').run P w=.ok (l,h,if mx.isSome then m else cap') w∧l≤h∧(mx=none→m=cap)∧m≤cap∧(len≤cap→h≤m):=by
 unfold ia at e
 cases h3 with
 | none =>
   simp only[lO]at e
   cases h2 with
   | none =>
     simp only at e
     cases h1 with
     | none =>
       simp only[iL]at e;cases e
       exact⟨by simp[Instr.sliceBounds],ah,fun _=>rfl,ah,fun x=>x⟩
     | some r =>
       simp only[iL]at e
       split at e
       · cases e
       · rename_i l' hl;cases e;obtain⟨k1,k2⟩:=mK (P:=P) hl r a_ .sliceB w;exact⟨by simp[Instr.sliceBounds,k1],k2,fun _=>rfl,ah,fun x=>x⟩
   | some r2 =>
     simp only at e
     split at e
     · cases e
     · rename_i h' hh;have hb:=fun c=>mK (P:=P) hh r2 hc c w;cases h1 with
       | none =>simp only[iL]at e;cases e;exact⟨by cases b<;>simp[Instr.sliceBounds,(hb _).1],by omega,fun _=>rfl,by omega,fun _=>(hb .sliceB).2⟩
       | some r =>
         simp only[iL]at e;split at e;· cases e
         · rename_i l' hl;cases e;obtain⟨k1,k2⟩:=mK (P:=P) hl r a_ .sliceB w;exact⟨by cases b<;>simp[Instr.sliceBounds,k1,(hb _).1],k2,fun _=>rfl,by omega,fun _=>(hb .sliceB).2⟩
 | some r3 =>
   simp only[lO]at e
   split at e
   · cases e
   · rename_i m' hm;have hbm:=fun c=>mK (P:=P) hm r3 hc c w;cases h2 with
     | none=>simp at e
     | some r2 =>
       simp only at e;split at e;· cases e
       · rename_i h' hh;have hb:=fun c=>mK (P:=P) hh r2 a_ c w;cases h1 with
         | none =>simp only[iL]at e;cases e;exact⟨by cases b<;>simp[Instr.sliceBounds,(hb _).1,(hbm _).1],by omega,fun x=>(by cases x),(hbm .sliceB).2,fun _=>(hb .sliceB).2⟩
         | some r =>
           simp only[iL]at e;split at e;· cases e
           · rename_i l' hl;cases e;obtain⟨k1,k2⟩:=mK (P:=P) hl r a_ .slice3C w;exact⟨by cases b<;>simp[Instr.sliceBounds,k1,(hb _).1,(hbm _).1],k2,fun x=>(by cases x),(hbm .sliceB).2,fun _=>(hb .sliceB).2⟩
theorem FB (hE:bJ P E) {t:TypeId}{x x' v:Value}{low high mx low' high' mx':Option Value}(e:hX E t x low high mx=some v) (hx:VR ρ x x')
   (h1:OR ρ low low') (h2:OR ρ high high') (h3:OR ρ mx mx'):∃ v',(∀ w:World,(Instr.sliceAt t x' low' high' mx').run P w=.ok v' w)∧VR ρ v v':=by
 unfold hX at e
 split at e
 · rename_i s hu;have hu:=hE.b_ hu an;cases hx;split at e;· cases e
   · cases h3;simp only[aY]at e;obtain⟨⟨l,h,m⟩,e,rfl⟩:=e;refine⟨.string (s.extract l h),fun w=>?_,.string _⟩;have hb:=(jZ (P:=P) e a_ h1 h2 .none false w).1;simp only[Instr.sliceAt,Sem.run_bind,run_underlying hu,Result.andThen_ok,Instr.slice,Option.isSome_none,dQ,if_false,hb,Sem.run_pure]
 · rename_i elem a len cap hu;have hu:=hE.b_ hu an;have run:∀ (a':Option Addr) (cap' sz l h m:Nat) (w:World),(Instr.sliceBounds true len cap' low' high' mx').run P w=.ok (l,h,m) w→Ev.size E elem=some sz →
       (Instr.sliceAt t (.slice a' len cap') low' high' mx').run P w=.ok (.slice (if m=l then a' else a'.map (·.add (l*sz))) (h-l) (m-l)) w:=by
     intro a' cap' sz l h m w hb hs
     simp only[Instr.sliceAt,Sem.run_bind,run_underlying hu,Result.andThen_ok,Instr.slice,hb,hE.gW hs,Sem.run_pure]
   rw[bF]at e;by_cases hc2:cap=fb
   · rw[if_pos hc2]at e;subst hc2;split at e
     · rename_i p sz hp hs;obtain⟨l,h,m⟩:=p;cases e;cases hx with
       | slice _ _ _ _ aT=>exact absurd aT ao
       | jq _ _ aT=>exact absurd aT ao
       | iQ a0 a' cap' =>
         have hbb:=fun w=>jZ (P:=P) hp (eX cap') h1 h2 h3 true w;obtain⟨-,k1,k2,k3,k4⟩:=hbb default;have k4:=k4 a_;have hh0:h=0:=ah;have hl0:l=0:=ah;have hm0:m=0:=ah;subst hh0;subst hl0;subst hm0;refine⟨_,fun w=>run _ _ _ _ _ _ w (hbb w).1 hs,?_⟩;have sp:∀ (c:Prop) [Decidable c] (k:Nat),VR ρ (.slice (some a0) 0 fb) (.slice (if c then some a' else (some a').map (·.add (0*sz))) (0-0) k):=by
           intro c _ k;split;· exact .iQ _ _ _
           · exact .iQ _ _ _
         exact sp _ _
     · cases e
   · rw[if_neg hc2,bF]at e;by_cases hc1:cap=bh
     · rw[if_pos hc1]at e;subst hc1;split at e;· cases e
       · rename_i l h m sz hsz hb hs;have hsz:sz≠0:=fun e=>hsz e;cases hx with
         | slice _ _ _ _ aT=>exact absurd aT (dy _)
         | jq _ _ aT=>exact absurd aT (dy _)
         | @g_ i b c off _ cap' hr hn hl h0 =>
           have hbb:=fun w=>jZ (P:=P) hb hl h1 h2 h3 true w;obtain⟨-,k1,k2,k3,k4⟩:=hbb default;cases h3 with
           | none =>
             simp only at e
             cases e
             have hm:=k2 rfl
             subst hm
             simp only[Option.isSome_none,dQ,if_false]at hbb
             have k4:=k4 a_
             simp only[bF]
             by_cases hl0:l=0
             · subst hl0;refine⟨_,fun w=>run _ _ _ _ _ _ w (hbb w).1 hs,?_⟩;have:(if cap'=0 then some (⟨b,off,none⟩:Addr) else (some (⟨b,off,none⟩:Addr)).map (·.add (0*sz)))=some ⟨b,off,none⟩:=by split<;>simp[Addr.add]
               rw[this];simpa using VR.g_ off h cap' hr ah ah h0
             · rw[if_neg hl0];by_cases hlm:l=m
               · rw[if_pos hlm];subst hlm;have:h=l:=ah;subst this;refine⟨_,fun w=>run _ _ _ _ _ _ w (hbb w).1 hs,?_⟩;rw[nH];split;· exact .iQ _ _ _
                 · exact .iQ _ _ _
               · rw[if_neg hlm];refine⟨_,fun w=>run _ _ _ _ _ _ w (hbb w).1 hs,?_⟩;rw[if_neg ah];simp only[bS,Addr.add_lit];have:l*sz≠0:=Nat.mul_ne_zero hl0 hsz;exact .g_ _ _ _ hr ah ah ah
           | some r3 =>
             simp only at e
             cases e
             simp only[Option.isSome_some,if_true]at hbb
             refine⟨_,fun w=>run _ _ _ _ _ _ w (hbb w).1 hs,?_⟩
             rw[bF]
             by_cases hlm:m=l
             · rw[if_pos hlm,if_pos hlm];exact .slice _ _ _ hr ah
             · rw[if_neg hlm,if_neg hlm];simp only[bS,Addr.add_lit];exact .slice _ _ _ hr ah
       · cases e
     · rw[if_neg hc1]at e;split at e
       · rename_i l h m sz hb hs;cases e;cases hx with
         | g_ _ _ _ _ _ _ _=>exact(hc1 rfl).elim
         | iQ _ _ _=>exact(hc2 rfl).elim
         | jq _ _ aT =>
           have hbb:=fun w=>jZ (P:=P) hb a_ h1 h2 h3 true w;obtain⟨-,k1,k2,k3,k4⟩:=hbb default;have hm:(if mx.isSome then m else cap)=m:=by
             cases hms:mx with
             | none=>simp[k2 hms]
             | some _=>rfl
           simp only[hm]at hbb;refine⟨_,fun w=>run _ _ _ _ _ _ w (hbb w).1 hs,?_⟩;rw[bF];have:(if m=l then (none:Option Addr) else (none:Option Addr).map (·.add (l*sz)))=none:=by split<;>rfl
           rw[this];exact .jq _ _ ah
         | @slice i b c off _ _ hr aT =>
           have hbb:=fun w=>jZ (P:=P) hb a_ h1 h2 h3 true w;obtain⟨-,k1,k2,k3,k4⟩:=hbb default;have hm:(if mx.isSome then m else cap)=m:=by
             cases hms:mx with
             | none=>simp[k2 hms]
             | some _=>rfl
           simp only[hm]at hbb;refine⟨_,fun w=>run _ _ _ _ _ _ w (hbb w).1 hs,?_⟩;rw[bF];by_cases hlm:m=l;· rw[if_pos hlm,if_pos hlm];exact .slice _ _ _ hr ah
           · rw[if_neg hlm,if_neg hlm];simp only[bS,Addr.add_lit];exact .slice _ _ _ hr ah
       · cases e
 · rename_i n elem a hu;have hu:=hE.b_ hu an;split at e
   · rename_i l h m sz hb hs;cases e;rw[blt_eq]at hb;by_cases hn:n<1000000
     · simp only[hn,decide_true,cond_true]at hb;cases hx with
       | @ptr i b c off hr =>
         have hbb:=fun w=>jZ (P:=P) hb a_ h1 h2 h3 false w;obtain⟨-,k1,k2,k3,k4⟩:=hbb default;have hm:(if mx.isSome then m else n)=m:=by
           cases hms:mx with
           | none=>simp[k2 hms]
           | some _=>rfl
         simp only[hm]at hbb;have hU:m<bh:=mC k3 (Nat.lt_trans hn ao);refine⟨.slice (some (if m=l then ⟨b,off,none⟩ else (⟨b,off,none⟩:Addr).add (l*sz))) (h-l) (m-l),fun w=>?_,?_⟩;· simp only[Instr.sliceAt,Sem.run_bind,run_underlying hu,Result.andThen_ok,Instr.sureAddr,Sem.run_pure,(hbb w).1,hE.gW hs]
         · rw[bF];by_cases hlm:m=l;· rw[if_pos hlm,if_pos hlm];exact .slice _ _ _ hr ah
           · rw[if_neg hlm,if_neg hlm,Addr.add_lit,Addr.add_lit];exact .slice _ _ _ hr ah
     · simp[hn]at hb
   · cases e
 · cases e
end
section
variable {P:Program}{E:Env}{ρ:Ren}
theorem En {fr:Fr}{a:Act}(hf:FR E ρ fr a) {x:Option Operand}{o:Option Value}(h:Gz E fr x=some o):OR ρ o (x.map a.eval):=by
 cases x with
 | none=>simp only[Gz]at h;cases h;exact .none
 | some y =>
   simp only[Gz,aY]at h
   obtain⟨v,hv,rfl⟩:=h
   exact .some (bH hf hv)
theorem CW {fr:Fr}{a:Act}(hf:FR E ρ fr a):∀ {ps:List (Nat×Operand)}{l:List (Nat×Value)},aW (fun (p:Nat×Operand)=>(ev E fr p.2).map (p.1,·)) ps=some l →
   (ps.map fun p=>(p.1,a.eval p.2)).map (·.1)=l.map (·.1)∧eW ρ (l.map (·.2)) ((ps.map fun p=>(p.1,a.eval p.2)).map (·.2))
 | [],l,h=>by simp[aW]at h;subst h;exact⟨rfl,.nil⟩
 | p::ps,l,h=>by
   simp only[aW]at h;cases hx:ev E fr p.2 with
   | none=>simp[hx]at h
   | some y =>
     cases hm:aW (fun (p:Nat×Operand)=>(ev E fr p.2).map (p.1,·)) ps with
     | none=>simp[hx,hm]at h
     | some q =>
       simp only[hx,hm,bS]at h;cases h
       obtain⟨h1,h2⟩:=CW hf hm
       exact⟨by simp at h1 ⊢;exact h1,.cons (bH hf hx) h2⟩
theorem zu {x x' v:Value}{ts:Array TypeId}{ty:TypeId}(h:uM x=some v) (r:VR ρ x x') :
   ∃ v',(∀ w:World,(Builtin.unsafeSliceData_ ts ty #[x']).run P w=.ok v' w)∧VR ρ v v':=by
 unfold uM at h
 split at h
 · cases h;cases r;exact⟨.pointer none,fun w=>Lib.run_unsafeSliceData_nil w ts ty _ _,.AN⟩
 · rename_i ad n c;cases hc:((Nat.beq c bh&&Nat.blt 0 n) || (Nat.blt 0 c&&Nat.blt c bh)) with
   | false=>rw[hc]at h;cases h
   | true =>
     rw[hc]at h;simp only[cond_true,aS]at h;subst h;simp only[jO,aZ,mM,mP]at hc;cases r with
     | slice off len cap hi hcap =>
       rcases hc with hc|hc
       · exact absurd hc.1 (Nat.ne_of_lt hcap)
       · exact⟨_,fun w=>Lib.run_unsafeSliceData_row w ts ty _ _ _ ah,.ptr _ hi⟩
     | g_ off len cap hi hn hl h0 =>
       rcases hc with hc|hc
       · exact⟨_,fun w=>Lib.run_unsafeSliceData_row w ts ty _ _ _ ah,.ptr _ hi⟩
       · exact absurd hc.2 (dy _)
     | iQ a a' cap =>
       rcases hc with hc|hc
       · exact absurd hc.2 (dy _)
       · exact absurd hc.2 ao
 · cases h
set_option maxHeartbeats 1000000 in
theorem Qk (hE:bJ P E) {fr:Fr}{a:Act}{o:Oper}{v:Value}(hf:FR E ρ fr a) (h:dZ E fr o=some v) :
   ∃ v',(∀ w:World,(execOp a.eval o).run P w=.ok (.value v') w)∧VR ρ v v':=by
 unfold dZ at h
 split at h
 · rename_i x ho;exact⟨_,fun w=>by simp[execOp,ho],bH hf h⟩
 · rename_i x ho;exact⟨_,fun w=>by simp[execOp,ho],bH hf h⟩
 · rename_i c x y ho;split at h;· rename_i hc;have r:=bH hf hc;generalize hce:a.eval c=ce at r;cases r;exact⟨_,fun w=>by simp[execOp,ho,hce,asBool],bH hf h⟩
   · rename_i hc;have r:=bH hf hc;generalize hce:a.eval c=ce at r;cases r;exact⟨_,fun w=>by simp[execOp,ho,hce,asBool],bH hf h⟩
   · cases h
 · rename_i t ps ho;split at h;· rename_i l hl;obtain⟨h1,h2⟩:=CW hf hl;obtain⟨v',e,r⟩:=GQ hE (ps':=ps.map fun (p:Nat×Operand)=>(p.1,a.eval p.2)) h (by simpa using h1) (by simpa using h2);exact⟨v',fun w=>by simp[execOp,ho,e w],r⟩
   · cases h
 · rename_i x ho;split at h
   · rename_i p hc;cases h;have r:=bH hf hc;generalize hce:a.eval x=ce at r;cases r with
     | ptr off hr=>exact⟨_,fun w=>by simp[execOp,ho,hce],.ptr off hr⟩
   · rename_i t u hc;cases h;have r:=bH hf hc;generalize hce:a.eval x=ce at r;cases r with
     | iface _ _ u' hr=>exact⟨_,fun w=>by simp[execOp,ho,hce],.iface _ _ _ hr⟩
   · rename_i f xs ys hc;cases h;have r:=bH hf hc;generalize hce:a.eval x=ce at r;cases r with
     | func _ _ _ xs' ys' hy h1 h2=>exact⟨_,fun w=>by simp[execOp,ho,hce],.func _ _ _ _ _ hy h1 h2⟩
   · rename_i f xs ys hc;cases h;have r:=bH hf hc;generalize hce:a.eval x=ce at r;cases r with
     | func _ _ _ _ _ hy _ _=>cases hy
     | yield hi=>exact⟨_,fun w=>by simp[execOp,ho,hce],.yield hi⟩
   · cases h
 · rename_i op t x y yt ho;have fin:∀ u1 u2,ev E fr x=some u1→ev E fr y=some u2→eS E op t u1 u2=some v→(u1=.nilIface→u2=.nilIface→(isConst x || isConst y)=true) →
       ∃ v',(∀ w:World,(execOp a.eval o).run P w=.ok (.value v') w)∧VR ρ v v':=by
     intro u1 u2 e1 e2 hb hn
     have hh:=fun w=>Rl hE hb (bH hf e1) (bH hf e2) hn w
     exact⟨v,fun w=>by simp[execOp,ho,(hh w).1,(hh w).2.1],(hh default).2.2⟩
   split at h
   · rename_i e1 e2;cases hc:(isConst x || isConst y) with
     | false=>simp[hc]at h
     | true=>simp only[hc,cond_true]at h;exact fin _ _ e1 e2 h (fun _ _=>hc)
   · rename_i u1 u2 hnn e1 e2;exact fin _ _ e1 e2 h (fun e e'=>(hnn e e').elim)
   · cases h
 · rename_i op t x ho;split at h;· rename_i u hu;obtain⟨v',hh,r⟩:=TY (P:=P) h (bH hf hu);exact⟨v',fun w=>by simp[execOp,ho,hh w],r⟩
   · cases h
 · rename_i s d x ho;split at h;· rename_i u hu;obtain⟨v',hh,r⟩:=CZ hE h (bH hf hu);exact⟨v',fun w=>by simp[execOp,ho,hh w],r⟩
   · cases h
 · rename_i t x ho;split at h;· cases h
   · cases h
   · rename_i u d hi1 hi2 hu hd;cases h;have hd:=hE.b_ hd (fun e=>hi2 e);refine⟨.iface t (a.eval x),fun w=>?_,.iface _ _ _ (bH hf hu)⟩;simp only[execOp,ho,Instr.makeInterface,Sem.run_bind,run_underlying hd,Result.andThen_ok];cases d<;>first|exact(hi1 _ rfl).elim|simp
   · cases h
 · rename_i fn first cap ho
   split at h;· rename_i l1 l2 e0 e1 e2;cases h;exact⟨.func fn (first.map a.eval) (cap.map a.eval),fun w=>by simp[execOp,ho,Instr.makeFunc],.func _ _ _ _ _ e0 (by simpa using kr hf e1) (by simpa using kr hf e2)⟩
   · cases h
 · rename_i t x lo hi mx ho;split at h;· rename_i u1 o1 o2 o3 e1 e2 e3 e4;obtain⟨v',e,r⟩:=FB hE h (bH hf e1) (En hf e2) (En hf e3) (En hf e4);exact⟨v',fun w=>by simp[execOp,ho,e w],r⟩
   · cases h
 · rename_i s x f ho;split at h;· rename_i u hu;obtain⟨v',e,r⟩:=zr hE h (bH hf hu);exact⟨v',fun w=>by simp[execOp,ho,e w],r⟩
   · cases h
 · rename_i t x f ho;split at h;· rename_i u hu;obtain⟨v',e,r⟩:=H6 hE h (bH hf hu);exact⟨v',fun w=>by simp[execOp,ho,e w],r⟩
   · cases h
 · rename_i t x i ho;split at h;· rename_i u1 u2 h1 h2;obtain⟨v',e,r⟩:=zj hE h (bH hf h1) (bH hf h2);exact⟨v',fun w=>by simp[execOp,ho,e w],r⟩
   · cases h
 · rename_i t x i ho;split at h;· rename_i u1 u2 h1 h2;obtain⟨v',e,r⟩:=IZ hE h (bH hf h1) (bH hf h2);exact⟨v',fun w=>by simp[execOp,ho,e w],r⟩
   · cases h
 · rename_i x xt t ok ho;split at h;· rename_i u hu;obtain⟨v',e,r⟩:=ym hE (xt:=xt) h (bH hf hu);exact⟨v',fun w=>by simp[execOp,ho,e w],r⟩
   · cases h
 · rename_i t i ho;split at h
   · rename_i vs hu;have r:=bH hf hu;generalize hce:a.eval t=ce at r;cases r with
     | tuple _ vs' hr =>
       rw[dL]at h;obtain⟨v',e,r⟩:=hr.get _ _ h;have e:vs'[i]?=some v':=by simpa using e
       exact⟨v',fun w=>by simp[execOp,ho,hce,Instr.extract,e],r⟩
   · cases h
 · rename_i c ho;have call:∀ b,c.callee=.builtin b→∃ cs:Array Bool,∀ w:World,(execOp a.eval o).run P w=(builtin b c.argTypes o.type cs (c.args.map a.eval)).run P w:=by intro b hb;refine⟨c.args.map fun|.const _=>true|_=>false,fun w=>?_⟩;simp only[execOp,ho,resolve,hb,Sem.run_bind,Sem.run_pure,Result.andThen_ok,invoke];rfl
   split at h
   · rename_i hb;obtain⟨cs,call⟩:=call _ hb;split at h
     · rename_i t ts x xs ht hx;have r:=kr hf hx;have ht:c.argTypes[0]?=some t:=by
         have:c.argTypes.toList[0]?=some t:=by rw[ht];rfl
         simpa using this
       generalize hce:c.args.map a.eval=ce at r;cases hl:ce.toList with
       | nil=>rw[hl]at r;cases r
       | cons x' xs' =>
         rw[hl]at r
         cases r with
         | cons rx _ =>
           have hx0:ce[0]?=some x':=by
             have:ce.toList[0]?=some x':=by rw[hl];rfl
             simpa using this
           have hh:=fun w=>OY hE (ty:=o.type) ht hx0 h rx w
           exact⟨v,fun w=>by simp[call,builtin,hce,(hh w).1],(hh default).2⟩
     · cases h
   · rename_i hb;obtain⟨cs,call⟩:=call _ hb;split at h
     · rename_i t ts x xs ht hx;have r:=kr hf hx;have ht:c.argTypes[0]?=some t:=by
         have:c.argTypes.toList[0]?=some t:=by rw[ht];rfl
         simpa using this
       generalize hce:c.args.map a.eval=ce at r;cases hl:ce.toList with
       | nil=>rw[hl]at r;cases r
       | cons x' xs' =>
         rw[hl]at r
         cases r with
         | cons rx _ =>
           have hx0:ce[0]?=some x':=by
             have:ce.toList[0]?=some x':=by rw[hl];rfl
             simpa using this
           have hh:=fun w=>Qo hE (ty:=o.type) ht hx0 h rx w
           exact⟨v,fun w=>by simp[call,builtin,hce,(hh w).1],(hh default).2⟩
     · cases h
   · rename_i hb;obtain⟨cs,call⟩:=call _ hb;split at h
     · rename_i x xs hx;have r:=kr hf hx;generalize hce:c.args.map a.eval=ce at r;cases hl:ce.toList with
       | nil=>rw[hl]at r;cases r
       | cons x' xs' =>
         rw[hl]at r;cases r with
         | cons rx rl =>
           obtain⟨v',r,e⟩:=wV (P:=P) h rx rl
           simp only[if_true]at e
           exact⟨v',fun w=>by simp[call,builtin,hce,Builtin.max_,hl,e w],r⟩
     · cases h
   · rename_i hb;obtain⟨cs,call⟩:=call _ hb;split at h
     · rename_i x xs hx;have r:=kr hf hx;generalize hce:c.args.map a.eval=ce at r;cases hl:ce.toList with
       | nil=>rw[hl]at r;cases r
       | cons x' xs' =>
         rw[hl]at r;cases r with
         | cons rx rl =>
           obtain⟨v',r,e⟩:=wV (P:=P) h rx rl
           simp only[dQ,if_false]at e
           exact⟨v',fun w=>by simp[call,builtin,hce,Builtin.min_,hl,e w],r⟩
     · cases h
   · rename_i hb;obtain⟨cs,call⟩:=call _ hb;split at h
     · rename_i x hx;have r:=kr hf hx;generalize hce:c.args.map a.eval=ce at r;obtain⟨l⟩:=ce;simp only at r;cases r with
       | cons rx t =>cases t;obtain⟨v',e,r⟩:=zu (P:=P) (ts:=c.argTypes) (ty:=o.type) h rx;exact⟨v',fun w=>by simp[call,builtin,hce,e w],r⟩
     · cases h
   · cases h
 · cases h
theorem Jr (hE:bJ P E) {fr:Fr}{a:Act}{o:Oper}{v:Value}(hf:FR E ρ fr a) (h:kR E fr o=some v) (w:World) :
  (∃ v' n,(execOp a.eval o).run P w=.ok (.value v') { w with drawn:=n }∧VR ρ v v')∨∃ c,o.op=.call c∧v8 E fr c=some v:=by
 unfold kR at h
 split at h
 ·rename_i u hfl;cases h;unfold tV at hfl;split at hfl
  ·rename_i op t x y yt ho;split at hfl;·rename_i u1 u2 e1 e2;obtain⟨h1,v',n,h2,r⟩:=N9 (P:=P) (t:=t) hfl (bH hf e1) (bH hf e2) x y w;exact .inl ⟨v',n,by simp[execOp,ho,h1,h2],r⟩
   ·cases hfl
  ·rename_i c ho;exact .inr ⟨c,ho,hfl⟩
  ·cases hfl
 ·obtain⟨v',h1,r⟩:=Qk hE hf h;exact .inl ⟨v',w.drawn,h1 w,r⟩
end
end Go.Ev
