/- THE EVALUATOR, part 'Ev': a deterministic reading of the program's code over an abstract heap, and that the model does what it says. Conditions: none beyond each theorem's own. -/
import Derived.Orders
set_option linter.unusedSimpArgs false
set_option linter.unusedVariables false
namespace Go.Ev

/-! binary tries -/
inductive T (α : Type) where
  | leaf
  | node (l : T α) (v : Option α) (r : T α)

def T.get {α : Type} : T α → Nat → Option α
  | .leaf, _ => none
  | .node l v r, i => cond (Nat.beq i 0) v (cond (Nat.beq (i % 2) 1) (l.get (i / 2)) (r.get (i / 2 - 1)))

def T.setF {α : Type} : Nat → T α → Nat → α → T α
  | 0, t, _, _ => t
  | n + 1, .leaf, i, x => cond (Nat.beq i 0) (.node .leaf (some x) .leaf)
      (cond (Nat.beq (i % 2) 1) (.node (T.setF n .leaf (i / 2) x) none .leaf) (.node .leaf none (T.setF n .leaf (i / 2 - 1) x)))
  | n + 1, .node l v r, i, x => cond (Nat.beq i 0) (.node l (some x) r)
      (cond (Nat.beq (i % 2) 1) (.node (T.setF n l (i / 2) x) v r) (.node l v (T.setF n r (i / 2 - 1) x)))
def T.set {α : Type} (t : T α) (i : Nat) (x : α) : T α := T.setF (i + 1) t i x

def T.ofListFrom {α : Type} : List α → Nat → T α → T α
  | [], _, t => t
  | x :: l, i, t => T.ofListFrom l (i + 1) (t.set i x)
def T.ofList {α : Type} (l : List α) : T α := T.ofListFrom l 0 .leaf

structure TI where
  desc : TypeDesc
  size : Nat
  bytes : Nat
  zero : Option Value
  comparable : Bool
  stood : Bool

inductive Blk where
  | cells (cs : List Value) (elem : TypeId) (exact : Bool)
  | dead
  | map (es : List (Value × Value × Nat)) (clock : Nat)
  | siter (s : ByteArray) (pos : Nat)
  | miter (m : Option Nat) (since : Nat) (seen : List Nat) (stepped : Nat)
  /-- a range over a function: its state, the jump that waits, the temporaries at its door -/
  | loop (st : LoopState) (pend : Option Code) (fr : T Value) (nt : Nat) (ps : List Nat) (assign body : Code)
  /-- a block that came in: it is read alone -/
  | ro (at_ : Nat → Option Value)
  /-- a map whose entries came in whatever order: they stand here by their keys' codes -/
  | smap (es : List (Nat × Value × Value))
  /-- an iterator of which the entry alone is known at which it stands -/
  | mcur (m born clock : Nat)

structure Heap where
  n : Nat
  b : T Blk

abbrev Fr := T Value

/-- what the evaluator is told of the program -/
structure Env where
  tab : T TI
  funs : T Func
  /-- so many package-level variables are known -/
  ng : Nat
  /-- functions that are taken by a word of their own -/
  ext : FuncId → List Value → Heap → Option (Option (Value × Heap))
  /-- functions that do nothing as deferred calls, where nothing panics -/
  dfr : FuncId → Bool := fun _ => false
  /-- types of maps that are kept without an order -/
  smap : TypeId → Bool := fun _ => false
  /-- functions that leave memory alone: their word, of values in which no address is -/
  qf : FuncId → Bool := fun _ => false
  qc : FuncId → List Value → Option Value := fun _ _ => none

/-- a row's capacity that is not known; that of an empty slice of which nothing more is known -/
def UNK : Nat := 1000000000000000000000
def UNK2 : Nat := 1000000000000000000001
/-- a float that is no number, whichever -/
def NANY : Value := .chan none
def isNan (n : Nat) : Bool := Nat.blt 9218868437227405312 (n % 9223372036854775808)
def fres : Option Nat → Value
  | some r => .float .f64 r
  | none => NANY
def fop (op : BinOp) (a b : Nat) : Option Value :=
  match op with
  | .add => some (fres (Ieee.double.add a b))
  | .sub => some (fres (Ieee.double.sub a b))
  | .mul => some (fres (Ieee.double.mul a b))
  | .quo => some (fres (Ieee.double.div a b))
  | .eql => some (.bool (Ieee.double.order a b == some .eq))
  | .neq => some (.bool (Ieee.double.order a b != some .eq))
  | .lss => some (.bool (Ieee.double.order a b == some .lt))
  | .leq => some (.bool (Ieee.double.order a b == some .lt || Ieee.double.order a b == some .eq))
  | .gtr => some (.bool (Ieee.double.order a b == some .gt))
  | .geq => some (.bool (Ieee.double.order a b == some .gt || Ieee.double.order a b == some .eq))
  | _ => none
def fopN : BinOp → Option Value
  | .add | .sub | .mul | .quo => some NANY
  | .eql | .lss | .leq | .gtr | .geq => some (.bool false)
  | .neq => some (.bool true)
  | _ => none

/-- values in which no address is -/
def constOk0 : Value → Bool
  | .bool _ | .int _ _ | .string _ | .float _ _ | .pointer none | .slice none 0 0 | .map none | .nilFunc | .nilIface => true
  | _ => false
def constOk : Value → Bool
  | .agg cs => cs.toList.all constOk0
  | .tuple ⟨[]⟩ => true
  | v => constOk0 v

def mapOpt {α β : Type} (f : α → Option β) : List α → Option (List β)
  | [] => some []
  | x :: l => match f x, mapOpt f l with | some y, some r => some (y :: r) | _, _ => none

section
variable (E : Env)
def und (t : TypeId) : Option TypeDesc := (E.tab.get t).map (·.desc)
def size (t : TypeId) : Option Nat := (E.tab.get t).map (·.size)
def zero (t : TypeId) : Option Value := (E.tab.get t).bind (·.zero)
def stood (t : TypeId) : Bool := match E.tab.get t with | some i => i.stood | none => true
def isAgg (t : TypeId) : Option Bool := (und E t).map fun | .struct _ | .array _ _ => true | _ => false

def nth {α : Type} : List α → Nat → Option α
  | [], _ => none
  | x :: l, i => cond (Nat.beq i 0) (some x) (nth l (i - 1))
def dropN {α : Type} : List α → Nat → List α
  | [], _ => []
  | x :: l, i => cond (Nat.beq i 0) (x :: l) (dropN l (i - 1))
/-- just n of them -/
def takeN {α : Type} : Nat → List α → Option (List α)
  | 0, _ => some []
  | _ + 1, [] => none
  | n + 1, x :: l => (takeN n l).map (x :: ·)
/-- xs laid over l from place i on; all places must be there -/
def over {α : Type} : List α → Nat → List α → Option (List α)
  | l, _, [] => some l
  | [], _, _ :: _ => none
  | c :: l, i, x :: xs => cond (Nat.beq i 0) ((over l 0 xs).map (x :: ·)) ((over l (i - 1) (x :: xs)).map (c :: ·))

def oneCell : Value → Bool
  | .agg _ | .tuple _ => false
  | _ => true

def roCells (g : Nat → Option Value) : Nat → Nat → Option (List Value)
  | _, 0 => some []
  | o, n + 1 => match g o, roCells g (o + 1) n with | some v, some l => some (v :: l) | _, _ => none

def cellsAt (h : Heap) (a : Addr) (n : Nat) : Option (List Value) :=
  cond (Nat.beq n 0) (some []) (match a.spot with
  | some _ => none
  | none => cond (Nat.blt a.block h.n) (match h.b.get a.block with
    | some (.cells cs _ _) => takeN n (dropN cs a.off)
    | some (.ro g) => roCells g a.off n
    | _ => none) none)
def loadAt (t : TypeId) (x : Value) (h : Heap) : Option Value :=
  match x, E.tab.get t with
  | .pointer (some a), some i =>
    match i.desc with
    | .struct _ | .array _ _ => (cellsAt h a i.size).map fun l => .agg l.toArray
    | .invalid => none
    | _ => match cellsAt h a 1 with | some [v] => some v | _ => none
  | _, _ => none
def writeCells (h : Heap) (a : Addr) (xs : List Value) : Option Heap :=
  match a.spot with
  | some _ => none
  | none => match xs with
    | [] => some h
    | _ => match h.b.get a.block with
      | some (.cells cs e x) => (over cs a.off xs).map fun cs => { h with b := h.b.set a.block (.cells cs e x) }
      | _ => none
def storeAt (t : TypeId) (x v : Value) (h : Heap) : Option Heap :=
  match x, size E t with
  | .pointer (some a), some n =>
    let l := v.cells.toList
    cond (Nat.beq l.length n && l.all oneCell) (writeCells h a l) none
  | _, _ => none
def newBlk (h : Heap) (b : Blk) : Heap := { n := h.n + 1, b := h.b.set h.n b }
def partOf (t : TypeId) (cs : List Value) (off : Nat) : Option Value :=
  match E.tab.get t with
  | none => none
  | some i => match i.desc with
    | .struct _ | .array _ _ => (takeN i.size (dropN cs off)).map fun l => .agg l.toArray
    | .invalid => none
    | _ => nth cs off

def fillL (place : Nat → Option (Nat × Nat)) : List Value → List (Nat × Value) → Option (List Value)
  | cs, [] => some cs
  | cs, (i, v) :: rest =>
    match place i with
    | none => none
    | some (off, n) =>
      let l := v.cells.toList
      cond (Nat.blt 0 n) (cond (Nat.beq l.length n) (match over cs off l with | some cs => fillL place cs rest | none => none) none) none

def rep {α : Type} : Nat → List α → List α
  | 0, _ => []
  | n + 1, l => l ++ rep n l

def eqStr (a b : ByteArray) : Bool := a.data.toList.map (·.toNat) == b.data.toList.map (·.toNat)

/-- '==' -/
def aeq : Nat → TypeId → Value → Value → Option Bool
  | 0, _, _, _ => none
  | d + 1, t, x, y =>
    match und E t, x, y with
    | some .bool, .bool a, .bool b => some (a == b)
    | some (.int _), .int k a, .int k' b => cond (decide (k = k')) (some (a == b)) none
    | some .string, .string a, .string b => some (eqStr a b)
    | some (.pointer _), .pointer none, .pointer b => some b.isNone
    | some (.pointer _), .pointer _, .pointer none => some false
    | some (.pointer e), .pointer (some a), .pointer (some b) =>
      match size E e with
      | some (_ + 1) => cond (Nat.beq a.block b.block) (some (Nat.beq a.off b.off)) none
      | _ => none
    | some (.interface _), .nilIface, .nilIface => some true
    | some (.interface _), .nilIface, .iface _ _ | some (.interface _), .iface _ _, .nilIface => some false
    | some (.interface _), .iface tx vx, .iface ty vy =>
      cond (Nat.beq tx ty) (match E.tab.get tx with | some i => cond i.comparable (aeq d tx vx vy) none | none => none) (some false)
    | some (.struct fields), .agg xs, .agg ys =>
      cond (stood E t) none <| fields.toList.foldr (fun f k => cond (f.name == "_") k (match partOf E f.type xs.toList f.offset, partOf E f.type ys.toList f.offset with
        | some p, some q => match aeq d f.type p q with
          | some true => k
          | r => r
        | _, _ => none)) (some true)
    | some (.array len elem), .agg xs, .agg ys =>
      match size E elem with
      | none => none
      | some n => (List.range len).foldr (fun i k => match partOf E elem xs.toList (i * n), partOf E elem ys.toList (i * n) with
        | some p, some q => match aeq d elem p q with
          | some true => k
          | r => r
        | _, _ => none) (some true)
    | some (.slice _), .slice none _ _, .slice b _ _ => some b.isNone
    | some (.slice _), .slice _ _ _, .slice none _ _ => some false
    | some (.map _ _), .map none, .map b => some b.isNone
    | some (.map _ _), .map _, .map none => some false
    | some (.func _ _ _), .nilFunc, .nilFunc => some true
    | some (.func _ _ _), .nilFunc, .func _ _ _ | some (.func _ _ _), .func _ _ _, .nilFunc => some false
    | _, _, _ => none

def bytesLt : List UInt8 → List UInt8 → Bool
  | _, [] => false
  | [], _ :: _ => true
  | a :: x, b :: y => Nat.blt a.toNat b.toNat || (Nat.beq a.toNat b.toNat && bytesLt x y)

/-- keys of these kinds alone: no interface in them -/
def plainKey : Nat → TypeId → Bool
  | 0, _ => false
  | d + 1, t => match und E t with
    | some (.struct fs) => fs.toList.all fun f => plainKey d f.type
    | some (.array _ e) => plainKey d e
    | some .bool | some (.int _) | some .string | some (.pointer _) => true
    | _ => false

/-- a key's check -/
def acheck : Nat → TypeId → Value → Bool
  | 0, _, _ => false
  | d + 1, t, v => match und E t, v with
    | some (.struct fs), .agg cs => fs.toList.all fun f => f.name == "_" || (match partOf E f.type cs.toList f.offset with | some x => acheck d f.type x | none => false)
    | some (.array n e), .agg cs => match size E e with
      | some sz => (List.range n).all fun i => match partOf E e cs.toList (i * sz) with | some x => acheck d e x | none => false
      | none => false
    | some .bool, _ | some (.int _), _ | some .string, _ | some (.pointer _), _ => true
    | _, _ => false

def numeric : Value → Bool
  | .int _ _ | .float _ _ | .complex _ _ _ | .string _ | .chan none => true
  | _ => false
def abin (op : BinOp) (t : TypeId) (x y : Value) : Option Value :=
  match op, x, y with
  | .shl, .int k a, .int _ b => cond (decide (b < 0)) none (some (.int k (k.wrap (a * 2 ^ min b.toNat k.bits))))
  | .shr, .int k a, .int _ b => cond (decide (b < 0)) none (some (.int k (a.fdiv (2 ^ min b.toNat k.bits))))
  | op, .int k a, .int k' b =>
    cond (decide (k = k')) (match op with
    | .add => some (.int k (k.wrap (a + b)))
    | .sub => some (.int k (k.wrap (a - b)))
    | .mul => some (.int k (k.wrap (a * b)))
    | .quo => cond (decide (b = 0)) none (some (.int k (k.wrap (a.tdiv b))))
    | .rem => cond (decide (b = 0)) none (some (.int k (a.tmod b)))
    | .and => some (.int k (k.wrap (BitVec.ofInt k.bits a &&& BitVec.ofInt k.bits b).toNat))
    | .or => some (.int k (k.wrap (BitVec.ofInt k.bits a ||| BitVec.ofInt k.bits b).toNat))
    | .xor => some (.int k (k.wrap (BitVec.ofInt k.bits a ^^^ BitVec.ofInt k.bits b).toNat))
    | .andNot => some (.int k (k.wrap (BitVec.ofInt k.bits a &&& ~~~BitVec.ofInt k.bits b).toNat))
    | .eql => some (.bool (a == b))
    | .neq => some (.bool (a != b))
    | .lss => some (.bool (decide (a < b)))
    | .leq => some (.bool (decide (a ≤ b)))
    | .gtr => some (.bool (decide (a > b)))
    | .geq => some (.bool (decide (a ≥ b)))
    | _ => none) none
  | op, .string a, .string b =>
    match op with
    | .add => cond (Nat.blt (a.size + b.size) 1000000000) (some (.string (a ++ b))) none
    | .eql => some (.bool (eqStr a b))
    | .neq => some (.bool (!eqStr a b))
    | .lss => some (.bool (bytesLt a.data.toList b.data.toList))
    | .leq => some (.bool (bytesLt a.data.toList b.data.toList || eqStr a b))
    | .gtr => some (.bool (!(bytesLt a.data.toList b.data.toList || eqStr a b)))
    | .geq => some (.bool (!bytesLt a.data.toList b.data.toList))
    | _ => none
  | .eql, .agg x, .agg y => cond (plainKey E 20 t) ((aeq E 100 t (.agg x) (.agg y)).map .bool) none
  | .neq, .agg x, .agg y => cond (plainKey E 20 t) ((aeq E 100 t (.agg x) (.agg y)).map fun b => .bool (!b)) none
  | .eql, x, y => cond (numeric x) none ((aeq E 100 t x y).map .bool)
  | .neq, x, y => cond (numeric x) none ((aeq E 100 t x y).map fun b => .bool (!b))
  | _, _, _ => none

def aun (op : UnOp) (x : Value) : Option Value :=
  match op, x with
  | .neg, .int k n => some (.int k (k.wrap (0 - n)))
  | .xor, .int k n => some (.int k (k.wrap (BitVec.ofInt k.bits (if k.signed then -1 else k.max) ^^^ BitVec.ofInt k.bits n).toNat))
  | .not, .bool b => some (.bool !b)
  | .neg, .float .f64 b => some (.float .f64 (b ^^^ 9223372036854775808))
  | .neg, .chan none => some NANY
  | _, _ => none

def bound (x : Value) (y : Nat) : Option Nat :=
  match x with
  | .int _ i => cond (decide (0 ≤ i) && decide (i ≤ (y : Int))) (some i.toNat) none
  | _ => none

/-- the bounds of a slice expression: low, high, max -/
def aboundsM (cap : Nat) : Option Value → Option Nat
  | some v => bound v cap
  | none => some cap
def aboundsL (h : Nat) : Option Value → Option Nat
  | some v => bound v h
  | none => some 0
def abounds (len cap : Nat) (low high max : Option Value) : Option (Nat × Nat × Nat) :=
  match aboundsM cap max with
  | none => none
  | some m => match (match high, max with | some v, _ => bound v m | none, none => some len | none, some _ => none) with
    | none => none
    | some h => match aboundsL h low with
      | none => none
      | some l => some (l, h, m)
def asliceS (t : TypeId) (x : Value) (low high max : Option Value) : Option Value :=
  match und E t, x with
  | some .string, .string s =>
    match max with
    | some _ => none
    | none => (abounds s.size s.size low high none).map fun p => .string (s.extract p.1 p.2.1)
  | some (.slice elem), .slice a len cap =>
    cond (Nat.beq cap UNK2) (match abounds 0 0 low high max, size E elem with | some _, some _ => some (.slice a len cap) | _, _ => none) (
    cond (Nat.beq cap UNK)
      (match abounds len len low high max, size E elem with
        | _, some 0 => none
        | some (l, h, m), some sz =>
          match max with
          | some _ => some (.slice (cond (Nat.beq m l) a (a.map (·.add (l * sz)))) (h - l) (m - l))
          | none => some (cond (Nat.beq l 0) (.slice a h UNK) (cond (Nat.beq l m) (.slice a 0 UNK2) (.slice (a.map (·.add (l * sz))) (h - l) UNK)))
        | _, _ => none)
      (match abounds len cap low high max, size E elem with
        | some (l, h, m), some sz => some (.slice (cond (Nat.beq m l) a (a.map (·.add (l * sz)))) (h - l) (m - l))
        | _, _ => none))
  | some (.array n elem), .pointer (some a) =>
    match (cond (Nat.blt n 1000000) (abounds n n low high max) none), size E elem with
    | some (l, h, m), some sz => some (.slice (some (cond (Nat.beq m l) a (a.add (l * sz)))) (h - l) (m - l))
    | _, _ => none
  | _, _ => none

def aindexAddr (t : TypeId) (x ix : Value) : Option Value :=
  match und E t, x, ix with
  | some (.array len elem), .pointer (some a), .int _ i =>
    match size E elem with
    | some sz => cond (decide (0 ≤ i) && decide (i < (len : Int))) (some (.pointer (some (a.add (i.toNat * sz))))) none
    | none => none
  | some (.slice elem), .slice (some a) len _, .int _ i =>
    match size E elem with
    | some sz => cond (decide (0 ≤ i) && decide (i < (len : Int))) (some (.pointer (some (a.add (i.toNat * sz))))) none
    | none => none
  | _, _, _ => none

def aindex (t : TypeId) (x ix : Value) : Option Value :=
  match und E t, x, ix with
  | some (.array len elem), .agg cs, .int _ i =>
    match size E elem with
    | some sz => cond (decide (0 ≤ i) && decide (i < (len : Int))) (partOf E elem cs.toList (i.toNat * sz)) none
    | none => none
  | some .string, .string s, .int _ i =>
    cond (decide (0 ≤ i)) ((nth s.data.toList i.toNat).map fun b => .int .u8 b.toNat) none
  | _, _, _ => none

def afieldAddr (s : TypeId) (x : Value) (f : Nat) : Option Value :=
  match und E s, x with
  | some (.struct fields), .pointer (some a) =>
    match nth fields.toList f with
    | some fd => match size E fd.type with
      | some sz => cond (Nat.beq sz 0) none (some (.pointer (some (a.add fd.offset))))
      | none => none
    | none => none
  | _, _ => none

def afield (t : TypeId) (x : Value) (f : Nat) : Option Value :=
  match und E t, x with
  | some (.struct fields), .agg cs =>
    match nth fields.toList f with
    | some fd => partOf E fd.type cs.toList fd.offset
    | none => none
  | _, _ => none

def abuild (t : TypeId) (parts : List (Nat × Value)) : Option Value :=
  match zero E t, und E t with
  | some z, some (.struct fields) =>
    match mapOpt (fun f => (size E f.type).map (f.offset, ·)) fields.toList with
    | some places => (fillL (nth places) z.cells.toList parts).map fun l => .agg l.toArray
    | none => none
  | some z, some (.array _ elem) =>
    match size E elem with
    | some sz => (fillL (fun i => some (i * sz, sz)) z.cells.toList parts).map fun l => .agg l.toArray
    | none => none
  | _, _ => none

def abuildSlice (t : TypeId) (len : Nat) (parts : List (Nat × Value)) : Option (Blk × (Nat → Value)) :=
  match und E t with
  | some (.slice elem) =>
    match E.tab.get elem with
    | some i => match i.zero with
      | some z =>
        cond (Nat.ble (len * i.size) 100000 && Nat.beq z.cells.toList.length i.size && !Nat.beq i.size 0) (match fillL (fun k => some (k * i.size, i.size)) (rep len z.cells.toList) parts with
        | some l => some (.cells l elem true, fun b => .slice (some ⟨b, 0, none⟩) len len)
        | none => none) none
      | none => none
    | none => none
  | _ => none

def amakeSlice (t : TypeId) (len cap : Value) : Option (Blk × (Nat → Value)) :=
  match und E t, len, cap with
  | some (.slice elem), .int _ l, .int _ c =>
    cond (decide (0 ≤ l) && decide (l ≤ c) && decide (c < 100000)) (match E.tab.get elem with
    | some i => match i.zero with
      | some z => cond (Nat.ble i.bytes 10000 && Nat.beq z.cells.toList.length i.size && !Nat.beq i.size 0) (some (.cells (rep c.toNat z.cells.toList) elem true,
        fun b => .slice (some ⟨b, 0, none⟩) l.toNat c.toNat)) none
      | none => none
    | none => none) none
  | _, _, _ => none

def byteOf : Value → Option UInt8
  | .int .u8 n => some (UInt8.ofNat n.toNat)
  | _ => none
def aconvert (src dst : TypeId) (x : Value) : Option Value :=
  match und E src, und E dst, x with
  | some (.int _), some (.int k), .int _ n => some (.int k (k.wrap n))
  | some .string, some .string, .string s => some (.string s)
  | some (.int _), some (.float .f64), .int _ n => some (.float .f64 (FloatKind.nearest .f64 n))
  | some (.float .f64), some (.float .f64), .float .f64 n => some (.float .f64 n)
  | some (.float .f64), some (.float .f64), .chan none => some NANY
  | _, _, _ => none
def aconvertR (src dst : TypeId) (x : Value) (h : Heap) : Option Value :=
  match und E src, und E dst, x with
  | some (.slice e), some .string, x =>
    match und E e, x with
    | some (.int .u8), .slice none _ _ => some (.string .empty)
    | some (.int .u8), .slice (some a) len _ =>
      match cellsAt h a len with
      | some l => (mapOpt byteOf l).map fun l => .string ⟨l.toArray⟩
      | none => none
    | _, _ => none
  | _, _, _ => none

/-- same value, as far as it can be told -/
def sameV : Nat → Value → Value → Bool
  | _, .bool a, .bool b => a == b
  | _, .int k a, .int k' b => decide (k = k') && a == b
  | _, .float k a, .float k' b => decide (k = k') && a == b
  | _, .string a, .string b => eqStr a b
  | _, .pointer none, .pointer none => true
  | _, .pointer (some a), .pointer (some b) => Nat.beq a.block b.block && Nat.beq a.off b.off && a.spot.isNone && b.spot.isNone
  | _, .slice none n c, .slice none m d => Nat.beq n m && Nat.beq c d
  | _, .slice (some a) n c, .slice (some b) m d => Nat.beq a.block b.block && Nat.beq a.off b.off && a.spot.isNone && b.spot.isNone && Nat.beq n m && Nat.beq c d
  | _, .map none, .map none => true
  | _, .map (some a), .map (some b) => Nat.beq a b
  | _, .nilFunc, .nilFunc => true
  | _, .nilIface, .nilIface => true
  | n + 1, .func (.func f) a b, .func (.func g) c d => Nat.beq f g && go n a.toList c.toList && go n b.toList d.toList
  | n + 1, .iface t v, .iface u w => Nat.beq t u && sameV n v w
  | n + 1, .agg a, .agg b => go n a.toList b.toList
  | n + 1, .tuple a, .tuple b => go n a.toList b.toList
  | _, _, _ => false
  where go : Nat → List Value → List Value → Bool
  | _, [], [] => true
  | n, x :: l, y :: r => sameV n x y && go n l r
  | _, _, _ => false

def akeyEq : TypeDesc → Value → Value → Option Bool
  | .int _, .int k a, .int k' b => cond (decide (k = k')) (some (a == b)) none
  | .string, .string a, .string b => some (eqStr a b)
  | .bool, .bool a, .bool b => some (a == b)
  | _, _, _ => none
def keyOk : TypeDesc → Bool
  | .int _ | .string | .bool => true
  | _ => false

def afind (kt : TypeId) (d : TypeDesc) (k : Value) : List (Value × Value × Nat) → Nat → Option (Option (Nat × Value))
  | [], _ => some none
  | (k', v, _) :: es, i =>
    match (cond (keyOk d) (akeyEq d k k') (aeq E 100 kt k k')) with
    | some true => some (some (i, v))
    | some false => afind kt d k es (i + 1)
    | none => none

def getMap (h : Heap) : Value → Option (List (Value × Value × Nat) × Nat)
  | .map (some r) => cond (Nat.blt r h.n) (match h.b.get r with | some (.map es c) => some (es, c) | _ => none) none
  | _ => none

/-- a key's code: another code, another key -/
def kcode : Value → Option Nat
  | .int _ (.ofNat n) => some n
  | .string s => some (s.data.toList.foldl (fun a b => a * 257 + b.toNat + 1) 0)
  | _ => none
def sins (c : Nat) (k v : Value) : List (Nat × Value × Value) → Option (List (Nat × Value × Value))
  | [] => some [(c, k, v)]
  | e :: es => cond (Nat.blt e.1 c) ((sins c k v es).map (e :: ·)) (cond (Nat.beq c e.1) none (some ((c, k, v) :: e :: es)))
def isFls : Option Bool → Bool
  | some false => true
  | _ => false
def getSmap (h : Heap) : Value → Option (List (Nat × Value × Value))
  | .map (some r) => cond (Nat.blt r h.n) (match h.b.get r with | some (.smap es) => some es | _ => none) none
  | _ => none
/-- the one entry whose key it is -/
def slook (d : TypeDesc) (k : Value) : List (Nat × Value × Value) → Option (Option Value)
  | [] => some none
  | e :: es => match akeyEq d k e.2.1, slook d k es with
    | some false, r => r
    | some true, some none => some (some e.2.2)
    | _, _ => none
def sadd (d : TypeDesc) (k v : Value) (es : List (Nat × Value × Value)) : Option (List (Nat × Value × Value)) :=
  match kcode k with
  | some c => cond (es.all fun x => isFls (akeyEq d k x.2.1)) (sins c k v es) none
  | none => none

def alookup (t : TypeId) (m k : Value) (ok : Bool) (h : Heap) : Option Value :=
  match und E t with
  | some (.map kt et) =>
    match und E kt with
    | none => none
    | some d =>
    cond (acheck E 20 kt k) (match (match m with | .map none => some [] | m => (getMap h m).map (·.1)) with
    | none => cond (keyOk d) (match getSmap h m with
      | none => none
      | some es => match slook d k es with
        | some (some v) => some (cond ok (.tuple #[v, .bool true]) v)
        | some none => (zero E et).map fun z => cond ok (.tuple #[z, .bool false]) z
        | none => none) none
    | some es => match afind E kt d k es 0 with
      | some (some (_, v)) => some (cond ok (.tuple #[v, .bool true]) v)
      | some none => (zero E et).map fun z => cond ok (.tuple #[z, .bool false]) z
      | none => none) none
  | _ => none

def setVal : List (Value × Value × Nat) → Nat → Value → List (Value × Value × Nat)
  | [], _, _ => []
  | (k, v, b) :: es, i, x => cond (Nat.beq i 0) ((k, x, b) :: es) ((k, v, b) :: setVal es (i - 1) x)

def amapUpdate (t : TypeId) (m k v : Value) (h : Heap) : Option Heap :=
  match und E t, m with
  | some (.map kt _), .map (some r) =>
    match und E kt, getMap h m with
    | some d, some (es, c) =>
      cond (acheck E 20 kt k) (match afind E kt d k es 0 with
      | some (some (i, _)) => match nth es i with
        | some e => cond (sameV 50 e.1 k) (some { h with b := h.b.set r (.map (setVal es i v) c) }) none
        | none => none
      | some none => some { h with b := h.b.set r (.map (es ++ [(k, v, c)]) (c + 1)) }
      | none => none) none
    | some d, none => cond (keyOk d && acheck E 20 kt k) (match getSmap h m with
      | none => none
      | some es => (sadd d k v es).map fun es => { h with b := h.b.set r (.smap es) }) none
    | none, _ => none
  | _, _ => none

def amapEntry (t : TypeId) (m k : Value) (h : Heap) : Option (Value × Heap) :=
  match und E t, m with
  | some (.map kt et), .map (some r) =>
    match und E kt, getMap h m with
    | some d, some (es, c) =>
      cond (acheck E 20 kt k) (match afind E kt d k es 0 with
      | some (some (i, v)) => match nth es i with
        | some e => cond (sameV 50 e.1 k) (some (.tuple #[v, .int .i64 e.2.2], { h with b := h.b.set r (.map es c) })) none
        | none => none
      | some none => (zero E et).map fun z => (.tuple #[z, .int .i64 c], { h with b := h.b.set r (.map (es ++ [(k, z, c)]) (c + 1)) })
      | none => none) none
    | _, _ => none
  | _, _ => none

def setBorn : List (Value × Value × Nat) → Int → Value → Option (List (Value × Value × Nat))
  | [], _, _ => none
  | (k, v, b) :: es, n, x => cond ((b : Int) == n) (some ((k, x, b) :: es)) ((setBorn es n x).map ((k, v, b) :: ·))

def aentryStore (m s v : Value) (h : Heap) : Option Heap :=
  match m, s, getMap h m with
  | .map (some r), .int _ n, some (es, c) => (setBorn es n v).map fun es => { h with b := h.b.set r (.map es c) }
  | _, _, _ => none

def adelete (t : TypeId) (m k : Value) (h : Heap) : Option Heap :=
  match und E t, m with
  | some (.map kt _), .map none => cond (acheck E 20 kt k) (some h) none
  | some (.map kt _), .map (some r) =>
    match und E kt, getMap h m with
    | some d, some (es, c) =>
      cond (acheck E 20 kt k) (match afind E kt d k es 0 with
      | some (some (i, _)) => some { h with b := h.b.set r (.map (es.take i ++ dropN es (i + 1)) c) }
      | some none => some { h with b := h.b.set r (.map es c) }
      | none => none) none
    | _, _ => none
  | _, _ => none

def alen (t : TypeId) (x : Value) : Option Value :=
  match und E t, x with
  | some .string, .string s => some (.int .i64 s.size)
  | some (.array n _), _ => some (.int .i64 n)
  | some (.slice _), .slice _ n _ => some (.int .i64 n)
  | _, _ => none
def acap (t : TypeId) (x : Value) : Option Value :=
  match und E t, x with
  | some (.slice _), .slice _ _ c => cond (Nat.blt c UNK) (some (.int .i64 c)) none
  | _, _ => none
def alenR (t : TypeId) (x : Value) (h : Heap) : Option Value :=
  match und E t, x with
  | some (.map _ _), .map none => some (.int .i64 0)
  | some (.map _ _), m => (getMap h m).map fun p => .int .i64 p.1.length
  | _, _ => none

/-- the cells of what is appended or copied: n elements of sz cells -/
def firstCells (h : Heap) (sz n : Nat) : Value → Option (List Value)
  | .slice (some a) _ _ => cellsAt h a (n * sz)
  | .slice none _ _ => cond (Nat.beq n 0) (some []) none
  | .string s => cond (Nat.beq sz 1) ((takeN n s.data.toList).map fun l => l.map fun b => .int .u8 b.toNat) none
  | _ => none
def lenOf : Value → Option Nat
  | .slice _ n _ => some n
  | .string s => some s.size
  | _ => none
def isSeq : TypeDesc → Bool
  | .slice _ | .string => true
  | _ => false

/-- n elements, the cells new, behind the sl elements of a row -/
def appendRow (h : Heap) (elem : TypeId) (sz : Nat) (base : Option Addr) (sl sc n : Nat) (new : List Value) : Option (Value × Heap) :=
  cond (Nat.beq sc UNK2) none (
  cond (Nat.beq sc UNK)
    (match base with
     | some ⟨i, 0, none⟩ => match h.b.get i with
       | some (.cells cs e false) =>
         cond (Nat.beq e elem)
           (cond (Nat.ble ((sl + n) * sz) cs.length)
             ((writeCells h ⟨i, sl * sz, none⟩ new).map fun h => (.slice base (sl + n) UNK, h))
             (cond (Nat.beq (sl * sz) cs.length)
               (some (.slice (some ⟨h.n, 0, none⟩) (sl + n) UNK, newBlk { h with b := h.b.set i .dead } (.cells (cs ++ new) elem false))) none)) none
       | _ => none
     | _ => none)
    (cond (Nat.ble (sl + n) sc)
      (match base with
       | some ⟨i, o, none⟩ => (writeCells h ⟨i, o + sl * sz, none⟩ new).map fun h => (.slice base (sl + n) sc, h)
       | _ => none)
      (match firstCells h sz sl (.slice base sl sc) with
       | some old => some (.slice (some ⟨h.n, 0, none⟩) (sl + n) UNK, newBlk h (.cells (old ++ new) elem false))
       | none => none)))

/-- append of a row that is made: n noughts -/
def aappendZ (elem xt : TypeId) (base : Option Addr) (sl sc : Nat) (x : Value) (h : Heap) : Option (Value × Heap) :=
  match und E xt, x, E.tab.get elem with
  | some (.int _), .int _ l, some i =>
    match i.zero with
    | some z =>
      cond (decide (0 ≤ l) && decide (l ≤ 100000) && !Nat.beq i.size 0 && Nat.beq z.cells.toList.length i.size && Nat.ble i.bytes 10000 && Nat.ble (sl + l.toNat) 100000 && (Nat.ble sl sc || !Nat.beq l.toNat 0))
        (cond (Nat.beq l.toNat 0) (some (.slice base sl sc, h)) (cond ((rep l.toNat z.cells.toList).all oneCell) (appendRow h elem i.size base sl sc l.toNat (rep l.toNat z.cells.toList)) none)) none
    | none => none
  | _, _, _ => none

def aappend (argTypes : List TypeId) (args : List Value) (h : Heap) : Option (Value × Heap) :=
  match argTypes, args with
  | st :: xt :: _, .slice base sl sc :: x :: _ =>
    match und E st, (und E xt).map isSeq with
    | some (.slice elem), some true =>
      match E.tab.get elem, lenOf x with
      | some i, some n =>
        match i.zero with
        | some z =>
          cond (!Nat.beq i.size 0 && Nat.beq z.cells.toList.length i.size && Nat.ble i.bytes 10000 && Nat.ble (sl + n) 100000 && (Nat.ble sl sc || !Nat.beq n 0))
            (cond (Nat.beq n 0) (some (.slice base sl sc, h)) (match firstCells h i.size n x with
              | some new => cond (new.all oneCell) (appendRow h elem i.size base sl sc n new) none
              | none => none)) none
        | none => none
      | _, _ => none
    | some (.slice elem), some false => aappendZ E elem xt base sl sc x h
    | _, _ => none
  | _, _ => none

def acopy (argTypes : List TypeId) (args : List Value) (h : Heap) : Option (Value × Heap) :=
  match argTypes, args with
  | dt :: _, .slice base dl _ :: x :: _ =>
    match und E dt with
    | some (.slice elem) => match size E elem, lenOf x with
      | some sz, some m =>
        match firstCells h sz (min m dl) x with
        | some l => match base with
          | some a => cond (l.all oneCell) ((writeCells h a l).map fun h => (.int .i64 ↑(min m dl), h)) none
          | none => some (.int .i64 ↑(min m dl), h)
        | none => none
      | _, _ => none
    | _ => none
  | _, _ => none

/-- a row's cells, made noughts -/
def aclear (argTypes : List TypeId) (args : List Value) (h : Heap) : Option (Value × Heap) :=
  match argTypes, args with
  | t :: _, .slice base n _ :: _ =>
    match und E t with
    | some (.slice elem) => match base, zero E elem with
      | none, _ => some (.tuple #[], h)
      | some a, some z => cond (!Nat.beq z.cells.toList.length 0 && (rep n z.cells.toList).all oneCell) ((writeCells h a (rep n z.cells.toList)).map fun h => (.tuple #[], h)) none
      | _, _ => none
    | _ => none
  | _, _ => none

def byteIn : Value → Option UInt8
  | .int .u8 n => cond (decide (0 ≤ n) && decide (n < 256)) (some (UInt8.ofNat n.toNat)) none
  | _ => none
/-- a row's bytes as a string: the row is not looked at any more -/
def aunsafeString (argTypes : List TypeId) (args : List Value) (h : Heap) : Option (Value × Heap) :=
  match argTypes, args with
  | [_, _], [.pointer none, .int .i64 n] => cond (decide (n = 0)) (some (.string .empty, h)) none
  | [pt, _], [.pointer (some ⟨i, 0, none⟩), .int .i64 n] =>
    match und E pt, h.b.get i with
    | some (.pointer e), some (.cells cs e' _) =>
      match size E e with
      | some 1 => cond (Nat.beq e e' && decide (0 < n) && decide (n ≤ 9223372036854775807) && Nat.blt i h.n) (match takeN n.toNat cs with
        | some l => match mapOpt byteIn l with
          | some bs => some (.string ⟨bs.toArray⟩, { h with b := h.b.set i .dead })
          | none => none
        | none => none) none
      | _ => none
    | _, _ => none
  | _, _ => none

def amax2 (mx : Bool) : Value → Value → Option Value
  | .int k x, .int _ y => some (.int k (cond mx (if y > x then y else x) (if y < x then y else x)))
  | _, _ => none
def afold (f : Value → Value → Option Value) : Value → List Value → Option Value
  | x, [] => some x
  | x, y :: l => match f x y with | some z => afold f z l | none => none

def arange (t : TypeId) (x : Value) (h : Heap) : Option (Value × Heap) :=
  match und E t, x with
  | some .string, .string s => some (.pointer (some ⟨h.n, 0, none⟩), newBlk h (.siter s 0))
  | some (.map _ _), .map none => some (.pointer (some ⟨h.n, 0, none⟩), newBlk h (.miter none 0 [] 0))
  | some (.map _ _), .map (some m) => match getMap h x with
    | some (_, c) => some (.pointer (some ⟨h.n, 0, none⟩), newBlk h (.miter (some m) c [] c))
    | none => none
  | _, _ => none

def anext (it : Value) (str : Bool) (h : Heap) : Option (Value × Heap) :=
  match it with
  | .pointer (some ⟨r, 0, _⟩) =>
    match h.b.get r, str with
    | some (.siter s pos), true =>
      cond (Nat.blt pos s.size)
        (let (c, w) := Utf8.decode s pos
         some (.tuple #[.bool true, .int .i64 pos, .int .i32 c], { h with b := h.b.set r (.siter s (pos + w)) }))
        (some (.tuple #[.bool false], h))
    | some (.miter none _ _ _), false => some (.tuple #[.bool false], h)
    | some (.miter (some m) since seen last), false =>
      match getMap h (.map (some m)) with
      | some (es, c) =>
        cond (!seen.isEmpty && !es.isEmpty && es.all (fun e => Nat.ble last e.2.2)) none (
        let left := es.filter fun e => !seen.contains e.2.2
        match left with
        | [] => some (.tuple #[.bool false], h)
        | [(k, v, b)] => cond (Nat.blt b since)
            (some (.tuple #[.bool true, k, v], { h with b := h.b.set r (.miter (some m) since (seen ++ [b]) c) })) none
        | _ => none)
      | none => none
    | _, _ => none
  | _ => none

def entAt : List (Value × Value × Nat) → Nat → Option (Value × Value)
  | [], _ => none
  | e :: es, b => cond (Nat.beq e.2.2 b) (some (e.1, e.2.1)) (entAt es b)
/-- the entry at which an iterator stands -/
def lastN : List Nat → Option Nat
  | [] => none
  | [x] => some x
  | _ :: l => lastN l
/-- the entry at which an iterator stands -/
def curOf : Option Blk → Option (Nat × Nat × Nat)
  | some (.mcur m b c) => some (m, b, c)
  | some (.miter (some m) _ l c) => (lastN l).map fun b => (m, b, c)
  | _ => none
def aentry (it : Value) (h : Heap) : Option Value :=
  match it with
  | .pointer (some ⟨r, 0, none⟩) =>
    match curOf (h.b.get r) with
    | some (m, b, c) => match getMap h (.map (some m)) with
      | some (es, clock) => cond (Nat.beq c clock) ((entAt es b).map fun p => .tuple #[p.1, p.2]) none
      | none => none
    | _ => none
  | _ => none

def atypeAssert (x : Value) (asserted : TypeId) (ok : Bool) : Option Value :=
  match und E asserted, x with
  | some (.interface _), _ | some .invalid, _ => none
  | some _, .nilIface => cond ok ((zero E asserted).map fun z => .tuple #[z, .bool false]) none
  | some _, .iface t v => cond (Nat.beq t asserted) (some (cond ok (.tuple #[v, .bool true]) v)) (cond ok ((zero E asserted).map fun z => .tuple #[z, .bool false]) none)
  | _, _ => none

def ev (E : Env) (fr : Fr) : Operand → Option Value
  | .tmp t => fr.get t
  | .const v => cond (constOk v) (some v) none
  | .global g => cond (Nat.blt g E.ng) (some (.pointer (some ⟨g, 0, none⟩))) none
  | .func f => some (.func (.func f) #[] #[])

/-- whom a call calls: the function, its arguments -/
def target (fr : Fr) (c : Call) : Option (Fn × List Value) :=
  match mapOpt (ev E fr) c.args.toList with
  | none => none
  | some args => match c.callee with
    | .value f => match ev E fr f with
      | some (.func (.func g) first captured) => some (.func g, first.toList ++ args ++ captured.toList)
      | some (.func (.yield l) _ _) => some (.yield l, args)
      | _ => none
    | _ => none

inductive OpK where
  | pure | read | alloc | act

def isConst : Operand → Bool
  | .const _ => true
  | _ => false

def kindOf : Op → OpK
  | .move _ | .assign _ | .pick .. | .build .. | .nilCheck _ | .binOp .. | .unOp .. | .makeInterface .. | .makeFunc .. | .slice .. | .fieldAddr ..
  | .field .. | .indexAddr .. | .index .. | .typeAssert .. | .extract .. => .pure
  | .convert s d _ => match und E s with
    | some (.slice _) => .read
    | some .string => (match und E d with | some (.slice _) => .act | _ => .pure)
    | _ => .pure
  | .load .. | .lookup .. => .read
  | .alloc _ | .box .. | .buildSlice .. | .makeMap .. | .makeSlice .. => .alloc
  | .call c => match c.callee with
    | .builtin .len => match c.argTypes.toList with
      | t :: _ => match und E t with | some (.map ..) => .read | _ => .pure
      | _ => .act
    | .builtin .max | .builtin .min | .builtin .cap | .builtin .unsafeSliceData => .pure
    | .value (.func f) => cond (E.qf f) .pure .act
    | _ => .act
  | _ => .act

def evs (fr : Fr) (xs : Array Operand) : Option (List Value) := mapOpt (ev E fr) xs.toList
def evp (fr : Fr) (ps : Array (Nat × Operand)) : Option (List (Nat × Value)) := mapOpt (fun (p : Nat × Operand) => (ev E fr p.2).map (p.1, ·)) ps.toList
def evo (fr : Fr) : Option Operand → Option (Option Value)
  | none => some none
  | some y => (ev E fr y).map some

/-- where a row's cells are -/
def asliceData : Value → Option Value
  | .slice none _ _ => some (.pointer none)
  | .slice (some a) n c => cond ((Nat.beq c UNK && Nat.blt 0 n) || (Nat.blt 0 c && Nat.blt c UNK)) (some (.pointer (some a))) none
  | _ => none

def isYield : Fn → Bool
  | .yield _ => true
  | _ => false

/-- an operation that looks at its operands alone -/
def pureOp (fr : Fr) (o : Oper) : Option Value :=
  match o.op with
  | .move x | .assign x => ev E fr x
  | .pick c a b => match ev E fr c with
    | some (.bool true) => ev E fr a
    | some (.bool false) => ev E fr b
    | _ => none
  | .build t ps => match evp E fr ps with | some l => abuild E t l | none => none
  | .nilCheck x => match ev E fr x with
    | some (.pointer (some a)) => some (.pointer (some a))
    | some (.iface t v) => some (.iface t v)
    | some (.func (.func f) a b) => some (.func (.func f) a b)
    | some (.func (.yield l) a b) => some (.func (.yield l) a b)
    | _ => none
  | .binOp op t x y _ => match ev E fr x, ev E fr y with
    | some .nilIface, some .nilIface => cond (isConst x || isConst y) (abin E op t .nilIface .nilIface) none
    | some a, some b => abin E op t a b
    | _, _ => none
  | .unOp op _ x => match ev E fr x with | some v => aun op v | none => none
  | .convert s d x => match ev E fr x with | some v => aconvert E s d v | none => none
  | .makeInterface t x => match ev E fr x, und E t with
    | _, some (.interface _) | _, some .invalid => none
    | some v, some _ => some (.iface t v)
    | _, _ => none
  | .makeFunc fn first cap => match isYield fn, evs E fr first, evs E fr cap with
    | false, some a, some b => some (.func fn a.toArray b.toArray)
    | _, _, _ => none
  | .slice t x lo hi mx => match ev E fr x, evo E fr lo, evo E fr hi, evo E fr mx with
    | some x, some lo, some hi, some mx => asliceS E t x lo hi mx
    | _, _, _, _ => none
  | .fieldAddr s x f => match ev E fr x with | some x => afieldAddr E s x f | none => none
  | .field t x f => match ev E fr x with | some x => afield E t x f | none => none
  | .indexAddr t x i => match ev E fr x, ev E fr i with | some x, some i => aindexAddr E t x i | _, _ => none
  | .index t x i => match ev E fr x, ev E fr i with | some x, some i => aindex E t x i | _, _ => none
  | .typeAssert x _ t ok => match ev E fr x with | some x => atypeAssert E x t ok | none => none
  | .extract t i => match ev E fr t with | some (.tuple vs) => nth vs.toList i | _ => none
  | .call c => match c.callee with
    | .builtin .len => match c.argTypes.toList, evs E fr c.args with | t :: _, some (x :: _) => alen E t x | _, _ => none
    | .builtin .cap => match c.argTypes.toList, evs E fr c.args with | t :: _, some (x :: _) => acap E t x | _, _ => none
    | .builtin .max => match evs E fr c.args with | some (x :: l) => afold (amax2 true) x l | _ => none
    | .builtin .min => match evs E fr c.args with | some (x :: l) => afold (amax2 false) x l | _ => none
    | .builtin .unsafeSliceData => match evs E fr c.args with | some [x] => asliceData x | _ => none
    | _ => none
  | _ => none

/-- numbers with a point: the word of an operation of theirs -/
def fbin (op : BinOp) : Value → Value → Option Value
  | .float .f64 a, .float .f64 b => fop op a b
  | .float .f64 _, .chan none | .chan none, .float .f64 _ | .chan none, .chan none => fopN op
  | _, _ => none
/-- a call of a function that leaves memory alone -/
def qcall (fr : Fr) (c : Call) : Option Value :=
  match c.callee with
  | .value (.func f) => cond (E.qf f) (match evs E fr c.args with | some l => E.qc f l | none => none) none
  | _ => none
def flOp (fr : Fr) (o : Oper) : Option Value :=
  match o.op with
  | .binOp op _ x y _ => match ev E fr x, ev E fr y with
    | some a, some b => fbin op a b
    | _, _ => none
  | .call c => qcall E fr c
  | _ => none
def valOp (fr : Fr) (o : Oper) : Option Value :=
  match flOp E fr o with
  | some v => some v
  | none => pureOp E fr o

/-- one that reads memory -/
def readOp (fr : Fr) (o : Oper) (h : Heap) : Option Value :=
  match o.op with
  | .load t a => match ev E fr a with | some x => loadAt E t x h | none => none
  | .lookup t x i ok => match ev E fr x, ev E fr i with | some x, some i => alookup E t x i ok h | _, _ => none
  | .convert s d x => match ev E fr x with | some v => aconvertR E s d v h | none => none
  | .call c => match c.callee with
    | .builtin .len => match c.argTypes.toList, evs E fr c.args with | t :: _, some (x :: _) => alenR E t x h | _, _ => none
    | _ => none
  | _ => none

def varBlk (t : TypeId) (v : Value) : Option (Blk × (Nat → Value)) :=
  cond (v.cells.toList.all oneCell) (some (.cells v.cells.toList t true, fun b => .pointer (some ⟨b, 0, none⟩))) none

/-- one that makes a block -/
def allocOp (fr : Fr) (o : Oper) : Option (Blk × (Nat → Value)) :=
  match o.op with
  | .alloc t => match zero E t with | some z => varBlk t z | none => none
  | .box t x => match ev E fr x with | some v => varBlk t v | none => none
  | .buildSlice t n ps => match evp E fr ps with | some l => abuildSlice E t n l | none => none
  | .makeSlice t l c => match ev E fr l, ev E fr c with
    | some l, some c => amakeSlice E t l c
    | _, _ => none
  | .makeMap t r => match r, und E t with
    | none, some _ => some (cond (E.smap t) (.smap []) (.map [] 0), fun b => .map (some b))
    | some x, some (.map _ _) => match ev E fr x with
      | some (.int _ _) => some (cond (E.smap t) (.smap []) (.map [] 0), fun b => .map (some b))
      | _ => none
    | _, _ => none
  | _ => none

def bytesV (s : ByteArray) : List Value := s.data.toList.map fun b => .int .u8 (b.toNat : Int)
/-- a string's bytes, in a row of their own, that is read alone -/
def asbytes (src dst : TypeId) (x : Value) (h : Heap) : Option (Value × Heap) :=
  match und E src, und E dst, x with
  | some .string, some (.slice e), .string s => match und E e with
    | some (.int .u8) => cond (!Nat.beq s.size 0 && Nat.ble s.size 100000) (some (.slice (some ⟨h.n, 0, none⟩) s.size UNK, { n := h.n + 1, b := h.b.set h.n (.ro fun j => nth (bytesV s) j) })) none
    | _ => none
  | _, _, _ => none
/-- one that turns memory, and is no call of a function -/
def actOp (fr : Fr) (o : Oper) (h : Heap) : Option (Value × Heap) :=
  match o.op with
  | .store t a x => match ev E fr a, ev E fr x with
    | some a, some v => (storeAt E t a v h).map fun h => (undef, h)
    | _, _ => none
  | .mapUpdate t m k x | .insert t m k x => match ev E fr m, ev E fr k, ev E fr x with
    | some m, some k, some x => (amapUpdate E t m k x h).map fun h => (undef, h)
    | _, _, _ => none
  | .mapEntry t m k => match ev E fr m, ev E fr k with
    | some m, some k => amapEntry E t m k h
    | _, _ => none
  | .entryStore _ m s x => match ev E fr m, ev E fr s, ev E fr x with
    | some m, some s, some x => (aentryStore m s x h).map fun h => (undef, h)
    | _, _, _ => none
  | .convert s d x => match ev E fr x with | some x => asbytes E s d x h | none => none
  | .range t x => match ev E fr x with | some x => arange E t x h | none => none
  | .next it s => match ev E fr it with | some x => anext x s h | none => none
  | .entry it => match ev E fr it with | some x => (aentry x h).map (·, h) | none => none
  | .call c => match c.callee with
    | .builtin b => match evs E fr c.args with
      | none => none
      | some args => match b with
        | .append => aappend E c.argTypes.toList args h
        | .copy => acopy E c.argTypes.toList args h
        | .clear => aclear E c.argTypes.toList args h
        | .unsafeString => aunsafeString E c.argTypes.toList args h
        | .delete => match c.argTypes.toList, args with | t :: _, m :: k :: _ => (adelete E t m k h).map fun h => (undef, h) | _, _ => none
        | _ => none
    | _ => none
  | _ => none

inductive Ex where
  | normal
  | exit (id : Nat)
  | ret

/-- a region's plan: its operations in an order, each with the reads that are looked at again behind it -/
structure Item where
  i : Nat
  again : List Nat

def beforeOf : List Oper → List Nat → List Nat
  | [], acc => acc
  | o :: os, acc => beforeOf os (acc ++ [o.after.toList.foldl (fun s e => cond (Region.binds .any e) (s ||| 2 ^ e.on ||| (nth acc e.on).getD 0) s) 0])

def isAct (o : Oper) : Bool := match kindOf E o.op with | .act => true | _ => false
def isRead (o : Oper) : Bool := match kindOf E o.op with | .read => true | _ => false

/-- how many acts must be done ahead -/
def stageOf (acts : List Nat) (b : Nat) : Nat := acts.foldl (fun n a => cond (b.testBit a) (n + 1) n) 0

def planOf (ops : List Oper) (bs : List Nat) : List Item :=
  let rows := (ops.zip bs).zipIdx.map fun ((o, b), i) => (i, b, isAct E o, isRead E o)
  let acts := (rows.filter fun r => r.2.2.1).map (·.1)
  let staged := rows.map fun r => (stageOf acts r.2.1, r)
  (List.range (acts.length + 1)).flatMap fun s =>
    (staged.filter fun r => Nat.beq r.1 s && !r.2.2.2.1).map (fun r => { i := r.2.1, again := [] : Item }) ++
    (staged.filter fun r => Nat.beq r.1 s && r.2.2.2.1).map fun r =>
      { i := r.2.1, again := (staged.filter fun q => Nat.ble q.1 s && q.2.2.2.2 && !(r.2.2.1).testBit q.2.1).map (·.2.1) }

def tmpOf : Operand → List Nat
  | .tmp t => [t]
  | _ => []
/-- the slots that an operation looks at -/
def looks (ops : List Oper) (o : Oper) : List Nat :=
  (match o.guard with | some (j, _) => (match (nth ops j).bind (·.dst) with | some d => [d] | none => []) | none => []) ++ o.op.operands.toList.flatMap tmpOf
def writes (o : Oper) (t : Nat) : Bool := match o.dst with | some d => Nat.beq d t | none => false

/-- slots are written once; whoever writes what another looks at stands in an order with it -/
def slotsOk (ops : List Oper) (bs : List Nat) : Bool :=
  (ops.zip bs).zipIdx.all fun p => (looks ops p.1.1).all fun t => (ops.zip bs).zipIdx.all fun q => !writes q.1.1 t || Nat.beq p.2 q.2 || p.1.2.testBit q.2 || q.1.2.testBit p.2
def onceOk : List Oper → Bool
  | [] => true
  | o :: os => (match o.dst with | some d => os.all fun q => !writes q d | none => true) && onceOk os
def againFine (ops : List Oper) (bs : List Nat) (done : Nat) (r : Nat) : Bool :=
  match nth ops r, nth bs r with
  | some o, some b => (looks ops o).all fun t => ops.zipIdx.all fun q => !writes q.1 t || b.testBit q.2 || !done.testBit q.2
  | _, _ => false
def walkOk (mm : Bool) (ops : List Oper) (bs : List Nat) : List Item → (done acts : Nat) → (rds : List Nat) → Bool
  | [], done, _, _ => (List.range ops.length).all fun i => done.testBit i
  | x :: xs, done, acts, rds =>
    match nth ops x.i, nth bs x.i with
    | some o, some b =>
      !done.testBit x.i && (o.after.toList.all fun e => !Region.binds .any e || done.testBit e.on) && Nat.beq (acts &&& b) acts &&
      cond (isAct E o)
        ((rds.all fun r => b.testBit r || x.again.contains r) && (x.again.all fun r => rds.contains r && againFine ops bs done r) && walkOk mm ops bs xs (done ||| 2 ^ x.i) (cond mm (acts ||| 2 ^ x.i) acts) rds)
        (walkOk mm ops bs xs (done ||| 2 ^ x.i) acts (cond (isRead E o) (x.i :: rds) rds))
    | _, _ => false
def planOk (mm : Bool) (ops : List Oper) (bs : List Nat) (pl : List Item) : Bool := slotsOk ops bs && onceOk ops && walkOk E mm ops bs pl 0 0 []

def wantedA (ops : List Oper) (fr : Fr) (o : Oper) : Option Bool :=
  match o.guard with
  | none => some true
  | some (j, w) => match (nth ops j).bind (·.dst) with
    | some d => match fr.get d with
      | some (.bool b) => some (b == w)
      | some _ => some false
      | none => none
    | none => some false
def put (nt : Nat) (fr : Fr) (o : Oper) (v : Value) : Option Fr := match o.dst with | some d => cond (Nat.blt d nt) (some (fr.set d v)) none | none => some fr

/-- an operation, a call by 'call' -/
def opBy (call : Fn → List Value → Heap → Option (Value × Heap)) (fr : Fr) (o : Oper) (h : Heap) : Option (Value × Heap) :=
  match kindOf E o.op with
  | .pure => (valOp E fr o).map (·, h)
  | .read => (readOp E fr o h).map (·, h)
  | .alloc => (allocOp E fr o).map fun p => (p.2 h.n, newBlk h p.1)
  | .act => match o.op with
    | .call c => match c.callee with
      | .builtin _ => actOp E fr o h
      | _ => match target E fr c with
        | some (f, args) => call f args h
        | none => none
    | _ => actOp E fr o h

def step (call : Fn → List Value → Heap → Option (Value × Heap)) (nt : Nat) (ops : List Oper) (fr : Fr) (o : Oper) (h : Heap) : Option (Fr × Heap) :=
  match wantedA ops fr o with
  | none => none
  | some false => (put nt fr o undef).map (·, h)
  | some true => match opBy E call fr o h with
    | some p => (put nt fr o p.1).map (·, p.2)
    | none => none

def againOk (ops : List Oper) (fr : Fr) (h : Heap) : List Nat → Bool
  | [] => true
  | i :: l => (match nth ops i with
    | none => false
    | some o => match wantedA ops fr o with
      | none => false
      | some false => true
      | some true => match readOp E fr o h, o.dst.bind fr.get with
        | some v, some v' => sameV 50 v v'
        | _, _ => false) && againOk ops fr h l

def stepsText (call : Fn → List Value → Heap → Option (Value × Heap)) (nt : Nat) (all : List Oper) : List Oper → Fr → Heap → Option (Fr × Heap)
  | [], fr, h => some (fr, h)
  | o :: os, fr, h => match step E call nt all fr o h with
    | some (fr, h) => stepsText call nt all os fr h
    | none => none
/-- a text in which something is deferred: no call in it -/
def deferOp (fr : Fr) (o : Oper) : Bool :=
  match o.op with
  | .defer c => match target E fr c with
    | some (.func g, _) => E.dfr g
    | _ => false
  | _ => false
def isDefer (o : Oper) : Bool := match o.op with | .defer _ => true | _ => false
def stepsDefer (nt : Nat) (all : List Oper) : List Oper → Fr → Heap → Option (Fr × Heap)
  | [], fr, h => some (fr, h)
  | o :: os, fr, h => match (cond (isDefer o) (match wantedA all fr o with
      | some true => cond (deferOp E fr o) ((put nt fr o undef).map (·, h)) none
      | _ => none) (step E (fun _ _ _ => none) nt all fr o h)) with
    | some (fr, h) => stepsDefer nt all os fr h
    | none => none
def stepsPlan (call : Fn → List Value → Heap → Option (Value × Heap)) (nt : Nat) (all : List Oper) : List Item → Fr → Heap → Option (Fr × Heap)
  | [], fr, h => some (fr, h)
  | x :: xs, fr, h => match nth all x.i with
    | none => none
    | some o => match step E call nt all fr o h with
      | some (fr1, h1) => cond (Nat.ble h.n h1.n && againOk E all fr1 h1 x.again) (stepsPlan call nt all xs fr1 h1) none
      | none => none

/-- a region's plan, if it is one -/
def planned (ops : List Oper) : Option (List Item) :=
  let bs := beforeOf ops []
  let pl := planOf E ops bs
  cond (planOk E true ops bs pl) (some pl) none

/-- an entry of a map's literal -/
def isIns (o : Oper) : Bool :=
  match o.op, o.guard, o.dst with
  | .insert .., none, none => true
  | _, _, _ => false
def actIt (ops : List Oper) (x : Item) : Bool := match nth ops x.i with | some o => isAct E o | none => false
def insIt (ops : List Oper) (x : Item) : Bool := match nth ops x.i with | some o => isIns o | none => false
def itsOf (ops : List Oper) : List Item := (List.range ops.length).map fun i => { i := i, again := [] }
def isLoad (o : Oper) : Bool := match o.op with | .load .. => true | _ => false
def loadIt (ops : List Oper) (i : Nat) : Bool := match nth ops i with | some o => isLoad o | none => false
/-- an entry, with the loads that stand in no order with it -/
def withLoads (ops : List Oper) (bs : List Nat) (q : List Item) (x : Item) : Item :=
  { i := x.i, again := match nth bs x.i with
    | some b => (q.filter fun y => loadIt ops y.i && !b.testBit y.i).map (·.i)
    | none => [] }
def behindAll (bs : List Nat) (a : List Item) (x : Item) : Bool := match nth bs x.i with | some b => a.all fun y => b.testBit y.i | none => false
/-- a region whose acts are entries alone, in whatever order -/
def plannedI (ops : List Oper) : Option (List Item × List Item × List Item) :=
  let bs := beforeOf ops []
  let a := (itsOf ops).filter (actIt E ops)
  let q := ((itsOf ops).filter fun x => !actIt E ops x).filter fun x => !behindAll bs a x
  let z := ((itsOf ops).filter fun x => !actIt E ops x).filter (behindAll bs a)
  let a := a.map (withLoads ops bs q)
  cond (planOk E false ops bs (q ++ (a ++ z)) && a.all (insIt ops) && a.all (fun x => x.again.all (loadIt ops)) && q.all (fun x => !actIt E ops x) && z.all (fun x => !actIt E ops x && behindAll bs a x)) (some (q, a, z)) none
/-- they are all of one map without an order -/
def insOne (fr : Fr) (t r : Nat) (o : Oper) : Bool :=
  match o.op with
  | .insert t' m _ _ => Nat.beq t t' && match ev E fr m with
    | some (.map (some r')) => Nat.beq r r'
    | _ => false
  | _ => false
def insMap (fr : Fr) : Option Oper → Option (Nat × Nat)
  | some o => match o.op with
    | .insert t m _ _ => match ev E fr m with
      | some (.map (some r)) => some (t, r)
      | _ => none
    | _ => none
  | none => none
def isSmap (h : Heap) (r : Nat) : Bool := match getSmap h (.map (some r)) with | some _ => true | none => false
def insAll (ops : List Oper) (fr : Fr) (h : Heap) (a : List Item) : Bool :=
  match a with
  | [] => false
  | x :: _ => match insMap E fr (nth ops x.i) with
    | some (t, r) => isSmap h r && a.all fun y => match nth ops y.i with | some o => insOne E fr t r o | none => false
    | none => false

def iter (f : Fr → Heap → Option (Ex × Fr × Heap)) : Nat → Fr → Heap → Option (Ex × Fr × Heap)
  | 0, _, _ => none
  | n + 1, fr, h => match f fr h with
    | some (.normal, fr, h) => iter f n fr h
    | r => r

def getBlk (h : Heap) (l : Nat) : Option Blk := cond (Nat.blt l h.n) (h.b.get l) none
def inRound (h : Heap) : Option Nat → Bool
  | none => true
  | some l => match getBlk h l with | some (.loop ..) => true | _ => false
def setBlk (h : Heap) (l : Nat) (k : Blk) : Heap := { h with b := h.b.set l k }
/-- behind the function that was ranged over -/
def endLoopA (h : Heap) (l : Nat) (fr : Fr) : Option (Ex × Fr × Heap) :=
  match getBlk h l with
  | some (.loop .busy _ _ _ _ _ _) => none
  | some (.loop _ none f n p a b) => some (.normal, fr, setBlk h l (.loop .exhausted none f n p a b))
  | some (.loop _ (some .ret) f n p a b) => some (.ret, fr, setBlk h l (.loop .exhausted (some .ret) f n p a b))
  | some (.loop _ (some (.exit id)) f n p a b) => some (.exit id, fr, setBlk h l (.loop .exhausted (some (.exit id)) f n p a b))
  | _ => none

/-! a range over a map whose entries come in whatever order -/
/-- what an operation reads -/
def opRd : Op → List Operand
  | .call c => (match c.callee with | .value f => [f] | .invoke r _ => [r] | .builtin _ => []) ++ c.args.toList
  | .makeFunc _ a b => a.toList ++ b.toList
  | .slice _ x l h m => x :: (l.toList ++ (h.toList ++ m.toList))
  | o => o.operands.toList
def newTmps (W : List Nat) : List Operand → List Nat → List Nat
  | [], R => R
  | .tmp t :: os, R => cond (W.any (Nat.beq t)) (newTmps W os R) (t :: newTmps W os R)
  | _ :: os, R => newTmps W os R
/-- the slots that are read ahead of being written; those that are written -/
def rfO : List Oper → List Nat × List Nat → List Nat × List Nat
  | [], p => p
  | o :: os, (R, W) => rfO os (newTmps W (opRd o.op) R, match o.guard, o.dst with | none, some d => d :: W | _, _ => W)
def rfC : Code → List Nat × List Nat → List Nat × List Nat
  | .region _ ops _, p => rfO ops.toList p
  | .seq a b, p => rfC b (rfC a p)
  | .cond c a b, (R, W) => ((rfC a (newTmps W [c] R, W)).1 ++ (rfC b (R, W)).1, W)
  | .block _ b, p => rfC b p
  | .loop b, p => rfC b p
  | .scope b, p => rfC b p
  | _, p => p
def tmL : List Oper → List Nat
  | [] => []
  | o :: os => match o.op, o.dst with
    | .assign _, _ => tmL os
    | _, some d => d :: tmL os
    | _, none => tmL os
def tmC : Code → List Nat
  | .region _ ops _ => tmL ops.toList
  | .seq a b => tmC a ++ tmC b
  | .cond _ a b => tmC a ++ tmC b
  | .block _ b => tmC b
  | .loop b => tmC b
  | .scope b => tmC b
  | _ => []
/-- slots that are of no account where a round begins (a guess: nothing leans on it) -/
def dropD (ops : List Oper) (rest : Code) : List Nat :=
  match rfC rest (rfO ops ([], [])) with
  | (R, W) => tmL ops ++ (tmC rest ++ W.filter fun t => !R.any (Nat.beq t))
def eraseF (D : List Nat) (fr : Fr) : List Nat → Fr
  | [] => .leaf
  | t :: ts => cond (D.any (Nat.beq t)) (eraseF D fr ts) (match fr.get t with
    | some v => (eraseF D fr ts).set t v
    | none => eraseF D fr ts)
def sameFrame (nt : Nat) (fr0 fr : Fr) : Bool := (List.range nt).all fun t => match fr0.get t with
  | none => true
  | some v => match fr.get t with | some u => sameV 50 v u | none => false
def sameEs : List (Value × Value × Nat) → List (Value × Value × Nat) → Bool
  | [], [] => true
  | (k, v, b) :: l, (k', v', b') :: l' => sameV 50 k k' && sameV 50 v v' && Nat.beq b b' && sameEs l l'
  | _, _ => false
def sameSs : List (Nat × Value × Value) → List (Nat × Value × Value) → Bool
  | [], [] => true
  | (b, k, v) :: l, (b', k', v') :: l' => Nat.beq b b' && sameV 50 k k' && sameV 50 v v' && sameSs l l'
  | _, _ => false
/-- a block is as it was (one that is read alone always is) -/
def sameBlk : Option Blk → Option Blk → Bool
  | some (.cells a e x), some (.cells b e' x') => Nat.beq e e' && x == x' && sameV.go 50 a b
  | some (.map a c), some (.map b d) => Nat.beq c d && sameEs a b
  | some (.smap a), some (.smap b) => sameSs a b
  | some (.siter s p), some (.siter s' p') => eqStr s s' && Nat.beq p p'
  | some .dead, _ | some (.ro _), _ | some (.mcur ..), _ => true
  | _, _ => false
def quietH (r : Nat) (H h3 : Heap) : Bool := Nat.ble H.n h3.n && (List.range H.n).all fun i => Nat.beq i r || sameBlk (H.b.get i) (h3.b.get i)
def nodupB : List Nat → Bool
  | [] => true
  | x :: l => !l.any (Nat.beq x) && nodupB l
structure MHead where
  o0 : Oper
  tail : List Oper
  t : Nat
  r : Nat
  m : Nat
  es : List (Value × Value × Nat)
  c : Nat
def mapHead (E : Env) (ops : List Oper) (fr : Fr) (h : Heap) : Option MHead :=
  match ops with
  | [] => none
  | o0 :: tail => match o0.op, o0.guard with
    | .next (.tmp t) false, none => match fr.get t with
      | some (.pointer (some ⟨r, 0, none⟩)) => match h.b.get r with
        | some (.miter (some m) since [] last) => match getMap h (.map (some m)) with
          | some (es, c) => cond (Nat.blt r h.n && Nat.beq since c && Nat.beq last c && Nat.blt 1 es.length && Nat.blt es.length 1000 && es.all (fun e => Nat.blt e.2.2 c) && nodupB (es.map (·.2.2)) && !Nat.beq r m && !ops.any isDefer)
              (some ⟨o0, tail, t, r, m, es, c⟩) none
          | none => none
        | _ => none
      | _ => none
    | _, _ => none
def mround (body : Fr → Heap → Option (Ex × Fr × Heap)) (nt : Nat) (M : MHead) (fr0 : Fr) (H : Heap) (e : Value × Value × Nat) : Option (Fr × Heap) :=
  match put nt fr0 M.o0 (.tuple #[.bool true, e.1, e.2.1]) with
  | none => none
  | some f => match body f (setBlk H M.r (.mcur M.m e.2.2 M.c)) with
    | some (.normal, f3, h3) => some (f3, h3)
    | _ => none
def quietR (nt : Nat) (M : MHead) (fr0 : Fr) (H : Heap) (p : Fr × Heap) : Bool := quietH M.r H p.2 && sameFrame nt fr0 p.1
/-- the slots of the one, as the other has them -/
def keepF (fr0 f : Fr) : List Nat → Fr
  | [] => .leaf
  | t :: ts => match fr0.get t, f.get t with
    | some _, some v => (keepF fr0 f ts).set t v
    | _, _ => keepF fr0 f ts
def atR (M : MHead) (fr : Fr) : Bool := match fr.get M.t with
  | some (.pointer (some ⟨r, 0, none⟩)) => Nat.beq r M.r
  | _ => false
def mend (body : Fr → Heap → Option (Ex × Fr × Heap)) (nt : Nat) (M : MHead) (fr0 : Fr) (H : Heap) : Option (Ex × Fr × Heap) :=
  match put nt fr0 M.o0 (.tuple #[.bool false]) with
  | none => none
  | some f => match body f (setBlk H M.r .dead) with
    | some (.normal, _, _) => none
    | x => x
def mrounds (body : Fr → Heap → Option (Ex × Fr × Heap)) (nt : Nat) (M : MHead) (fr0 : Fr) (H : Heap) : List (Value × Value × Nat) → Option (List ((Value × Value × Nat) × Fr × Heap))
  | [] => some []
  | e :: es => match mround body nt M fr0 H e, mrounds body nt M fr0 H es with
    | some p, some l => some (cond (quietR nt M fr0 H p) l ((e, p) :: l))
    | _, _ => none
/-- all entries but one leave what was there as it was, before that one and behind it -/
def mapAll (body : Fr → Heap → Option (Ex × Fr × Heap)) (nt : Nat) (M : MHead) (fr0 : Fr) (H : Heap) : Option (Ex × Fr × Heap) :=
  cond (atR M fr0) (match mrounds body nt M fr0 H M.es with
  | none => none
  | some [] => mend body nt M fr0 H
  | some [(e, f1, h1)] => cond (Nat.ble H.n h1.n && sameBlk (H.b.get M.m) (h1.b.get M.m) && atR M (keepF fr0 f1 (List.range nt)) &&
      M.es.all (fun x => Nat.beq x.2.2 e.2.2 || match mround body nt M (keepF fr0 f1 (List.range nt)) h1 x with | some p => quietR nt M (keepF fr0 f1 (List.range nt)) h1 p | none => false)) (mend body nt M (keepF fr0 f1 (List.range nt)) h1) none
  | some _ => none) none
def code (call : Fn → List Value → Heap → Option (Value × Heap)) (nt : Nat) (rd : Option Nat) : Code → Fr → Heap → Option (Ex × Fr × Heap)
  | .skip, fr, h => some (.normal, fr, h)
  | .label _, fr, h => some (.normal, fr, h)
  | .region _ ops false, fr, h => cond (ops.toList.any isDefer) (cond rd.isNone ((stepsDefer E nt ops.toList ops.toList fr h).map fun (fr, h) => (.normal, fr, h)) none)
      ((stepsText E call nt ops.toList ops.toList fr h).map fun (fr, h) => (.normal, fr, h))
  | .region _ ops true, fr, h => match planned E ops.toList with
    | some pl => (stepsPlan E call nt ops.toList pl fr h).map fun (fr, h) => (.normal, fr, h)
    | none => match plannedI E ops.toList with
      | some (q, a, z) => match stepsPlan E call nt ops.toList q fr h with
        | some (fr1, h1) => cond (insAll E ops.toList fr1 h1 a) ((stepsPlan E call nt ops.toList (a ++ z) fr1 h1).map fun (fr, h) => (.normal, fr, h)) none
        | none => none
      | none => none
  | .seq a b, fr, h => match code call nt rd a fr h with
    | some (.normal, fr, h) => code call nt rd b fr h
    | r => r
  | .cond c a b, fr, h => match ev E fr c with
    | some (.bool true) => code call nt rd a fr h
    | some (.bool false) => code call nt rd b fr h
    | _ => none
  | .block id b, fr, h => match code call nt rd b fr h with
    | some (.exit j, fr, h) => some (cond (Nat.beq j id) .normal (.exit j), fr, h)
    | r => r
  | .loop (.seq (.region id ops false) rest), fr, h => match mapHead E ops.toList fr h with
    | none => iter (code call nt rd (.seq (.region id ops false) rest)) 1000000 fr h
    | some M => mapAll (fun fr h => match stepsText E call nt ops.toList M.tail fr h with | some (fr, h) => code call nt rd rest fr h | none => none) nt M (eraseF (dropD ops.toList rest) fr (List.range nt)) h
  | .loop b, fr, h => iter (code call nt rd b) 1000000 fr h
  | .scope b, fr, h => code call nt rd b fr h
  | .rangeFunc g ps assign body, fr, h =>
    cond (inRound h rd) (match ev E fr g with
      | some (.func (.func f) first cap) =>
        match E.ext f (first.toList ++ .func (.yield h.n) #[] #[] :: cap.toList) (newBlk h (.loop .ready none fr nt ps.toList assign body)) with
        | some _ => none
        | none => match call (.func f) (first.toList ++ .func (.yield h.n) #[] #[] :: cap.toList) (newBlk h (.loop .ready none fr nt ps.toList assign body)) with
          | some (_, h2) => endLoopA h2 h.n fr
          | none => none
      | _ => none) none
  | .exit id, fr, h => some (.exit id, fr, h)
  | .ret, fr, h => some (.ret, fr, h)
  | _, _, _ => none

def setAll : List Value → Nat → Fr → Fr
  | [], _, fr => fr
  | v :: l, i, fr => setAll l (i + 1) (fr.set i v)

def resOf (fr : Fr) (h : Heap) : ResultVar → Option Value
  | .tmp t => ev E fr (.tmp t)
  | .cell a t => match fr.get a with | some x => loadAt E t x h | none => none

def setPs (nt : Nat) : List Nat → List Value → Fr → Option Fr
  | [], [], fr => some fr
  | t :: ps, v :: vs, fr => cond (Nat.blt t nt) (setPs nt ps vs (fr.set t v)) none
  | _, _, _ => none
/-- behind a round -/
def endRoundA (h : Heap) (l : Nat) (ex : Ex) : Option (Value × Heap) :=
  match getBlk h l with
  | some (.loop .busy none f n p a b) => match ex with
    | .normal => some (.bool true, setBlk h l (.loop .ready none f n p a b))
    | .exit id => some (.bool false, setBlk h l (.loop .done (some (.exit id)) f n p a b))
    | .ret => some (.bool false, setBlk h l (.loop .done (some .ret) f n p a b))
  | _ => none
def beginRoundA (h : Heap) (l : Nat) : Option Heap :=
  match getBlk h l with
  | some (.loop .ready none f n p a b) => some (setBlk h l (.loop .busy none f n p a b))
  | _ => none

def callF : Nat → Fn → List Value → Heap → Option (Value × Heap)
  | 0, _, _, _ => none
  | d + 1, .func f, args, h =>
    match E.ext f args h with
    | some r => r
    | none => match E.funs.get f with
      | none => none
      | some fn => match fn.body with
        | none => none
        | some b => match code E (callF d) (max fn.ntmps args.length) none b (setAll args 0 .leaf) h with
          | some (.exit _, _, _) => none
          | some (_, fr, h) =>
            match mapOpt (resOf E fr h) fn.results.toList with
            | some [v] => some (v, h)
            | some vs => some (.tuple vs.toArray, h)
            | none => none
          | none => none
  | d + 1, .yield l, args, h =>
    match getBlk h l with
    | some (.loop .ready none fr nt ps assign body) => match setPs nt ps args fr with
      | none => none
      | some fr1 => match code E (callF d) nt (some l) assign fr1 h with
        | some (.normal, fr2, h2) => match beginRoundA h2 l with
          | none => none
          | some h3 => match code E (callF d) nt (some l) body fr2 h3 with
            | some (ex, _, h4) => endRoundA h4 l ex
            | none => none
        | _ => none
    | _ => none
  | _, _, _, _ => none
end

def zeroOk : Option Value → Option Value
  | some z => cond (constOk z) (some z) none
  | none => none
def tiOf (P : Program) (t : TypeId) (i : TypeInfo) : TI :=
  { desc := (P.underlying t).getD .invalid, size := i.size, bytes := i.bytes, zero := zeroOk i.zero, comparable := i.comparable, stood := P.stoodInHeld t }
def tabOf (P : Program) : List TypeInfo → Nat → List TI
  | [], _ => []
  | i :: l, t => tiOf P t i :: tabOf P l (t + 1)
def envOf (P : Program) (ng : Nat) (ext : FuncId → List Value → Heap → Option (Option (Value × Heap))) : Env :=
  { tab := T.ofList (tabOf P P.types.toList 0), funs := T.ofList P.funcs.toList, ng, ext }

end Go.Ev
