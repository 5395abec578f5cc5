/- THE EVALUATOR, part 'Op': a deterministic reading of the program's code over an abstract heap, and that the model does what it says. Conditions: none beyond each theorem's own. -/
import Derived.Test.YtfneaaapgpgdeaaDoorZInt
set_option linter.unusedSimpArgs false
set_option linter.unusedVariables false
namespace Go.Ev
section
variable {E : Env} {fr : Fr} {h : Heap} {K : Value → Heap → Prop} {x y z : Operand} {t t' : TypeId}

/-! one operand -/
def unK (op : UnOp) (v : Value) (K : Value → Prop) [Tok K] : Prop := onV (aun op v) K
theorem opW_un {op : UnOp} : opW E (.unOp op t x) fr h K = evK E fr x fun v => unK op v fun u => K u h := by
  rw [opW_pure rfl (by simp)]
  simp only [pureOp, operOf, evK, onV, unK]
  cases ev E fr x <;> simp
theorem un_not {b : Bool} {K : Value → Prop} : unK .not (.bool b) K = K (.bool !b) := by simp [unK, aun]
theorem un_neg {k : IntKind} {n : Int} {K : Value → Prop} : unK .neg (.int k n) K = K (.int k (k.wrap (0 - n))) := by simp [unK, aun]
theorem un_xor {k : IntKind} {n : Int} {K : Value → Prop} : unK .xor (.int k n) K = K (.int k (k.wrap (BitVec.ofInt k.bits (if k.signed then -1 else k.max) ^^^ BitVec.ofInt k.bits n).toNat)) := by simp [unK, aun]

def intK (E : Env) (t : TypeId) : Option IntKind := match und E t with | some (.int k) => some k | _ => none
def cintK (k : IntKind) (v : Value) (K : Value → Prop) [Tok K] : Prop := match v with | .int _ n => K (.int k (k.wrap n)) | _ => False
theorem opW_cint {k k' : IntKind} (h1 : intK E t = some k') (h2 : intK E t' = some k) : opW E (.convert t t' x) fr h K = evK E fr x fun v => cintK k v fun u => K u h := by
  unfold intK at h1 h2
  split at h1
  · rename_i k1 hu1
    split at h2
    · rename_i k2 hu2
      cases h2
      rw [opW_pure (by simp [kindOf, hu1]) (by simp)]
      simp only [pureOp, operOf, evK, onV, cintK]
      cases ev E fr x with
      | none => simp
      | some v => cases v <;> simp [aconvert, hu1, hu2]
    · cases h2
  · cases h1
theorem cint_int {k k' : IntKind} {n : Int} {K : Value → Prop} : cintK k (.int k' n) K = K (.int k (k.wrap n)) := Eq.trans rfl rfl
/-- bytes as a string -/
def isBytes (E : Env) (t t' : TypeId) : Bool := match und E t, und E t' with
  | some (.slice e), some .string => (match und E e with | some (.int .u8) => true | _ => false)
  | _, _ => false
def bstrK (h : Heap) (v : Value) (K : Value → Prop) [Tok K] : Prop := match v with
  | .slice none _ _ => K (.string .empty)
  | .slice (some a) n _ => onV (match cellsAt h a n with | some l => (mapOpt byteOf l).map fun l => (⟨l.toArray⟩ : ByteArray) | none => none) fun s => K (.string s)
  | _ => False
theorem opW_bstr (hb : isBytes E t t' = true) : opW E (.convert t t' x) fr h K = evK E fr x fun v => bstrK h v fun u => K u h := by
  unfold isBytes at hb
  split at hb
  · rename_i e hu1 hu2
    split at hb
    · rename_i hu3
      rw [opW_read (by simp [kindOf, hu1]) (by simp)]
      simp only [readOp, operOf, evK, onV, bstrK]
      cases ev E fr x with
      | none => simp
      | some v =>
        simp only [aconvertR, hu1, hu2, hu3]
        cases v with
        | slice a n c =>
          cases a with
          | none => simp
          | some a =>
            simp only [Option.some.injEq, exists_eq_left']
            generalize cellsAt h a n = r
            cases r with
            | none => simp
            | some l =>
              simp only
              generalize mapOpt byteOf l = q
              cases q <;> simp
        | _ => simp
    · cases hb
  · cases hb

/-! parts of aggregates -/
def fldPl (E : Env) (t : TypeId) (f : Nat) : Option (Nat × Option Nat) := match und E t with
  | some (.struct fields) => match nth fields.toList f with
    | some fd => match E.tab.get fd.type with
      | some i => match i.desc with
        | .struct _ | .array _ _ => some (fd.offset, some i.size)
        | .invalid => none
        | _ => some (fd.offset, none)
      | none => none
    | none => none
  | _ => none
def partV (off : Nat) (n : Option Nat) (v : Value) (K : Value → Prop) [Tok K] : Prop := match v, n with
  | .agg cs, none => onV (nth cs.toList off) K
  | .agg cs, some n => onV (takeN n (dropN cs.toList off)) fun l => K (.agg ⟨l⟩)
  | _, _ => False
theorem opW_field {f off : Nat} {n : Option Nat} (hp : fldPl E t f = some (off, n)) : opW E (.field t x f) fr h K = evK E fr x fun v => partV off n v fun u => K u h := by
  rw [opW_pure rfl (by simp)]
  simp only [pureOp, operOf, evK, onV, partV]
  cases ev E fr x with
  | none => simp
  | some v =>
    simp only [afield]
    unfold fldPl at hp
    split at hp
    · rename_i fields hu
      rw [hu]
      split at hp
      · rename_i fd hf
        cases v with
        | agg cs =>
          simp only [hf, partOf]
          split at hp
          · rename_i i hi
            rw [hi]
            cases hd : i.desc <;> simp only [hd] at hp ⊢ <;> first | (cases hp; done) | (cases hp; simp; done) | (cases hp; cases hc : takeN i.size (dropN cs.toList fd.offset) <;> simp [hc])
          · cases hp
        | _ => cases n <;> simp
      · cases hp
    · cases hp
theorem part_one {off : Nat} {l : List Value} {K : Value → Prop} : partV off none (.agg ⟨l⟩) K = onV l[off]? K := by simp only [partV, nth_eq]
theorem part_many {off n : Nat} {l r : List Value} {K : Value → Prop} (hl : (l.drop off).take n = r) (hr : r.length = n) : partV off (some n) (.agg ⟨l⟩) K = K (.agg ⟨r⟩) := by
  have tk : ∀ (n : Nat) (c : List Value), n ≤ c.length → takeN n c = some (c.take n) := by
    intro n
    induction n with
    | zero => intro c _; rfl
    | succ n ih =>
      intro c hc
      cases c with
      | nil => simp at hc
      | cons a c => simp only [takeN, ih c (by simpa using hc), Option.map_some, List.take_succ_cons]
  simp only [partV, dropN_eq]
  rw [tk _ _ (by rw [← hl] at hr; simp at hr; simp; omega), hl, onV_some']
def extK (i : Nat) (v : Value) (K : Value → Prop) [Tok K] : Prop := match v with | .tuple cs => onV cs.toList[i]? K | _ => False
theorem opW_extract {i : Nat} : opW E (.extract x i) fr h K = evK E fr x fun v => extK i v fun u => K u h := by
  rw [opW_pure rfl (by simp)]
  simp only [pureOp, operOf, evK, onV, extK]
  cases ev E fr x with
  | none => simp
  | some v => cases v <;> simp [nth_eq]
theorem ext_tuple {i : Nat} {l : List Value} {K : Value → Prop} : extK i (.tuple ⟨l⟩) K = onV l[i]? K := Eq.trans rfl rfl

/-! values made -/
theorem opW_makeFunc {fn : Fn} {f c : List Operand} (hy : isYield fn = false) : opW E (.makeFunc fn ⟨f⟩ ⟨c⟩) fr h K = evsK E fr f fun fs => evsK E fr c fun cs => K (.func fn ⟨fs⟩ ⟨cs⟩) h := by
  rw [opW_pure rfl (by simp)]
  simp only [pureOp, operOf, evsK, evs, onV]
  cases mapOpt (ev E fr) f with
  | none => simp
  | some fs => cases mapOpt (ev E fr) c <;> simp [hy]
theorem opW_makeFuncF {g : FuncId} {f c : List Operand} : opW E (.makeFunc (.func g) ⟨f⟩ ⟨c⟩) fr h K = evsK E fr f fun fs => evsK E fr c fun cs => K (.func (.func g) ⟨fs⟩ ⟨cs⟩) h := opW_makeFunc rfl
def placesOf (E : Env) (t : TypeId) : Option (List Value × List (Nat × Nat)) := match zero E t, und E t with
  | some z, some (.struct fields) => (mapOpt (fun f => (size E f.type).map (f.offset, ·)) fields.toList).map fun p => (z.cells.toList, p)
  | _, _ => none
def bdK (zs : List Value) (pl : List (Nat × Nat)) (ps : List (Nat × Value)) (K : Value → Prop) [Tok K] : Prop := onV (fillL (nth pl) zs ps) fun l => K (.agg ⟨l⟩)
theorem opW_build {zs : List Value} {pl : List (Nat × Nat)} {ps : List (Nat × Operand)} (hp : placesOf E t = some (zs, pl)) : opW E (.build t ⟨ps⟩) fr h K = evpK E fr ps fun l => bdK zs pl l fun u => K u h := by
  unfold placesOf at hp
  split at hp
  · rename_i z fields hz hu
    simp only [Option.map_eq_some_iff, Prod.mk.injEq] at hp
    obtain ⟨p, hp, rfl, rfl⟩ := hp
    rw [opW_pure rfl (by simp)]
    simp only [pureOp, operOf, evp, evpK, onV, bdK]
    cases mapOpt (fun (p : Nat × Operand) => (ev E fr p.2).map (p.1, ·)) ps with
    | none => simp
    | some l =>
      simp only [abuild, hz, hu, hp, Option.some.injEq, exists_eq_left']
      generalize fillL (nth p) z.cells.toList l = r
      cases r <;> simp
  · cases hp
theorem bd_of {zs l : List Value} {pl : List (Nat × Nat)} {ps : List (Nat × Value)} {K : Value → Prop} (hf : fillL (nth pl) zs ps = some l) (k : K (.agg ⟨l⟩)) : bdK zs pl ps K := by
  unfold bdK; rw [hf, onV_some']; exact k
theorem fillL_cons {f : Nat → Option (Nat × Nat)} {cs : List Value} {i : Nat} {v : Value} {ps : List (Nat × Value)} : fillL f cs ((i, v) :: ps) = match f i with
    | none => none
    | some (off, n) => cond (Nat.blt 0 n) (cond (Nat.beq v.cells.toList.length n) (match over cs off v.cells.toList with | some cs => fillL f cs ps | none => none) none) none := rfl
def isIface (E : Env) (t : TypeId) : Bool := match und E t with | some (.interface _) | some .invalid | none => true | _ => false
theorem opW_nilCheck : opW E (.nilCheck x) fr h K = evK E fr x fun v => match v with
    | .pointer (some a) => K (.pointer (some a)) h
    | .iface t v => K (.iface t v) h
    | .func (.func f) a b => K (.func (.func f) a b) h
    | .func (.yield l) a b => K (.func (.yield l) a b) h
    | _ => False := by
  rw [opW_pure rfl (by simp)]
  simp only [pureOp, operOf, evK, onV]
  cases ev E fr x with
  | none => simp
  | some v =>
    cases v with
    | pointer a => cases a <;> simp
    | func fn a b => cases fn <;> simp
    | _ => simp
end
end Go.Ev
