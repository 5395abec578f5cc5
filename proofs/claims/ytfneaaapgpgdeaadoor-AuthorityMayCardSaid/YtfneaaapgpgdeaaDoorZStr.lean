/- THE EVALUATOR, part 'Str': a deterministic reading of the program's code over an abstract heap, and that the model does what it says. Conditions: none beyond each theorem's own. -/
import Derived.Test.YtfneaaapgpgdeaaDoorZTa
set_option linter.unusedSimpArgs false
set_option linter.unusedVariables false
namespace Go.Ev
section
variable {E : Env} {fr : Fr} {h : Heap} {K : Value → Heap → Prop} {x y : Operand} {t : TypeId}
/-! strings: length, parts, letters -/
def isStr (E : Env) (t : TypeId) : Bool := match und E t with | some .string => true | _ => false
theorem isStr_und (ht : isStr E t = true) : und E t = some .string := by
  unfold isStr at ht
  split at ht
  · assumption
  · cases ht
def lenStrK (x : Value) (K : Value → Prop) [Tok K] : Prop := match x with
  | .string s => K (.int .i64 s.size)
  | _ => False
theorem lenStr_some {s : ByteArray} {K : Value → Prop} : lenStrK (.string s) K = K (.int .i64 s.size) := Eq.trans rfl rfl
theorem opW_lenStr (ht : isStr E t = true) : opW E (.call ⟨.builtin .len, ⟨[x]⟩, ⟨[t]⟩⟩) fr h K = evK E fr x fun v => lenStrK v fun u => K u h := by
  have hu := isStr_und ht
  simp only [opW, opBy, valOp, flOp, qcall, operOf, kindOf, hu, pureOp, evs, mapOpt, evK, onR_map, onV, lenStrK]
  cases ev E fr x with
  | none => simp
  | some v =>
    simp only [alen, hu]
    cases v <;> simp
theorem str_extract (l : List UInt8) (a b : Nat) : (⟨l.toArray⟩ : ByteArray).extract a b = ⟨((l.take b).drop a).toArray⟩ := by
  apply ByteArray.ext
  simp [ByteArray.data_extract, List.extract_toArray, List.drop_take]
theorem slice_strL (ht : isStr E t = true) {l : List UInt8} {k : IntKind} {lo : Nat} {K : Value → Prop} (h : lo ≤ l.length) (q : K (.string ⟨(l.drop lo).toArray⟩)) :
    sliceVK E t (.string ⟨l.toArray⟩) (some (.int k (lo : Int))) none none K := by
  have hs : (⟨l.toArray⟩ : ByteArray).size = l.length := by simp [ByteArray.size]
  have hb : abounds l.length l.length (some (.int k (lo : Int))) none none = some (lo, l.length, l.length) := by
    simp only [abounds, aboundsM, aboundsL, bnd_of h]
  simp only [sliceVK, asliceS, isStr_und ht, hs, hb, Option.map_some, onV_some, str_extract, List.take_length]
  exact q
theorem slice_strH (ht : isStr E t = true) {l : List UInt8} {k : IntKind} {hi : Nat} {K : Value → Prop} (h : hi ≤ l.length) (q : K (.string ⟨(l.take hi).toArray⟩)) :
    sliceVK E t (.string ⟨l.toArray⟩) none (some (.int k (hi : Int))) none K := by
  have hs : (⟨l.toArray⟩ : ByteArray).size = l.length := by simp [ByteArray.size]
  have hb : abounds l.length l.length none (some (.int k (hi : Int))) none = some (0, hi, l.length) := by
    simp only [abounds, aboundsM, aboundsL, bnd_of h]
  simp only [sliceVK, asliceS, isStr_und ht, hs, hb, Option.map_some, onV_some, str_extract, List.drop_zero]
  exact q
end
end Go.Ev
