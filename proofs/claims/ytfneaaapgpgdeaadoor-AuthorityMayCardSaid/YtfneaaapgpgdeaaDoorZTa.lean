/- THE EVALUATOR, part 'Ta': a deterministic reading of the program's code over an abstract heap, and that the model does what it says. Conditions: none beyond each theorem's own. -/
import Derived.Test.YtfneaaapgpgdeaaDoorZLib4
set_option linter.unusedSimpArgs false
set_option linter.unusedVariables false
namespace Go.Ev
section
variable {E : Env} {fr : Fr} {h : Heap} {K : Value → Heap → Prop} {x y : Operand} {t t' s : TypeId}
def mkiOK (E : Env) (t : TypeId) : Bool := match und E t with
  | none | some (.interface _) | some .invalid => false
  | _ => true
theorem opW_makeIface (ht : mkiOK E t = true) : opW E (.makeInterface t x) fr h K = evK E fr x fun v => K (.iface t v) h := by
  rw [opW_pure rfl (by simp)]
  simp only [pureOp, operOf, evK, onV]
  unfold mkiOK at ht
  cases hu : und E t with
  | none => rw [hu] at ht; cases ht
  | some d =>
    rw [hu] at ht
    cases ev E fr x with
    | none => cases d <;> simp_all
    | some v => cases d <;> simp_all
/-- a type assertion with an answer, to a type that is no interface -/
def taK (t : TypeId) (z v : Value) (K : Value → Prop) [Tok K] : Prop := match v with
  | .iface t' u => cond (Nat.beq t' t) (K (.tuple #[u, .bool true])) (K (.tuple #[z, .bool false]))
  | .nilIface => K (.tuple #[z, .bool false])
  | _ => False
def taOf (E : Env) (t : TypeId) : Option Value := match und E t with
  | none | some (.interface _) | some .invalid => none
  | _ => zero E t
theorem opW_typeAssertC {z : Value} (ht : taOf E t = some z) : opW E (.typeAssert x s t true) fr h K = evK E fr x fun v => taK t z v fun u => K u h := by
  rw [opW_pure rfl (by simp)]
  simp only [pureOp, operOf, evK, onV]
  unfold taOf at ht
  cases ev E fr x with
  | none => simp
  | some v =>
    simp only [Option.some.injEq, exists_eq_left']
    have key : atypeAssert E v t true = match v with
        | .nilIface => some (.tuple #[z, .bool false])
        | .iface t' u => some (cond (Nat.beq t' t) (.tuple #[u, .bool true]) (.tuple #[z, .bool false]))
        | _ => none := by
      unfold atypeAssert
      cases hu : und E t with
      | none => rw [hu] at ht; cases ht
      | some d =>
        rw [hu] at ht
        cases d <;> first
          | (cases ht; done)
          | (simp only at ht
             cases v <;> simp only [ht, Option.map_some, cond_true]
             rename_i t' u
             cases Nat.beq t' t <;> rfl)
    rw [key]
    unfold taK
    cases v with
    | iface t' u =>
      clear key
      simp only [Option.some.injEq, exists_eq_left']
      generalize Nat.beq t' t = b
      cases b <;> rfl
    | _ => simp
theorem ta_same {z u : Value} {J : Value → Prop} : taK t z (.iface t u) J = J (.tuple #[u, .bool true]) := by simp [taK]
theorem ta_ne {z u : Value} {J : Value → Prop} (hne : t' ≠ t) : taK t z (.iface t' u) J = J (.tuple #[z, .bool false]) := by simp [taK, cond_beq, hne]
theorem ta_nil {z : Value} {J : Value → Prop} : taK t z .nilIface J = J (.tuple #[z, .bool false]) := rfl
end
end Go.Ev
