/- THE EVALUATOR, part 'X': a deterministic reading of the program's code over an abstract heap, and that the model does what it says. Conditions: none beyond each theorem's own. -/
import Derived.Test.YtfneaaapgpgdeaaDoorZN
set_option linter.unusedSimpArgs false
set_option linter.unusedVariables false
namespace Go.Ev
section
variable {E : Env} {nt : Nat} {rd : Option Nat} {fr : Fr} {h : Heap} {K : Value → Heap → Prop} {x y z : Operand} {t t' : TypeId}
/-! max, makeSlice, truth values, stores into rows -/
def maxK (a b : Value) (K : Value → Prop) [Tok K] : Prop := onV (amax2 true a b) K
theorem opW_max : opW E (.call ⟨.builtin .max, ⟨[x, y]⟩, ⟨[t, t']⟩⟩) fr h K = evK E fr x fun a => evK E fr y fun b => maxK a b fun u => K u h := by
  simp only [opW, opBy, valOp, flOp, qcall, operOf, kindOf, pureOp, evs, mapOpt, evK, onR_map, onV, maxK]
  cases ev E fr x with
  | none => simp
  | some a =>
    cases ev E fr y with
    | none => simp
    | some b =>
      simp only [Option.some.injEq, exists_eq_left', afold]
      cases amax2 true a b <;> simp
theorem max_int {k k' : IntKind} {a b : Int} {K : Value → Prop} : maxK (.int k a) (.int k' b) K = K (.int k (max a b)) := by
  simp only [maxK, amax2, cond_true, onV_some']
  rw [Int.max_def]
  by_cases hl : a < b
  · rw [if_pos hl, if_pos (by omega)]
  · by_cases he : a = b
    · subst he; simp
    · rw [if_neg (by omega), if_neg (by omega)]
def mslOf (E : Env) (t : TypeId) : Option (TypeId × List Value) := match und E t with
  | some (.slice e) => match E.tab.get e with
    | some i => match i.zero with
      | some z => cond (Nat.ble i.bytes 10000 && Nat.beq z.cells.toList.length i.size && !Nat.beq i.size 0) (some (e, z.cells.toList)) none
      | none => none
    | none => none
  | _ => none
def mslK (e : TypeId) (zs : List Value) (a b : Value) (h : Heap) (K : Value → Heap → Prop) [Tok K] : Prop := match a, b with
  | .int _ l, .int _ c => (0 ≤ l ∧ l ≤ c ∧ c < 100000) ∧ K (.slice (some ⟨h.n, 0, none⟩) l.toNat c.toNat) (newBlk h (.cells (rep c.toNat zs) e true))
  | _, _ => False
theorem opW_makeSlice {e : TypeId} {zs : List Value} (hm : mslOf E t = some (e, zs)) : opW E (.makeSlice t x y) fr h K = evK E fr x fun a => evK E fr y fun b => mslK e zs a b h K := by
  rw [opW_alloc' rfl (by simp)]
  unfold mslOf at hm
  split at hm
  · rename_i e' hu
    split at hm
    · rename_i i hi
      split at hm
      · rename_i z hz
        cases hc : (Nat.ble i.bytes 10000 && Nat.beq z.cells.toList.length i.size && !Nat.beq i.size 0) with
        | false => rw [hc] at hm; cases hm
        | true =>
          rw [hc] at hm
          simp only [cond_true, Option.some.injEq, Prod.mk.injEq] at hm
          obtain ⟨rfl, rfl⟩ := hm
          simp only [allocOp, operOf, evK, onV]
          cases ev E fr x with
          | none => simp
          | some a =>
            cases ev E fr y with
            | none => simp
            | some b =>
              simp only [Option.some.injEq, exists_eq_left']
              cases a <;> cases b <;> simp only [amakeSlice, hu, mslK, reduceCtorEq, false_and, exists_false]
              rename_i k1 l k2 c
              by_cases hlc : 0 ≤ l ∧ l ≤ c ∧ c < 100000
              · simp only [hlc.1, hlc.2.1, hlc.2.2, decide_true, Bool.and_self, cond_true, hi, hz, hc, Option.some.injEq, exists_eq_left', true_and]
              · simp only [hlc, false_and]
                have : (decide (0 ≤ l) && decide (l ≤ c) && decide (c < 100000)) = false := by
                  rw [Bool.eq_false_iff]
                  intro h1
                  simp only [Bool.and_eq_true, decide_eq_true_eq] at h1
                  exact hlc ⟨h1.1.1, h1.1.2, h1.2⟩
                simp only [this, cond_false, reduceCtorEq, false_and, exists_false]
      · cases hm
    · cases hm
  · cases hm
def isBoolT (E : Env) (t : TypeId) : Bool := match und E t with | some .bool => true | _ => false
theorem bin_eqlB {c a b : Bool} {K : Value → Prop} (ht : isBoolT E t = true) : binK E .eql t c (.bool a) (.bool b) K = K (.bool (a == b)) := by
  unfold isBoolT at ht
  split at ht
  · rename_i hu
    have : abin E .eql t (.bool a) (.bool b) = some (.bool (a == b)) := by simp [abin, numeric, aeq, hu]
    simp only [binK, this, onV_some']
  · cases ht
theorem bin_neqB {c a b : Bool} {K : Value → Prop} (ht : isBoolT E t = true) : binK E .neq t c (.bool a) (.bool b) K = K (.bool (!(a == b))) := by
  unfold isBoolT at ht
  split at ht
  · rename_i hu
    have : abin E .neq t (.bool a) (.bool b) = some (.bool (!(a == b))) := by simp [abin, numeric, aeq, hu]
    simp only [binK, this, onV_some']
  · cases ht
/-- a part of a row whose capacity is not known -/
theorem slice_fromToU {sz : Nat} {a : Option Addr} {n : Nat} {k k' : IntKind} {i j : Int} {K : Value → Prop} (hs : slzOf E t = some sz) (hz : sz ≠ 0) (h0 : 0 ≤ i) (h1 : i < j) (h2 : j ≤ n)
    (q : ∀ c, K (.slice (a.map (·.add (i.toNat * sz))) (j - i).toNat c)) : sliceVK E t (.slice a n UNK) (some (.int k i)) (some (.int k' j)) none K := by
  unfold slzOf at hs
  split at hs
  · rename_i e hu
    obtain ⟨i, rfl⟩ := Int.eq_ofNat_of_zero_le h0
    obtain ⟨j, rfl⟩ := Int.eq_ofNat_of_zero_le (show 0 ≤ j by omega)
    have f1 : Nat.beq UNK UNK2 = false := rfl
    have f2 : Nat.beq UNK UNK = true := Nat.beq_refl _
    have bd : ∀ (k : IntKind) (p q : Nat), p ≤ q → bound (.int k (p : Int)) q = some p := fun k p q hpq => by
      have : (decide ((0 : Int) ≤ (p : Int)) && decide ((p : Int) ≤ (q : Int))) = true := by
        simp only [Bool.and_eq_true, decide_eq_true_eq]; omega
      simp only [bound, this, cond_true, Int.toNat_natCast]
    have hab : abounds n n (some (.int k (i : Int))) (some (.int k' (j : Int))) none = some (i, j, n) := by
      simp only [abounds, aboundsM, bd k' j n (by omega), aboundsL, bd k i j (by omega)]
    have hil : Nat.beq i n = false := by
      cases hh : Nat.beq i n with
      | false => rfl
      | true => have := Nat.eq_of_beq_eq_true hh; omega
    obtain ⟨s, rfl⟩ := Nat.exists_eq_succ_of_ne_zero hz
    simp only [sliceVK, asliceS, hu, f1, f2, cond_false, cond_true, hab, hs]
    cases hi0 : Nat.beq i 0 with
    | false =>
      simp only [hil, cond_false, onV_some']
      have := q UNK
      simpa [show ((j : Int) - (i : Int)).toNat = j - i by omega] using this
    | true =>
      have : i = 0 := Nat.eq_of_beq_eq_true hi0
      subst this
      simp only [cond_true, onV_some']
      have := q UNK
      cases a with
      | none => simpa using this
      | some a => simpa [Addr.add] using this
  · cases hs
end
end Go.Ev
