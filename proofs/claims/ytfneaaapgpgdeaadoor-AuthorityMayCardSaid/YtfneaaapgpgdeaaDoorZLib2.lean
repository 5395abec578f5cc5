/- THE EVALUATOR, part 'Lib2': a deterministic reading of the program's code over an abstract heap, and that the model does what it says. Conditions: none beyond each theorem's own. -/
import Derived.Test.YtfneaaapgpgdeaaDoorZLib
import Derived.Lib.ItoaNum
import Derived.Lib.ItoaMem
set_option linter.unusedSimpArgs false
set_option linter.unusedVariables false
namespace Go.Ev
section
variable {E : Env} {t t' : TypeId} {c : Bool} {h : Heap}
theorem bin_addS {a b : ByteArray} {K : Value → Prop} : binK E .add t c (.string a) (.string b) K = (a.size + b.size < 1000000000 ∧ K (.string (a ++ b))) := by
  rw [binK_of (by simp) rfl]
  by_cases hs : a.size + b.size < 1000000000
  · have : Nat.blt (a.size + b.size) 1000000000 = true := by rw [blt_eq]; exact decide_eq_true hs
    simp only [abin, this, cond_true, onV_some', hs, true_and]
  · have : Nat.blt (a.size + b.size) 1000000000 = false := by rw [blt_eq]; exact decide_eq_false hs
    simp only [abin, this, cond_false, onV_none, hs, false_and]
section
variable {J : Value → Prop} {a b : Nat}
theorem bin_eqlF : binK E .eql t c (.float .f64 a) (.float .f64 b) J = J (.bool (Ieee.double.order a b == some .eq)) := binK_fl rfl
theorem bin_neqF : binK E .neq t c (.float .f64 a) (.float .f64 b) J = J (.bool (Ieee.double.order a b != some .eq)) := binK_fl rfl
theorem bin_lssF : binK E .lss t c (.float .f64 a) (.float .f64 b) J = J (.bool (Ieee.double.order a b == some .lt)) := binK_fl rfl
theorem bin_gtrF : binK E .gtr t c (.float .f64 a) (.float .f64 b) J = J (.bool (Ieee.double.order a b == some .gt)) := binK_fl rfl
theorem bin_neqNN : binK E .neq t c (.chan none) (.chan none) J = J (.bool true) := binK_fl rfl
theorem bin_eqlNF : binK E .eql t c (.chan none) (.float .f64 b) J = J (.bool false) := binK_fl rfl
theorem bin_lssNF : binK E .lss t c (.chan none) (.float .f64 b) J = J (.bool false) := binK_fl rfl
theorem bin_gtrNF : binK E .gtr t c (.chan none) (.float .f64 b) J = J (.bool false) := binK_fl rfl
end
theorem un_negF' {b : Nat} {K : Value → Prop} : unK .neg (.float .f64 b) K = K (.float .f64 (b ^^^ 9223372036854775808)) := un_negF
theorem un_negN {K : Value → Prop} : unK .neg (.chan none) K = K (.chan none) := by simp [unK, aun, NANY]

/-- a part of an array -/
theorem bnd_of {k : IntKind} {p q : Nat} (hpq : p ≤ q) : bound (.int k (p : Int)) q = some p := by
  have : (decide ((0 : Int) ≤ (p : Int)) && decide ((p : Int) ≤ (q : Int))) = true := by
    simp only [Bool.and_eq_true, decide_eq_true_eq]; omega
  simp only [bound, this, cond_true, Int.toNat_natCast]
theorem slice_arr0 {n sz b off hi : Nat} {k : IntKind} {K : Value → Prop} (ha : arrSz E t = some (n, sz)) (h1 : hi ≤ n) (h0 : 0 < n) (hn : n < 1000000) (q : K (.slice (some ⟨b, off, none⟩) hi n)) :
    sliceVK E t (.pointer (some ⟨b, off, none⟩)) none (some (.int k (hi : Int))) none K := by
  unfold arrSz at ha
  split at ha
  · rename_i n e hu
    cases hs : size E e with
    | none => rw [hs] at ha; cases ha
    | some sz' =>
      rw [hs] at ha
      cases ha
      have hl : Nat.blt n 1000000 = true := by rw [blt_eq]; exact decide_eq_true hn
      have hab : abounds n n none (some (.int k (hi : Int))) none = some (0, hi, n) := by
        simp only [abounds, aboundsM, bnd_of h1, aboundsL]
      have hne : Nat.beq n 0 = false := beq_ne (by omega)
      simp only [sliceVK, asliceS, hu, hl, cond_true, hab, hs, hne, cond_false, Nat.zero_mul, onV_some', Nat.sub_zero]
      rw [Addr.add_lit, Nat.add_zero]; exact q
  · cases ha
theorem slice_arr1 {n sz b off lo hi : Nat} {k k' : IntKind} {K : Value → Prop} (ha : arrSz E t = some (n, sz)) (h2 : lo ≤ hi) (h1 : hi ≤ n) (h0 : lo < n) (hn : n < 1000000) (q : K (.slice (some ⟨b, off + lo * sz, none⟩) (hi - lo) (n - lo))) :
    sliceVK E t (.pointer (some ⟨b, off, none⟩)) (some (.int k (lo : Int))) (some (.int k' (hi : Int))) none K := by
  unfold arrSz at ha
  split at ha
  · rename_i n e hu
    cases hs : size E e with
    | none => rw [hs] at ha; cases ha
    | some sz' =>
      rw [hs] at ha
      cases ha
      have hl : Nat.blt n 1000000 = true := by rw [blt_eq]; exact decide_eq_true hn
      have hab : abounds n n (some (.int k (lo : Int))) (some (.int k' (hi : Int))) none = some (lo, hi, n) := by
        simp only [abounds, aboundsM, bnd_of h1, aboundsL, bnd_of h2]
      have hne : Nat.beq n lo = false := beq_ne (by omega)
      simp only [sliceVK, asliceS, hu, hl, cond_true, hab, hs, hne, cond_false, onV_some']
      rw [Addr.add_lit]; exact q
  · cases ha
/-! bytes -/
def byteV (b : UInt8) : Value := .int .u8 (b.toNat : Int)
theorem mapOpt_bytes : ∀ (l : List UInt8), mapOpt byteOf (l.map byteV) = some l
  | [] => rfl
  | b :: l => by
    simp only [List.map_cons, mapOpt, mapOpt_bytes l]
    simp [byteV, byteOf]
theorem bstr_of {a : Addr} {n m : Nat} {l : List UInt8} {K : Value → Prop} (hc : cellsAt h a n = some (l.map byteV)) (q : K (.string ⟨l.toArray⟩)) : bstrK h (.slice (some a) n m) K := by
  simp only [bstrK, hc, mapOpt_bytes, Option.map_some, onV_some']
  exact q
theorem digs_bytes (u : Nat) : digs u (Lib.nDigits u) = (Lib.decDigits u).map byteV := by
  rw [Lib.decDigits_eq u]
  simp [digs, byteV]
theorem fmt_pow (u : Nat) : u < 10 ^ Lib.nDigits u := Lib.lt_pow_nDigits u
theorem app_str (l r : List UInt8) : (⟨l.toArray⟩ : ByteArray) ++ ⟨r.toArray⟩ = ⟨(l ++ r).toArray⟩ := by
  apply ByteArray.ext
  simp [ByteArray.data_append]
theorem str_size (l : List UInt8) : (⟨l.toArray⟩ : ByteArray).size = l.length := by simp [ByteArray.size]
end
end Go.Ev
namespace Go.Ev
open Go.RowKit
section
variable {P : Program}
/-- a function of a number that is none -/
def extChan (k : FuncId) (v : Value) (base : ExtT) (f : FuncId) (args : List Value) (h : Heap) : Option (Option (Value × Heap)) :=
  match Nat.beq f k, args with
  | true, [.chan none] => some (some (v, h))
  | _, _ => base f args h
theorem extChan_ok {ng k : Nat} {v : Value} {base : ExtT} (h0 : ExtOK P (envOf P ng base)) {fn : Func} {c : Code} (hf : P.funcs[k]? = some fn) (hb : fn.body = some c) (hn : NamesOK P) (hv : ∀ ρ, VR ρ v v)
    (hk : ∀ n, n < 18446744073709551616 → isNan n = true → ∀ w : World, Calls P k #[.float .f64 n] w fun e w' => e = .returned v ∧ Below w.heap.size w w') : ExtOK P (envOf P ng (extChan k v base)) := by
  intro f args h u h' e ρ w args' hr hg ra
  simp only [envOf, extChan] at e
  split at e
  · rename_i hfk
    have := Nat.eq_of_beq_eq_true hfk
    subst this
    simp only [Option.some.injEq, Prod.mk.injEq] at e
    obtain ⟨rfl, rfl⟩ := e
    obtain ⟨l⟩ := args'
    simp only at ra
    cases ra with
    | cons r1 t =>
      cases t
      cases r1 with
      | nanf n h1 h2 =>
        refine .inr (.inl ⟨f, _, run_callFunc hf hn hb _ w, (hk n h2 h1 w).mono fun e w' hh => ?_⟩)
        obtain ⟨rfl, hbl⟩ := hh
        exact ⟨_, ρ, rfl, hv ρ, Stp.of_below hr hbl⟩
  · exact h0 f _ h u h' e ρ w args' hr hg ra
end
end Go.Ev
namespace Go.Ev
section
variable {E : Env} {fr : Fr} {h : Heap} {x : Operand} {t t' : TypeId}
theorem agK_bstr {d : Nat} {l : List GO} (hb : isBytes E t t' = true) : agK E (⟨none, some d, .convert t t' x⟩ :: l) fr h = ((evK E fr x fun v => bstrK h v fun u => agV fr d u) ∧ agK E l fr h) := by
  have hk : kindOf E (.convert t t' x) = .read := by
    unfold isBytes at hb
    split at hb
    · rename_i e hu1 hu2; simp [kindOf, hu1]
    · cases hb
  have e1 := opW_read (fr := fr) (h := h) (K := fun v _ => agV fr d v) hk (by simp)
  have e2 := opW_bstr (x := x) (fr := fr) (h := h) (K := fun v _ => agV fr d v) hb
  have e : (∃ v v' d', readOp E fr (operOf (.convert t t' x)) h = some v ∧ some d = some d' ∧ fr.get d' = some v' ∧ sameV 50 v v' = true) = (evK E fr x fun v => bstrK h v fun u => agV fr d u) := by
    rw [← e2, e1]
    unfold onV agV
    apply propext
    constructor
    · rintro ⟨v, v', d', a, b, c, g⟩; cases b; exact ⟨v, a, v', c, g⟩
    · rintro ⟨v, a, v', c, g⟩; exact ⟨v, v', d, a, rfl, c, g⟩
  simp only [agK, gdK, e]
theorem same_str {n : Nat} {s : ByteArray} : (sameV n (.string s) (.string s) = true) = True := by cases n <;> simp [sameV, eqStr]
/-- a string's bytes, in a row of their own -/
def isSB (E : Env) (t t' : TypeId) : Bool := match und E t, und E t' with
  | some .string, some (.slice e) => (match und E e with | some (.int .u8) => true | _ => false)
  | _, _ => false
def sbK (h : Heap) (v : Value) (K : Value → Heap → Prop) [Tok K] : Prop := match v with
  | .string s => s.size ≠ 0 ∧ s.size ≤ 100000 ∧ K (.slice (some ⟨h.n, 0, none⟩) s.size UNK) (newBlk h (.ro fun j => nth (bytesV s) j))
  | _ => False
theorem opW_sbytes {K : Value → Heap → Prop} (hb : isSB E t t' = true) : opW E (.convert t t' x) fr h K = evK E fr x fun v => sbK h v fun u h' => K u h' := by
  unfold isSB at hb
  split at hb
  · rename_i e hu1 hu2
    split at hb
    · rename_i hu3
      rw [opW_act (by simp [kindOf, hu1, hu2]) (by simp)]
      simp only [actOp, operOf, evK, onV, sbK]
      cases ev E fr x with
      | none => simp [onR]
      | some v =>
        simp only [Option.some.injEq, exists_eq_left', asbytes, hu1, hu2]
        cases v with
        | string s =>
          simp only [hu3]
          by_cases h1 : s.size = 0
          · simp [h1, onR]
          · by_cases h2 : s.size ≤ 100000
            · have : (!Nat.beq s.size 0 && Nat.ble s.size 100000) = true := by
                simp only [Bool.and_eq_true, Bool.not_eq_true', ble_eq, decide_eq_true_eq]
                exact ⟨by cases hh : Nat.beq s.size 0 with
                  | false => rfl
                  | true => exact absurd (Nat.eq_of_beq_eq_true hh) h1, h2⟩
              rw [this, cond_true, onR_some]
              simp only [ne_eq, h1, not_false_eq_true, h2, true_and]; rfl
            · have : (!Nat.beq s.size 0 && Nat.ble s.size 100000) = false := by
                rw [Bool.and_eq_false_iff]; right; rw [ble_eq]; exact decide_eq_false h2
              rw [this, cond_false]
              simp [onR, h2]
        | _ => simp [onR]
    · cases hb
  · cases hb
theorem bytes_at {l : List UInt8} {k : Nat} (hk : k < l.length) {h : Heap} {g : Nat → Option Value} {i : Nat} (hi : i < h.n) (hb : h.b.get i = some (.ro fun j => nth (bytesV ⟨l.toArray⟩) j)) : cellAt h ⟨i, k, none⟩ = some (.int .u8 (l[k].toNat : Int)) := by
  have h1 : nth (bytesV ⟨l.toArray⟩) k = some (.int .u8 (l[k].toNat : Int)) := by
    rw [nth_eq, bytesV, List.getElem?_map, show (⟨l.toArray⟩ : ByteArray).data.toList = l from rfl, List.getElem?_eq_getElem hk]; rfl
  unfold cellAt cellsAt
  have h2 : Nat.blt i h.n = true := by rw [blt_eq]; exact decide_eq_true hi
  simp only [show Nat.beq 1 0 = false from rfl, cond_false, h2, cond_true, hb, roCells, h1]
end
end Go.Ev
