/- THE EVALUATOR, part 'Fl': a deterministic reading of the program's code over an abstract heap, and that the model does what it says. Conditions: none beyond each theorem's own. -/
import Derived.Test.YtfneaaapgpgdeaaDoorZRow
import Derived.Test.YtfneaaapgpgdeaaDoorZX
set_option linter.unusedSimpArgs false
set_option linter.unusedVariables false
namespace Go.Ev
open Go.RowKit
/-! numbers with a point -/
def isF : Value → Bool
  | .float .f64 _ => true
  | .chan none => true
  | _ => false
theorem isF_float (n : Nat) : isF (.float .f64 n) = true := Eq.trans rfl rfl
theorem isF_cases {v : Value} (h : isF v = true) : (∃ n, v = .float .f64 n) ∨ v = .chan none := by
  unfold isF at h
  split at h
  · exact .inl ⟨_, rfl⟩
  · exact .inr rfl
  · cases h
theorem isF_cells {v : Value} (h : isF v = true) : v.cells = #[v] := by
  rcases isF_cases h with ⟨n, rfl⟩ | rfl <;> rfl
theorem isF_one {v : Value} (h : isF v = true) : oneCell v = true := by
  rcases isF_cases h with ⟨n, rfl⟩ | rfl <;> rfl
theorem isF_fres (r : Option Nat) : isF (fres r) = true := by cases r <;> rfl
def fA (op : BinOp) (v w : Value) : Value := (fbin op v w).getD NANY
def arithF : BinOp → Bool
  | .add | .sub | .mul | .quo => true
  | _ => false
theorem fA_some {op : BinOp} {v w : Value} (ho : arithF op = true) (hv : isF v = true) (hw : isF w = true) : fbin op v w = some (fA op v w) ∧ isF (fA op v w) = true := by
  have key : ∀ u, fbin op v w = some u → isF u = true → fbin op v w = some (fA op v w) ∧ isF (fA op v w) = true := fun u e k => by
    unfold fA; rw [e]; exact ⟨rfl, k⟩
  rcases isF_cases hv with ⟨n, rfl⟩ | rfl <;> rcases isF_cases hw with ⟨m, rfl⟩ | rfl <;> cases op <;> first
    | (cases ho; done)
    | exact key _ rfl (isF_fres _)
    | exact key _ rfl rfl
section
variable {E : Env} {fr : Fr} {h : Heap} {K : Value → Heap → Prop} {x y : Operand} {t t' : TypeId} {c : Bool} {v w : Value} {J : Value → Prop}
theorem bin_addF (hv : isF v = true) (hw : isF w = true) : binK E .add t c v w J = J (fA .add v w) := binK_fl (fA_some rfl hv hw).1
theorem bin_subF (hv : isF v = true) (hw : isF w = true) : binK E .sub t c v w J = J (fA .sub v w) := binK_fl (fA_some rfl hv hw).1
theorem bin_mulF (hv : isF v = true) (hw : isF w = true) : binK E .mul t c v w J = J (fA .mul v w) := binK_fl (fA_some rfl hv hw).1
theorem bin_quoF (hv : isF v = true) (hw : isF w = true) : binK E .quo t c v w J = J (fA .quo v w) := binK_fl (fA_some rfl hv hw).1
theorem isF_add (hv : isF v = true) (hw : isF w = true) : isF (fA .add v w) = true := (fA_some rfl hv hw).2
theorem isF_sub (hv : isF v = true) (hw : isF w = true) : isF (fA .sub v w) = true := (fA_some rfl hv hw).2
theorem isF_mul (hv : isF v = true) (hw : isF w = true) : isF (fA .mul v w) = true := (fA_some rfl hv hw).2
theorem isF_quo (hv : isF v = true) (hw : isF w = true) : isF (fA .quo v w) = true := (fA_some rfl hv hw).2
theorem un_negF {b : Nat} : unK .neg (.float .f64 b) J = J (.float .f64 (b ^^^ 9223372036854775808)) := by simp [unK, aun]

def fltT (E : Env) (t : TypeId) : Bool := match und E t with | some (.float .f64) => true | _ => false
theorem fltT_und (h : fltT E t = true) : und E t = some (.float .f64) := by
  unfold fltT at h
  split at h
  · assumption
  · cases h
def cfK (v : Value) (J : Value → Prop) [Tok J] : Prop := match v with
  | .float .f64 n => J (.float .f64 n)
  | .chan none => J NANY
  | _ => False
theorem opW_cff (h1 : fltT E t = true) (h2 : fltT E t' = true) : opW E (.convert t t' x) fr h K = evK E fr x fun v => cfK v fun u => K u h := by
  have h1 := fltT_und h1
  have h2 := fltT_und h2
  rw [opW_pure (by simp [kindOf, h1]) (by simp)]
  simp only [pureOp, operOf, evK, onV]
  cases ev E fr x with
  | none => simp
  | some v =>
    simp only [Option.some.injEq, exists_eq_left', aconvert, h1, h2]
    unfold cfK
    cases v with
    | float k n => cases k <;> simp
    | chan c => cases c <;> simp
    | _ => simp
theorem cf_F (hv : isF v = true) : cfK v J = J v := by
  rcases isF_cases hv with ⟨n, rfl⟩ | rfl <;> rfl
def cifK (v : Value) (J : Value → Prop) [Tok J] : Prop := match v with | .int _ n => J (.float .f64 (FloatKind.nearest .f64 n)) | _ => False
theorem opW_cif {k : IntKind} (h1 : intK E t = some k) (h2 : fltT E t' = true) : opW E (.convert t t' x) fr h K = evK E fr x fun v => cifK v fun u => K u h := by
  have h2 := fltT_und h2
  unfold intK at h1
  split at h1
  · rename_i k1 hu1
    rw [opW_pure (by simp [kindOf, hu1]) (by simp)]
    simp only [pureOp, operOf, evK, onV, cifK]
    cases ev E fr x with
    | none => simp
    | some v => cases v <;> simp [aconvert, hu1, h2]
  · cases h1
theorem cif_int {k : IntKind} {n : Int} : cifK (.int k n) J = J (.float .f64 (FloatKind.nearest .f64 n)) := Eq.trans rfl rfl
theorem resK_three {a b d : Nat} : resK E [.tmp a, .tmp b, .tmp d] K .ret fr h = getK fr a fun v => getK fr b fun u => getK fr d fun z => K (.tuple #[v, u, z]) h := by
  simp only [resK, mapOpt, resOf, getK, ev]
  cases fr.get a <;> cases fr.get b <;> cases fr.get d <;> simp [resVal]
theorem box_F (hv : isF v = true) : boxK t v h K = K (.pointer (some ⟨h.n, 0, none⟩)) (newBlk h (.cells [v] t true)) := box_one (isF_cells hv) (isF_one hv)
end

/-! words of their own -/
abbrev ExtT := FuncId → List Value → Heap → Option (Option (Value × Heap))
def extFl (fb ff : FuncId) (base : ExtT) (f : FuncId) (args : List Value) (h : Heap) : Option (Option (Value × Heap)) :=
  cond (Nat.beq f fb) (match args with | [.float .f64 n] => some (some (.int .u64 n, h)) | _ => some none)
    (cond (Nat.beq f ff) (match args with | [.int .u64 n] => some (some (.float .f64 n.toNat, h)) | _ => some none) (base f args h))
section
variable {P : Program}
theorem extFl_ok {ng fb ff : Nat} {base : ExtT} (h0 : ExtOK P (envOf P ng base)) {fn gn : Func} (hf : P.funcs[fb]? = some fn) (hname : (fn.name == "runtime.NumGoroutine") = false) (hb : fn.body.isNone = true) (hn : Extern.findNext fn = none) (he : Extern.find fn = some Extern.MathFloatBits.float64bits)
    (gf : P.funcs[ff]? = some gn) (gname : (gn.name == "runtime.NumGoroutine") = false) (gb : gn.body.isNone = true) (gnx : Extern.findNext gn = none) (ge : Extern.find gn = some Extern.MathFloatBits.float64frombits) :
    ExtOK P (envOf P ng (extFl fb ff base)) := by
  intro f args h v h' e ρ w args' hr hg ra
  simp only [envOf, extFl, cond_beq] at e
  by_cases hfn : f = fb
  · subst hfn
    rw [if_pos rfl] at e
    split at e
    · rename_i n
      simp only [Option.some.injEq, Prod.mk.injEq] at e
      obtain ⟨rfl, rfl⟩ := e
      have hargs : args' = #[.float .f64 n] := by
        obtain ⟨l⟩ := args'
        simp only at ra
        cases ra with
        | cons r1 t => cases r1; cases t; rfl
      subst hargs
      refine .inl ⟨.value (.int .u64 n), _, ρ, w, ?_, rfl, .int _ _, Stp.refl hr⟩
      simp only [semOf]
      rw [run_callFunc_extern hf hname hb hn he]
      rfl
    · simp at e
  · rw [if_neg hfn] at e
    by_cases hfg : f = ff
    · subst hfg
      rw [if_pos rfl] at e
      split at e
      · rename_i n
        simp only [Option.some.injEq, Prod.mk.injEq] at e
        obtain ⟨rfl, rfl⟩ := e
        have hargs : args' = #[.int .u64 n] := by
          obtain ⟨l⟩ := args'
          simp only at ra
          cases ra with
          | cons r1 t => cases r1; cases t; rfl
        subst hargs
        refine .inl ⟨.value (.float .f64 n.toNat), _, ρ, w, ?_, rfl, .float _ _, Stp.refl hr⟩
        simp only [semOf]
        rw [run_callFunc_extern gf gname gb gnx ge]
        rfl
      · simp at e
    · rw [if_neg hfg] at e
      exact h0 f args h v h' e ρ w args' hr hg ra

/-- a function that tells whether a number is none -/
def extNan (k : FuncId) (base : ExtT) (f : FuncId) (args : List Value) (h : Heap) : Option (Option (Value × Heap)) :=
  cond (Nat.beq f k) (match args with
    | [.float .f64 n] => cond (Nat.blt n 18446744073709551616) (some (some (.bool (isNan n), h))) (some none)
    | [.chan none] => some (some (.bool true, h))
    | _ => some none) (base f args h)
theorem extNan_ok {ng k : Nat} {base : ExtT} (h0 : ExtOK P (envOf P ng base)) {fn : Func} {c : Code} (hf : P.funcs[k]? = some fn) (hb : fn.body = some c) (hn : NamesOK P)
    (hk : ∀ n, n < 18446744073709551616 → ∀ w : World, Calls P k #[.float .f64 n] w fun e w' => e = .returned (.bool (isNan n)) ∧ Below w.heap.size w w') : ExtOK P (envOf P ng (extNan k base)) := by
  intro f args h v h' e ρ w args' hr hg ra
  simp only [envOf, extNan, cond_beq] at e
  by_cases hfk : f = k
  · subst hfk
    rw [if_pos rfl] at e
    have fin : ∀ n, n < 18446744073709551616 → args' = #[.float .f64 n] → v = .bool (isNan n) → h' = h → CallOK P ρ h w (.func f) args' v h' := by
      rintro n hlt rfl rfl rfl
      refine .inr (.inl ⟨f, _, run_callFunc hf hn hb _ w, (hk n hlt w).mono fun e w' hh => ?_⟩)
      obtain ⟨rfl, hbl⟩ := hh
      exact ⟨_, ρ, rfl, .bool _, Stp.of_below hr hbl⟩
    obtain ⟨l⟩ := args'
    simp only at ra
    split at e
    · rename_i n
      rw [blt_eq] at e
      by_cases hlt : n < 18446744073709551616
      · simp only [hlt, decide_true, cond_true, Option.some.injEq, Prod.mk.injEq] at e
        refine fin n hlt ?_ e.1.symm e.2.symm
        cases ra with
        | cons r1 t => cases r1; cases t; rfl
      · simp [hlt] at e
    · simp only [Option.some.injEq, Prod.mk.injEq] at e
      cases ra with
      | cons r1 t =>
        cases t
        cases r1 with
        | nanf n h1 h2 => exact fin n h2 rfl (by rw [h1]; exact e.1.symm) e.2.symm
    · simp at e
  · rw [if_neg hfk] at e
    exact h0 f args h v h' e ρ w args' hr hg ra

/-- a call of plain values, of a program whose variables it does not look at -/
theorem shut_calls {E : Env} (hE : EnvOK P E) (hx : ExtOK P E) (hn : NamesOK P) (hg : E.ng = 0) {f : FuncId} {us : List Value} {args : Array Value} {v : Value} (hargs : VRL (fun _ => none) us args.toList) (hext : E.ext f us { n := 0, b := .leaf } = none)
    (r : Ret E (.func f) us { n := 0, b := .leaf } fun u _ => u = v) (hv : ∀ ρ u, VR ρ v u → u = v) (w : World) : Calls P f args w fun e w' => e = .returned v ∧ Below w.heap.size w w' := by
  obtain ⟨d, u, h', e, rfl⟩ := r
  have hr : HR P (fun _ => none) { n := 0, b := .leaf } w := ⟨fun i b c e => absurd e (by simp), fun i b c e => absurd e (by simp), fun i j b c d e => absurd e (by simp)⟩
  refine (callF_calls hE hx hn hext e hr (fun g hlt => by omega) hargs).mono fun e w' hh => ?_
  obtain ⟨v', ρ', rfl, r, hs⟩ := hh
  rw [hv _ _ r]
  exact ⟨rfl, hs.below fun i x e => by cases e⟩

/-! the tables of the program: its variables that a closed call looks at -/
def rowOk (g : Nat → Option Value) : Nat → List Value → Bool
  | _, [] => true
  | i, v :: l => (match g i with | some u => sameV 5 u v | none => false) && rowOk g (i + 1) l
def tabsOk (tabs : List (Nat × List Value)) (h : Heap) : Bool := tabs.all fun p => match h.b.get p.1 with | some (.ro g) => rowOk g 0 p.2 | _ => false
def extTab (tabs : List (Nat × List Value)) (base : ExtT) (k : FuncId) (f : FuncId) (args : List Value) (h : Heap) : Option (Option (Value × Heap)) :=
  cond (Nat.beq f k) (match args with | [] => cond (tabsOk tabs h) (some (some (.bool true, h))) (some none) | _ => some none) (base f args h)
theorem VR.const0_eq {ρ : Ren} : ∀ {v u : Value}, constOk0 v = true → VR ρ v u → u = v := by
  intro v u h r
  cases r <;> first | rfl | (simp [constOk0] at h)
theorem rowOk_get {g : Nat → Option Value} : ∀ {l : List Value} {i : Nat}, rowOk g i l = true → ∀ j v, l[j]? = some v → g (i + j) = some v
  | [], i, _, j, v, e => by simp at e
  | u :: l, i, h, j, v, e => by
    simp only [rowOk, Bool.and_eq_true] at h
    cases j with
    | zero =>
      simp only [List.getElem?_cons_zero, Option.some.injEq] at e
      subst e
      have h := h.1
      split at h
      · rename_i u' hu; rw [Nat.add_zero, hu, sameV_eq _ _ _ h]
      · cases h
    | succ j =>
      simp only [List.getElem?_cons_succ] at e
      have := rowOk_get h.2 j v e
      rw [show i + (j + 1) = i + 1 + j by omega]; exact this
theorem rowOk_of {g : Nat → Option Value} (hs : ∀ v : Value, constOk0 v = true → sameV 5 v v = true) : ∀ {l : List Value} {i : Nat}, (∀ j v, l[j]? = some v → g (i + j) = some v) → l.all constOk0 = true → rowOk g i l = true
  | [], i, _, _ => rfl
  | u :: l, i, h, hc => by
    simp only [List.all_cons, Bool.and_eq_true] at hc
    simp only [rowOk, Bool.and_eq_true]
    refine ⟨?_, rowOk_of hs (fun j v e => by have := h (j + 1) v (by simpa using e); rw [show i + 1 + j = i + (j + 1) by omega]; exact this) hc.2⟩
    have := h 0 u rfl
    rw [Nat.add_zero] at this
    rw [this]; exact hs u hc.1

/-- the world's variables hold what the tables say -/
def TabW (tabs : List (Nat × List Value)) (ng : Nat) (w : World) : Prop :=
  ng ≤ w.heap.size ∧ ∀ p ∈ tabs, p.1 < ng ∧ ∀ (j : Nat) (v : Value), p.2[j]? = some v → ∃ (xs : Array Value) (el : TypeId) (f : Nat × Nat), w.heap[p.1]? = some (.cells xs el f) ∧ xs[j]? = some v
def heap0 (tabs : List (Nat × List Value)) (ng : Nat) : Heap := { n := ng, b := tabs.foldl (fun t p => t.set p.1 (.ro fun i => nth p.2 i)) (T.ofList (List.replicate ng .dead)) }
theorem heap0_get {tabs : List (Nat × List Value)} {ng i : Nat} (hi : i < ng) : (heap0 tabs ng).b.get i = some .dead ∨ ∃ p ∈ tabs, p.1 = i ∧ (heap0 tabs ng).b.get i = some (.ro fun j => nth p.2 j) := by
  have key : ∀ (l : List (Nat × List Value)) (t : T Blk), (t.get i = some .dead ∨ ∃ p ∈ tabs, p.1 = i ∧ t.get i = some (.ro fun j => nth p.2 j)) → (∀ p ∈ l, p ∈ tabs) →
      ((l.foldl (fun t p => t.set p.1 (.ro fun i => nth p.2 i)) t).get i = some .dead ∨ ∃ p ∈ tabs, p.1 = i ∧ (l.foldl (fun t p => t.set p.1 (.ro fun i => nth p.2 i)) t).get i = some (.ro fun j => nth p.2 j)) := by
    intro l
    induction l with
    | nil => intro t h _; exact h
    | cons q l ih =>
      intro t h hm
      refine ih _ ?_ (fun p hp => hm p (List.mem_cons_of_mem _ hp))
      rw [T.get_set]
      by_cases hq : q.1 = i
      · rw [if_pos hq]; exact .inr ⟨q, hm q List.mem_cons_self, hq, rfl⟩
      · rw [if_neg hq]; exact h
  refine key tabs _ (.inl ?_) (fun p hp => hp)
  rw [T.get_ofList, List.getElem?_replicate, if_pos hi]
theorem heap0_hr {tabs : List (Nat × List Value)} {ng : Nat} {w : World} (ht : TabW tabs ng w) (hc : ∀ p ∈ tabs, p.2.all constOk0 = true) : HR P (renB ng) (heap0 tabs ng) w where
  dom i b c e := by
    unfold renB at e
    by_cases h : i < ng
    · rw [if_pos h] at e; cases e; exact ⟨h, Nat.lt_of_lt_of_le h ht.1⟩
    · rw [if_neg h] at e; cases e
  blk i b c e := by
    unfold renB at e
    by_cases h : i < ng
    · rw [if_pos h] at e; cases e
      have hlt : i < w.heap.size := Nat.lt_of_lt_of_le h ht.1
      rcases heap0_get (tabs := tabs) h with hd | ⟨p, hp, hpi, hd⟩
      · exact ⟨_, _, hd, Array.getElem?_eq_getElem hlt, .dead _⟩
      · refine ⟨_, _, hd, Array.getElem?_eq_getElem hlt, .ro _ _ fun j v e => ?_⟩
        rw [nth_eq] at e
        obtain ⟨xs, el, f, e1, e2⟩ := (ht.2 p hp).2 j v e
        rw [hpi, Array.getElem?_eq_getElem hlt] at e1
        have hv : constOk0 v = true := List.all_eq_true.1 (hc p hp) v (List.mem_of_getElem? e)
        exact ⟨xs, el, f, v, Option.some.inj e1, e2, VR.const0 _ hv⟩
    · rw [if_neg h] at e; cases e
  inj i j b c d e1 e2 hne := by
    unfold renB at e1 e2
    split at e1
    · split at e2
      · cases e1; cases e2; exact absurd rfl hne
      · cases e2
    · cases e1
/-- a closed call that looks at tables -/
theorem tab_calls {E : Env} (hE : EnvOK P E) (hx : ExtOK P E) (hn : NamesOK P) {tabs : List (Nat × List Value)} (hc : ∀ p ∈ tabs, p.2.all constOk0 = true) {d : Nat} {f : FuncId} {b : Bool} {h' : Heap} (hext : E.ext f [] (heap0 tabs E.ng) = none)
    (e : callF E d (.func f) [] (heap0 tabs E.ng) = some (.bool b, h')) (w : World) (ht : TabW tabs E.ng w) : Calls P f #[] w fun e w' => e = .returned (.bool b) ∧ Below w.heap.size w w' := by
  refine (callF_calls hE hx hn hext e (heap0_hr ht hc) (fun g hlt => ⟨0, by simp only [renB]; rw [if_pos hlt]⟩) .nil).mono fun e w' hh => ?_
  obtain ⟨v', ρ', rfl, r, hs⟩ := hh
  cases r
  refine ⟨rfl, hs.below fun i x e => ?_⟩
  unfold renB at e
  by_cases h : i < E.ng
  · rcases heap0_get (tabs := tabs) h with hd | ⟨p, _, _, hd⟩
    · exact .inl hd
    · exact .inr (.inl ⟨_, hd⟩)
  · rw [if_neg h] at e; cases e
theorem extTab_ok {ng k : Nat} {base : ExtT} (h0 : ExtOK P (envOf P ng base)) {tabs : List (Nat × List Value)} (hlt : tabs.all (fun p => Nat.blt p.1 ng) = true) (hc : ∀ p ∈ tabs, p.2.all constOk0 = true) {fn : Func} {c : Code} (hf : P.funcs[k]? = some fn) (hb : fn.body = some c) (hn : NamesOK P)
    (hk : ∀ w : World, TabW tabs ng w → Calls P k #[] w fun e w' => e = .returned (.bool true) ∧ Below w.heap.size w w') : ExtOK P (envOf P ng (extTab tabs base k)) := by
  intro f args h v h' e ρ w args' hr hg ra
  simp only [envOf, extTab, cond_beq] at e
  by_cases hfk : f = k
  · subst hfk
    rw [if_pos rfl] at e
    split at e
    · cases htb : tabsOk tabs h with
      | false => rw [htb] at e; simp at e
      | true =>
        rw [htb] at e
        simp only [cond_true, Option.some.injEq, Prod.mk.injEq] at e
        obtain ⟨rfl, rfl⟩ := e
        have hargs : args' = #[] := by obtain ⟨l⟩ := args'; simp only at ra; cases ra; rfl
        subst hargs
        have hw : TabW tabs ng w := by
          refine ⟨?_, fun p hp => ?_⟩
          · cases ng with
            | zero => exact Nat.zero_le _
            | succ m =>
              obtain ⟨c, e⟩ := hg m (by show m < m + 1; omega)
              exact (hr.dom _ _ _ e).2
          · have hpn : p.1 < ng := by have := List.all_eq_true.1 hlt p hp; simpa [blt_eq] using this
            refine ⟨hpn, fun j v e => ?_⟩
            obtain ⟨c, eg⟩ := hg p.1 hpn
            obtain ⟨k, o, k1, k2, k3⟩ := hr.blk _ _ _ eg
            have ht := List.all_eq_true.1 htb p hp
            simp only [k1] at ht
            cases k3 with
            | ro g _ hh =>
              have hrow := rowOk_get (i := 0) ht j v e
              rw [Nat.zero_add] at hrow
              obtain ⟨xs, el, f', v', e1, e2, r⟩ := hh j v hrow
              subst e1
              have hv : constOk0 v = true := List.all_eq_true.1 (hc p hp) v (List.mem_of_getElem? e)
              have : v' = v := VR.const0_eq hv r
              rw [this] at e2
              exact ⟨xs, el, f', k2, e2⟩
            | _ => cases ht
        refine .inr (.inl ⟨f, #[], run_callFunc hf hn hb #[] w, (hk w hw).mono fun e w' hh => ?_⟩)
        obtain ⟨rfl, hbl⟩ := hh
        exact ⟨_, ρ, rfl, .bool _, Stp.of_below hr hbl⟩
    · simp at e
  · rw [if_neg hfk] at e
    exact h0 f args h v h' e ρ w args' hr hg ra
end
end Go.Ev
