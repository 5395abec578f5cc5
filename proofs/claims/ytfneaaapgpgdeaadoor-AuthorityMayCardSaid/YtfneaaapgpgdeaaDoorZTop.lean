/- THE EVALUATOR, part 'Top': a deterministic reading of the program's code over an abstract heap, and that the model does what it says. Conditions: none beyond each theorem's own. -/
import Derived.Test.YtfneaaapgpgdeaaDoorZCode
import Derived.ProofKit
import Derived.Laws.Externs
set_option linter.unusedSimpArgs false
set_option linter.unusedVariables false
namespace Go.Ev
open Go.RowKit
section
variable {P : Program} {E : Env}

theorem callF_calls (hE : EnvOK P E) (hx : ExtOK P E) (hn : NamesOK P) {d : Nat} {f : FuncId} {args : List Value} {v : Value} {h h' : Heap} (hext : E.ext f args h = none)
    (e : callF E d (.func f) args h = some (v, h')) {ρ : Ren} {w : World} {args' : Array Value} (hr : HR P ρ h w) (hg : GR E ρ) (ra : VRL ρ args args'.toList) :
    Calls P f args' w fun e w' => ∃ v' ρ', e = .returned v' ∧ VR ρ' v v' ∧ Stp P ρ h w ρ' h' w' :=
  ((callF_both hE hx hn d).2 f args h v h' e hext ρ w args' hr hg ra).2

theorem Stp.below {h h' : Heap} {w w' : World} {ρ ρ' : Ren} (hs : Stp P ρ h w ρ' h' w') (hi : ∀ i x, ρ i = some x → Ev.soft (h.b.get i)) : Below w.heap.size w w' :=
  ⟨hs.os, hs.tape, hs.output, hs.size, fun k hk => hs.frame k hk fun i c e => hi i _ e⟩

/-- a call without arguments, of a program whose variables it does not look at -/
theorem closed_calls (hE : EnvOK P E) (hx : ExtOK P E) (hn : NamesOK P) (hg : E.ng = 0) {d : Nat} {f : FuncId} {b : Bool} {h' : Heap} (hext : E.ext f [] { n := 0, b := .leaf } = none)
    (e : callF E d (.func f) [] { n := 0, b := .leaf } = some (.bool b, h')) (w : World) : Calls P f #[] w fun e w' => e = .returned (.bool b) ∧ Below w.heap.size w w' := by
  have hr : HR P (fun _ => none) { n := 0, b := .leaf } w := ⟨fun i b c e => absurd e (by simp), fun i b c e => absurd e (by simp), fun i j b c d e => absurd e (by simp)⟩
  refine (callF_calls hE hx hn hext e hr (fun g hlt => by omega) .nil).mono fun e w' hh => ?_
  obtain ⟨v', ρ', rfl, r, hs⟩ := hh
  cases r
  exact ⟨rfl, hs.below fun i x e => by cases e⟩

theorem tabOf_get (P : Program) : ∀ (l : List TypeInfo) (k t : Nat), (tabOf P l k)[t]? = (l[t]?).map (tiOf P (k + t))
  | [], k, t => by simp [tabOf]
  | i :: l, k, 0 => by simp [tabOf]
  | i :: l, k, t + 1 => by
    simp only [tabOf, List.getElem?_cons_succ]
    rw [tabOf_get P l (k + 1) t, show k + 1 + t = k + (t + 1) by omega]

theorem envOK (P : Program) (ng : Nat) (ext : FuncId → List Value → Heap → Option (Option (Value × Heap))) (hm : P.follows .mixedOrders = true) : EnvOK P (envOf P ng ext) where
  tab t i h := by
    simp only [envOf, T.get_ofList, tabOf_get, Option.map_eq_some_iff, Nat.zero_add] at h
    obtain ⟨info, hi, rfl⟩ := h
    refine ⟨info, ?_, fun hd => ?_, rfl, rfl, rfl, fun z hz => ?_, fun hs => hs⟩
    · have hi : P.types[t]? = some info := by simpa using hi
      have hlt := (Array.getElem?_eq_some_iff.1 hi).1
      show (if t < P.types.size then P.types[t]? else _) = _
      rw [if_pos hlt]; exact hi
    · simp only [tiOf] at hd ⊢
      cases hu : P.underlying t with
      | none => rw [hu] at hd; exact absurd rfl hd
      | some d => rfl
    · simp only [tiOf] at hz
      cases hzz : info.zero with
      | none => rw [hzz] at hz; cases hz
      | some z' =>
        rw [hzz] at hz
        simp only [zeroOk] at hz
        cases hc : constOk z' with
        | false => rw [hc] at hz; cases hz
        | true => rw [hc] at hz; cases hz; exact ⟨rfl, hc⟩
  funs f fn h := by
    simp only [envOf, T.get_ofList] at h
    simpa using h
  mixed := hm
  dfr f h := by cases h
  qc f l v h := by cases h
theorem EnvOK.withDfr (hE : EnvOK P E) {d : FuncId → Bool} (hd : ∀ f, d f = true → HarmD P f) : EnvOK P { E with dfr := d } := ⟨hE.tab, hE.funs, hE.mixed, hd, hE.qc⟩

theorem noExt (P : Program) (ng : Nat) : ExtOK P (envOf P ng fun _ _ _ => none) := fun f args H v H' h => by simp [envOf] at h

/-! math/bits.Add64: the model's own word -/
def extAdd (n : FuncId) (f : FuncId) (args : List Value) (h : Heap) : Option (Option (Value × Heap)) :=
  cond (Nat.beq f n) (match args with
    | [.int .u64 x, .int .u64 y, .int .u64 c] => cond (decide (0 ≤ x) && decide (0 ≤ y) && decide (0 ≤ c) && decide (c ≤ 1))
        (some (some (.tuple #[.int .u64 ((x + y + c) % 18446744073709551616), .int .u64 ((x + y + c) / 18446744073709551616)], h))) (some none)
    | _ => some none) none
theorem extAdd_ok (P : Program) (ng n : Nat) {fn : Func} (hf : P.funcs[n]? = some fn) (hname : (fn.name == "runtime.NumGoroutine") = false) (hb : fn.body.isNone = true) (hn : Extern.findNext fn = none) (he : Extern.find fn = some add64Entry) :
    ExtOK P (envOf P ng (extAdd n)) := by
  intro f args h v h' e ρ w args' hr hg ra
  simp only [envOf, extAdd, cond_beq] at e
  by_cases hfn : f = n
  · subst hfn
    rw [if_pos rfl] at e
    split at e
    · rename_i x y c
      cases hc : (decide (0 ≤ x) && decide (0 ≤ y) && decide (0 ≤ c) && decide (c ≤ 1)) with
      | false => rw [hc] at e; simp at e
      | true =>
        rw [hc] at e
        simp only [cond_true, Option.some.injEq, Prod.mk.injEq] at e
        obtain ⟨rfl, rfl⟩ := e
        simp only [Bool.and_eq_true, decide_eq_true_eq] at hc
        have hargs : args' = #[.int .u64 x, .int .u64 y, .int .u64 c] := by
          obtain ⟨l⟩ := args'
          simp only at ra
          cases ra with
          | cons r1 t => cases r1; cases t with
            | cons r2 t => cases r2; cases t with
              | cons r3 t => cases r3; cases t; rfl
        subst hargs
        refine .inl ⟨.value (.tuple #[.int .u64 ((x + y + c) % 18446744073709551616), .int .u64 ((x + y + c) / 18446744073709551616)]), _, ρ, w, ?_, rfl, .tuple _ _ (.cons (.int _ _) (.cons (.int _ _) .nil)), Stp.refl hr⟩
        simp only [semOf]
        rw [run_callFunc_extern hf hname hb hn he, run_add64 x y c hc.1.1.1 hc.1.1.2 hc.1.2 hc.2]
        rfl
    · simp at e
  · rw [if_neg hfn] at e; cases e

def namesB (P : Program) : Bool := P.funcs.toList.all fun fn => fn.body.isNone || fn.name != "runtime.NumGoroutine"
theorem namesOK (h : namesB P = true) : NamesOK P := by
  intro f fn hf hb hn
  unfold namesB at h
  rw [List.all_eq_true] at h
  have := h fn (by rw [Array.mem_toList_iff]; exact Array.mem_of_getElem? hf)
  simp [hn] at this
  rw [this] at hb; cases hb

theorem post_plain {H : Type} {enc : TypeId × Value → H} {f : Func} {s : ChangeSpec} {apart fresh handsOn : Bool} {W W' : World} {args : Array Value} {v : Value} {ds gs : List (DataW H)} {before pa pv : List MemPlace}
    (hW : DataW.Whole enc P f.params.toList s.vars apart W args.toList ds gs before)
    (hres : ∀ (b : Nat) (sp : Nat → Bool) (hd : Bool), DataW.TrodAll enc P W' b sp hd f.resultTypes.toList (v.resultList f.resultTypes.size) (s.fn H (ds ++ gs)).results [])
    (hargs : ∀ sp : Nat → Bool, (∀ p ∈ before, sp p.block = true) → DataW.TrodAll enc P W' 0 sp true f.params.toList args.toList (s.fn H (ds ++ gs)).args pa)
    (hvars : ∀ sp : Nat → Bool, (∀ p ∈ before, sp p.block = true) → DataW.TrodVars enc P W' sp s.vars (s.fn H (ds ++ gs)).vars pv)
    (hb : Below W.heap.size W W') : s.post enc P f apart fresh handsOn false W args v W' := by
  have hold : ∀ p ∈ before, (fun b => decide (b < W.heap.size)) p.block = true := fun p hp => by simpa using hW.lt p hp
  exact ⟨ds, gs, before, [], pa, pv, hW, hres _ _ _, hargs _ hold, hvars _ hold, hb.frame _, fun h => by cases h⟩
end
end Go.Ev
