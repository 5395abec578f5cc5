/- THE EVALUATOR, part 'Top': a deterministic reading of the program's code over an abstract heap, and that the model does what it says. Conditions: none beyond each theorem's own. -/
import Derived.Test.YtagmggoapniheaaGreatZCode
import Derived.ProofKit
namespace Go.Ev
open Go.RowKit
section
variable {P : Program} {E : Env}

theorem callF_calls (hE : EnvOK P E) (hx : ExtOK P E) (hn : NamesOK P) {d : Nat} {f : FuncId} {fn : Func} {c : Code} {args : List Value} {v : Value} {h h' : Heap} (hf : P.funcs[f]? = some fn) (hb : fn.body = some c)
    (e : callF E d f args h = some (v, h')) {ρ : Ren} {w : World} {args' : Array Value} (hr : HR P ρ h w) (hg : GR E ρ) (ra : VRL ρ args args'.toList) :
    Calls P f args' w fun e w' => ∃ v' ρ', e = .returned v' ∧ VR ρ' v v' ∧ Stp P ρ h w ρ' h' w' := by
  rcases callF_sim hE hx hn d f args h v h' e ρ w args' hr hg ra with ⟨n, v', ρ', w', hrun, hnv, _⟩ | ⟨_, hc⟩
  · rw [run_callFunc hf hn hb] at hrun
    cases hrun
    simp [nval] at hnv
  · exact hc

theorem Stp.below {h h' : Heap} {w w' : World} {ρ : Ren} (hs : Stp P (fun _ => none) h w ρ h' w') : Below w.heap.size w w' :=
  ⟨hs.os, hs.tape, hs.output, hs.size, fun k hk => hs.frame k hk fun i c e => by cases e⟩

/-- a call without arguments, of a program whose variables it does not look at -/
theorem closed_calls (hE : EnvOK P E) (hx : ExtOK P E) (hn : NamesOK P) (hg : E.ng = 0) {d : Nat} {f : FuncId} {fn : Func} {c : Code} {b : Bool} {h' : Heap} (hf : P.funcs[f]? = some fn) (hb : fn.body = some c)
    (e : callF E d f [] { n := 0, b := .leaf } = some (.bool b, h')) (w : World) : Calls P f #[] w fun e w' => e = .returned (.bool b) ∧ Below w.heap.size w w' := by
  have hr : HR P (fun _ => none) { n := 0, b := .leaf } w := ⟨fun i b c e => absurd e (by simp), fun i b c e => absurd e (by simp), fun i j b c d e => absurd e (by simp)⟩
  refine (callF_calls hE hx hn hf hb e hr (fun g hlt => by omega) .nil).mono fun e w' hh => ?_
  obtain ⟨v', ρ', rfl, r, hs⟩ := hh
  cases r
  exact ⟨rfl, hs.below⟩

theorem tabOf_get (P : Program) : ∀ (l : List TypeInfo) (k t : Nat), (tabOf P l k)[t]? = (l[t]?).map (tiOf P (k + t))
  | [], k, t => by simp [tabOf]
  | i :: l, k, 0 => by simp [tabOf]
  | i :: l, k, t + 1 => by
    simp only [tabOf, List.getElem?_cons_succ]
    rw [tabOf_get P l (k + 1) t, show k + 1 + t = k + (t + 1) by omega]

theorem envOK (P : Program) (ng : Nat) (ext : FuncId → List Value → Option (Option Value)) (hm : P.follows .mixedOrders = true) : EnvOK P (envOf P ng ext) where
  tab t i h := by
    simp only [envOf, T.get_ofList, tabOf_get, Option.map_eq_some_iff, Nat.zero_add] at h
    obtain ⟨info, hi, rfl⟩ := h
    refine ⟨info, ?_, fun hd => ?_, rfl, rfl, rfl, fun z hz => ?_, fun hs => hs⟩
    · have hi : P.types[t]? = some info := by simpa using hi
      have hlt := (Array.getElem?_eq_some_iff.1 hi).1
      show (if t < P.types.size then P.types[t]? else _) = _
      rw [if_pos hlt]; exact hi
    · simp only [tiOf] at hd ⊢
      cases hu : P.underlying t with
      | none => rw [hu] at hd; exact absurd rfl hd
      | some d => rfl
    · simp only [tiOf] at hz
      cases hzz : info.zero with
      | none => rw [hzz] at hz; cases hz
      | some z' =>
        rw [hzz] at hz
        simp only [zeroOk] at hz
        cases hc : constOk z' with
        | false => rw [hc] at hz; cases hz
        | true => rw [hc] at hz; cases hz; exact ⟨rfl, hc⟩
  funs f fn h := by
    simp only [envOf, T.get_ofList] at h
    simpa using h
  mixed := hm

theorem noExt (P : Program) (ng : Nat) : ExtOK P (envOf P ng fun _ _ => none) := fun f args v h => by simp [envOf] at h

def namesB (P : Program) : Bool := P.funcs.toList.all fun fn => fn.body.isNone || fn.name != "runtime.NumGoroutine"
theorem namesOK (h : namesB P = true) : NamesOK P := by
  intro f fn hf hb hn
  unfold namesB at h
  rw [List.all_eq_true] at h
  have := h fn (by rw [Array.mem_toList_iff]; exact Array.mem_of_getElem? hf)
  simp [hn] at this
  rw [this] at hb; cases hb

theorem post_plain {H : Type} {enc : TypeId × Value → H} {f : Func} {s : ChangeSpec} {apart fresh handsOn : Bool} {W W' : World} {args : Array Value} {v : Value} {ds gs : List (DataW H)} {before pa pv : List MemPlace}
    (hW : DataW.Whole enc P f.params.toList s.vars apart W args.toList ds gs before)
    (hres : ∀ (b : Nat) (sp : Nat → Bool) (hd : Bool), DataW.TrodAll enc P W' b sp hd f.resultTypes.toList (v.resultList f.resultTypes.size) (s.fn H (ds ++ gs)).results [])
    (hargs : ∀ sp : Nat → Bool, (∀ p ∈ before, sp p.block = true) → DataW.TrodAll enc P W' 0 sp true f.params.toList args.toList (s.fn H (ds ++ gs)).args pa)
    (hvars : ∀ sp : Nat → Bool, (∀ p ∈ before, sp p.block = true) → DataW.TrodVars enc P W' sp s.vars (s.fn H (ds ++ gs)).vars pv)
    (hb : Below W.heap.size W W') : s.post enc P f apart fresh handsOn false W args v W' := by
  have hold : ∀ p ∈ before, (fun b => decide (b < W.heap.size)) p.block = true := fun p hp => by simpa using hW.lt p hp
  exact ⟨ds, gs, before, [], pa, pv, hW, hres _ _ _, hargs _ hold, hvars _ hold, hb.frame _, fun h => by cases h⟩
end
end Go.Ev
