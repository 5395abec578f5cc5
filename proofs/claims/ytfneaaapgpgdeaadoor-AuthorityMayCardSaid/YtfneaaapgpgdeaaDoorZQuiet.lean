/- THE EVALUATOR, part 'Quiet': a deterministic reading of the program's code over an abstract heap, and that the model does what it says. Conditions: none beyond each theorem's own. -/
import Derived.Test.YtfneaaapgpgdeaaDoorZLib3
set_option linter.unusedSimpArgs false
set_option linter.unusedVariables false
namespace Go.Ev
open Go.RowKit
section
variable {P : Program}
/-- functions that leave memory alone: their word is reckoned in a memory in which nothing is -/
def noHeap : Heap := { n := 0, b := .leaf }
def isNon {α : Type} : Option α → Bool
  | none => true
  | some _ => false
def qval (E0 : Env) (d : Nat) (f : FuncId) (l : List Value) : Option Value :=
  cond (l.all constOk && isNon (E0.ext f l noHeap)) (match callF E0 d (.func f) l noHeap with
    | some (v, _) => cond (constOk v) (some v) none
    | none => none) none
def quiet (E E0 : Env) (d : Nat) (q : FuncId → Bool) : Env := { E with qf := q, qc := qval E0 d }

theorem VRL.const0_eq {ρ : Ren} : ∀ {l l' : List Value}, l.all constOk0 = true → VRL ρ l l' → l' = l
  | _, _, _, .nil => rfl
  | _, _, h, .cons r t => by
    simp only [List.all_cons, Bool.and_eq_true] at h
    rw [VR.const0_eq h.1 r, VRL.const0_eq h.2 t]
theorem VR.const_eq {ρ : Ren} {v v' : Value} (h : constOk v = true) (r : VR ρ v v') : v' = v := by
  unfold constOk at h
  split at h
  · rename_i cs
    cases r with
    | agg _ xs' hr => obtain ⟨xs⟩ := xs'; obtain ⟨cs⟩ := cs; simp only at hr h; rw [VRL.const0_eq h hr]
  · cases r with
    | tuple _ xs' hr => obtain ⟨xs⟩ := xs'; simp only at hr; cases hr; rfl
  · exact VR.const0_eq h r
theorem VRL.const_eq {ρ : Ren} : ∀ {l l' : List Value}, l.all constOk = true → VRL ρ l l' → l' = l
  | _, _, _, .nil => rfl
  | _, _, h, .cons r t => by
    simp only [List.all_cons, Bool.and_eq_true] at h
    rw [VR.const_eq h.1 r, VRL.const_eq h.2 t]
theorem VRL.const (ρ : Ren) : ∀ {l : List Value}, l.all constOk = true → VRL ρ l l
  | [], _ => .nil
  | v :: l, h => by simp only [List.all_cons, Bool.and_eq_true] at h; exact .cons (VR.const ρ h.1) (VRL.const ρ h.2)

theorem callF_body {E : Env} {d : Nat} {f : FuncId} {l : List Value} {h : Heap} {r : Value × Heap} (hx : E.ext f l h = none) (e : callF E d (.func f) l h = some r) : ∃ fn c, E.funs.get f = some fn ∧ fn.body = some c := by
  cases d with
  | zero => cases e
  | succ d =>
    simp only [callF, hx] at e
    split at e
    · cases e
    · rename_i fn hfn
      split at e
      · cases e
      · rename_i c hc; exact ⟨fn, c, hfn, hc⟩

theorem quiet_ok {E E0 : Env} (hE : EnvOK P E) (hE0 : EnvOK P E0) (hx0 : ExtOK P E0) (hn : NamesOK P) (hg : E0.ng = 0) (d : Nat) (q : FuncId → Bool) : EnvOK P (quiet E E0 d q) := by
  refine ⟨hE.tab, hE.funs, hE.mixed, hE.dfr, fun f l v _ e ρ w args' ra => ?_⟩
  simp only [quiet, qval] at e
  cases hc : (l.all constOk && isNon (E0.ext f l noHeap)) with
  | false => rw [hc] at e; cases e
  | true =>
    rw [hc, cond_true] at e
    simp only [Bool.and_eq_true] at hc
    have hext : E0.ext f l noHeap = none := by
      cases he : E0.ext f l noHeap with
      | none => rfl
      | some r => rw [he] at hc; exact absurd hc.2 (by simp [isNon])
    split at e
    · rename_i u h' hcall
      cases hv : constOk u with
      | false => rw [hv] at e; cases e
      | true =>
        rw [hv] at e
        simp only [cond_true, Option.some.injEq] at e
        subst e
        obtain ⟨fn, c, hfn, hb⟩ := callF_body hext hcall
        have hargs := VRL.const_eq hc.1 ra
        have hr : HR P (fun _ => none) noHeap w := ⟨fun i b c e => absurd e (by simp), fun i b c e => absurd e (by simp), fun i j b c d e e' => absurd e (by simp)⟩
        refine ⟨run_callFunc (hE0.funs f fn hfn) hn hb args' w, ?_⟩
        refine (callF_calls hE0 hx0 hn hext hcall hr (fun g hlt => by omega) (by rw [hargs]; exact VRL.const _ hc.1)).mono fun e w' hh => ?_
        obtain ⟨v', ρ', rfl, r, hs⟩ := hh
        rw [VR.const_eq hv r]
        exact ⟨_, rfl, VR.const _ hv, hs.below fun i x e => by cases e⟩
    · cases e
theorem quiet_ext {E E0 : Env} (h : ExtOK P E) (d : Nat) (q : FuncId → Bool) : ExtOK P (quiet E E0 d q) := h
end
end Go.Ev
