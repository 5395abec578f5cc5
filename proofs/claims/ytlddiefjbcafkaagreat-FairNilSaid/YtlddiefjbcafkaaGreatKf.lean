/- 'known' (function 19) returns true: reckoned by the evaluator. Conditions: none. -/
import Derived.Test.YtlddiefjbcafkaaGreatRows
import Derived.Test.YtlddiefjbcafkaaGreatZOpen
import Derived.KernelRfl
set_option linter.unusedSimpArgs false
set_option linter.unusedVariables false
namespace Go.Proofs.YtlddiefjbcafkaaGreat.fairNil
open Go.RowKit
noncomputable def env0 : Go.Ev.Env := Go.Ev.envOf Tryz.prog 0 (Go.Ev.extAdd 245)
def isTrue : Option (Go.Value × Go.Ev.Heap) → Bool
  | some (.bool true, _) => true
  | _ => false
theorem of_isTrue {r : Option (Go.Value × Go.Ev.Heap)} (h : isTrue r = true) : ∃ h', r = some (.bool true, h') := by
  unfold isTrue at h
  split at h
  · exact ⟨_, rfl⟩
  · cases h
theorem reckoned0 : isTrue (Go.Ev.callF env0 60 (.func 19) [] (Go.Ev.Heap.mk 0 .leaf)) = true := by kernel_rfl
theorem names : Go.Ev.namesB Tryz.prog = true := by kernel_rfl
theorem add_ok : Go.Ev.ExtOK Tryz.prog env0 := Go.Ev.extAdd_ok Tryz.prog 0 245 Tryz.func245 (by kernel_rfl) (by kernel_rfl) (by kernel_rfl) (by kernel_rfl)
theorem known_calls (w : World) : Calls Tryz.prog 19 #[] w fun e w' => e = .returned (.bool true) ∧ Below w.heap.size w w' := by
  obtain ⟨h', e⟩ := of_isTrue reckoned0
  exact Go.Ev.closed_calls (Go.Ev.envOK Tryz.prog 0 _ (by kernel_rfl)) add_ok (Go.Ev.namesOK names) rfl rfl e w
theorem body_some : Tryz.f19.body.isSome = true := by kernel_rfl
theorem ext_ok : Go.Ev.ExtOK Tryz.prog (Go.Ev.envOf Tryz.prog 0 (Go.Ev.extKnown (Go.Ev.extAdd 245) 19)) := by
  obtain ⟨c, hc⟩ := Option.isSome_iff_exists.1 body_some
  exact Go.Ev.extKnown_ok add_ok (Nat.le_refl 0) Tryz.func19 hc (Go.Ev.namesOK names) known_calls
end Go.Proofs.YtlddiefjbcafkaaGreat.fairNil
