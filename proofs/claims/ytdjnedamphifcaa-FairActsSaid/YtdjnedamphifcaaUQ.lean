/- 'known' returns true, reckoned by the evaluator. Conditions, none. -/
import Derived.Test.YtdjnedamphifcaaVA
import Derived.Test.YtdjnedamphifcaaZC
import Derived.Test.YtdjnedamphifcaaRows
import Derived.KernelRfl
set_option linter.unusedSimpArgs false
set_option linter.unusedVariables false
namespace Go.Proofs.Ytdjnedamphifcaa
open Go.RowKit
set_option maxRecDepth 100000
/-! known(): a closed call, reckoned -/
noncomputable def env0 : Go.Ev.Env := Go.Ev.envOf Try.prog 0 (Go.Ev.extAdd 67)
def isTrue : Option (Go.Value × Go.Ev.Heap) → Bool
  | some (.bool true, _) => true
  | _ => false
theorem of_isTrue {r : Option (Go.Value × Go.Ev.Heap)} (h : isTrue r = true) : ∃ h', r = some (.bool true, h') := by
  unfold isTrue at h
  split at h
  · exact ⟨_, rfl⟩
  · cases h
theorem reckoned0 : isTrue (Go.Ev.callF env0 60 (.func 6) [] (Go.Ev.Heap.mk 0 .leaf)) = true := by kernel_rfl
theorem names : Go.Ev.namesB Try.prog = true := by kernel_rfl
theorem mixed : Try.prog.follows .mixedOrders = true := by kernel_rfl
theorem add_ok : Go.Ev.ExtOK Try.prog env0 := Go.Ev.extAdd_ok Try.prog 0 67 Try.func67 (by kernel_rfl) (by kernel_rfl) (by kernel_rfl) (by kernel_rfl)
theorem known_calls (w : World) : Calls Try.prog 6 #[] w fun e w' => e = .returned (.bool true) ∧ Below w.heap.size w w' := by
  obtain ⟨h', e⟩ := of_isTrue reckoned0
  exact Go.Ev.closed_calls (Go.Ev.envOK Try.prog 0 _ mixed) add_ok (Go.Ev.namesOK names) rfl rfl e w
theorem body_some : Try.f6.body.isSome = true := by kernel_rfl
theorem ext_ok : Go.Ev.ExtOK Try.prog env := by
  obtain ⟨c, hc⟩ := Option.isSome_iff_exists.1 body_some
  exact Go.Ev.extKnown_ok add_ok (Nat.le_refl 0) Try.func6 hc (Go.Ev.namesOK names) known_calls
end Go.Proofs.Ytdjnedamphifcaa

