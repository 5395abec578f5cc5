/- 'known' returns true where its table is laid: reckoned. Conditions: each theorem's own. -/
import Derived.Test.YtjcmcoabckkjoaaDoorSB
import Derived.Test.YtjcmcoabckkjoaaDoorSC
set_option linter.unusedSimpArgs false
set_option linter.unusedVariables false
namespace Go.Proofs.YtjcmcoabckkjoaaDoor
open Go.Ev Go.RowKit
set_option maxRecDepth 100000
noncomputable def env0 : Env := envOf Tryd.prog 2 (extNan 19 (extFl 18 10 fun _ _ _ => none))
def isTrue : Option (Go.Value × Go.Ev.Heap) → Bool
  | some (.bool true, _) => true
  | _ => false
theorem of_isTrue {r : Option (Go.Value × Go.Ev.Heap)} (h : isTrue r = true) : ∃ h', r = some (.bool true, h') := by
  unfold isTrue at h
  split at h
  · exact ⟨_, rfl⟩
  · cases h
theorem reckoned : isTrue (callF env0 60 (.func 8) [] (heap0 tabs 2)) = true := by kernel_rfl
theorem tab_const : ∀ p ∈ tabs, p.2.all constOk0 = true := by
  have : tabs.all (fun p => p.2.all constOk0) = true := by decide
  exact fun p hp => List.all_eq_true.1 this p hp
theorem known_calls (w : World) (ht : TabW tabs 2 w) : Calls Tryd.prog 8 #[] w fun e w' => e = .returned (.bool true) ∧ Below w.heap.size w w' := by
  obtain ⟨h', e⟩ := of_isTrue reckoned
  exact tab_calls (E := env0) (envOK Tryd.prog 2 _ Na.mixed) (Na.nan_ok 2) (namesOK Na.names_ok) tab_const rfl e w ht
theorem body8 : Tryd.f8.body.isSome = true := by kernel_rfl
theorem ext_ok : ExtOK Tryd.prog env := by
  obtain ⟨c, hc⟩ := Option.isSome_iff_exists.1 body8
  exact extTab_ok (Na.nan_ok 2) rfl tab_const Tryd.func8 hc (namesOK Na.names_ok) known_calls
end Go.Proofs.YtjcmcoabckkjoaaDoor
