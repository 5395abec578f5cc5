/- 'helmsmanlaw27.PlainNil' returns true: the call is reckoned by the evaluator (texts Z*), whose soundness is proved there. Conditions: none. -/
import Derived.Test.YtagmggoapniheaaGreatRows
import Derived.Test.YtagmggoapniheaaGreatZTop
import Derived.WalkKit
import Derived.ProofKit
import Derived.OpenShut
import Derived.ShutString
namespace Go.Proofs.YtagmggoapniheaaGreat.plainNil
open Go.ChangeShapes Go.WideShapes Go.ChangeAt Go.RowKit
open Go.ChangeMaps (open_string shut_string)
set_option linter.unusedVariables false      -- a walk need not use every 'w<i>' (that an integer argument fits its kind)

theorem own : ownKnob Tryz.prog.godebug = none := by kernel_rfl

noncomputable def env : Go.Ev.Env := Go.Ev.envOf Tryz.prog 0 (fun _ _ => none)
def isTrue : Option (Go.Value × Go.Ev.Heap) → Bool
  | some (.bool true, _) => true
  | _ => false
theorem reckoned : isTrue (Go.Ev.callF env 60 5 [] (Go.Ev.Heap.mk 0 .leaf)) = true := by kernel_rfl
theorem names : Go.Ev.namesB Tryz.prog = true := by kernel_rfl
theorem of_isTrue {r : Option (Go.Value × Go.Ev.Heap)} (h : isTrue r = true) : ∃ h', r = some (.bool true, h') := by
  unfold isTrue at h
  split at h
  · exact ⟨_, rfl⟩
  · cases h
theorem hasBody : Tryz.f5.body.isSome = true := by kernel_rfl
theorem walk (w : World) : Calls Tryz.prog 5 #[] w fun e w' => e = .returned (.bool true) ∧ Below w.heap.size w w' := by
  obtain ⟨h', e⟩ := of_isTrue reckoned
  obtain ⟨c, hc⟩ := Option.isSome_iff_exists.1 hasBody
  exact Go.Ev.closed_calls (Go.Ev.envOK Tryz.prog 0 _ (by kernel_rfl)) (Go.Ev.noExt Tryz.prog 0) (Go.Ev.namesOK names) rfl Tryz.func5 hc e w

/-! ### THE ROW's STEP: WRITTEN OUT: LEAVE IT -/
set_option maxRecDepth 100000 in
theorem lifted (os : Os) (started : os.Started) (H : Type) (enc : TypeId × Value → H) :
    ReturnsInHanded {} Tryz.checked os 5 .any (Rows.plainNilSpec.pre6 enc Tryz.prog Tryz.f5 Rows.plainNilRow.domain false) (Rows.plainNilSpec.post enc Tryz.prog Tryz.f5 false true false false) := by
  refine returnsInHanded_of_change (C := Tryz.checked) own started (by kernel_rfl) Tryz.func5
    (ChangeSpec.witness6 (enc := enc) (C := Tryz.checked) false ⟨#[], #[], []⟩ 8 (by kernel_rfl) (by kernel_rfl) (by kernel_rfl) (by kernel_rfl)) ?_
  intro W base args ds gs before hval0 hW hcnd _
  have hval : ∀ (j : Nat) t v, Tryz.f5.params[j]? = some t → args[j]? = some v → Value.okWide Tryz.prog W .any base t v := hval0
  have hW' := hW
  obtain ⟨p, q, hA0, hV, rfl, hfz, hnd⟩ := hW
  have hA : DataW.TrodAll enc Tryz.prog W 0 (fun _ => true) true Tryz.f5.params.toList args.toList ds p := hA0
  rw [Tryz.params5] at hA hval
  obtain ⟨rfl, rfl, rfl⟩ := trodAll_none hA
  obtain ⟨rfl, rfl⟩ := trodVars_none hV
  clear hA0 hval0
  simp only [List.append_nil] at hW'
  refine (walk  W).mono fun e W' ⟨he, hg⟩ => ?_
  subst he
  exact ⟨_, rfl, Go.Ev.post_plain (pa := []) (pv := []) hW' (fun _ _ _ => (trodAll_cons_mk (shut_bool Tryz.underlying4 _) trodAll_mk0)) (fun sp _ => rfl) (fun _ _ => rfl) hg⟩

theorem over : Rows.plainNilRow.holds Tryz.pinned (OpenSpec.ofChange Rows.plainNilSpec) :=
  OpenClaim.holds_of_wide 5 Tryz.f5 rfl rfl rfl rfl rfl rfl rfl ⟨rfl, rfl, rfl, rfl, rfl⟩ rfl rfl rfl rfl rfl (by kernel_rfl) Tryz.func5 (by kernel_rfl)
    (of_decide_eq_true (by kernel_rfl)) (by unfold Func.isWrapper; first | (rw [if_pos (by decide +kernel)]; kernel_rfl) | (rw [if_neg (by decide +kernel)]; exact ⟨rfl, rfl⟩))
    (fun os started H enc _ => lifted os started H enc)

/-- ████ THE STATEMENT ████ -/
theorem proved : Rows.PlainNilSaid :=
  over
#print axioms proved
end Go.Proofs.YtagmggoapniheaaGreat.plainNil
