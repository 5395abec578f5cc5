/- 'helmsmanlaw29.LimitsOver' returns true at every input (the tied card). Conditions: none. -/
import Derived.Test.YtdjnedamphifcaaDoorDC
import Derived.Test.YtdjnedamphifcaaDoorZRow
import Derived.Test.YtdjnedamphifcaaDoorRows
import Derived.Test.YtdjnedamphifcaaDoorCards
import Derived.Test.YtdjnedamphifcaaDoorTie
import Derived.LaidMore
import Derived.SevenTiedAt
import Derived.Stop.Joined
set_option linter.unusedSimpArgs false
set_option linter.unusedVariables false
namespace Go.Proofs.YtdjnedamphifcaaDoor.limitsOver
open Go.ChangeShapes Go.WideShapes Go.ChangeAt Go.RowKit
open Go.Ev (Leaf Leafs LeafU heapOf renB)
set_option maxRecDepth 100000

theorem own : ownKnob Tryd.prog.godebug = none := by kernel_rfl
theorem laidOut : laidOutB Tryd.prog = true := by kernel_rfl
theorem gNames : Tryd.prog.globalNamed "helmsman/limits.names" = some 0 := by kernel_rfl
theorem tNames : (Tryd.prog.globals[0]?).map (·.type) = some 41 := by kernel_rfl
theorem arr41 : Tryd.prog.underlying 41 = some (.array 10 9) := by kernel_rfl
theorem str9 : Tryd.prog.underlying 9 = some .string := by kernel_rfl
theorem cells9 : Tryd.prog.cellsOf 9 = 1 := by kernel_rfl
theorem cells30 : Tryd.prog.cellsOf 30 = 5 := by kernel_rfl
theorem slc22 : Tryd.prog.underlying 22 = some (.slice 30) := by kernel_rfl
theorem int3 : Tryd.prog.underlying 3 = some (.int .i64) := by kernel_rfl
theorem flat22 : Go.Ev.flat Tryd.prog 3 22 = some [.slc 30] := by kernel_rfl
theorem flat30 : Go.Ev.flat Tryd.prog 3 30 = some [.int .i64, .int .i64, .int .u64, .int .u64, .int .u64] := by kernel_rfl

/-! ### known(): a closed call, reckoned -/
noncomputable def env0 : Go.Ev.Env := Go.Ev.envOf Tryd.prog 0 (fun _ _ => none)
def isTrue : Option (Go.Value × Go.Ev.Heap) → Bool
  | some (.bool true, _) => true
  | _ => false
theorem reckoned : isTrue (Go.Ev.callF env0 60 (.func 4) [] (Go.Ev.Heap.mk 0 .leaf)) = true := by kernel_rfl
theorem of_isTrue {r : Option (Go.Value × Go.Ev.Heap)} (h : isTrue r = true) : ∃ h', r = some (.bool true, h') := by
  unfold isTrue at h
  split at h
  · exact ⟨_, rfl⟩
  · cases h
theorem names_ok : Go.Ev.namesB Tryd.prog = true := by kernel_rfl
theorem mixed : Tryd.prog.follows .mixedOrders = true := by kernel_rfl
theorem known_calls (w : World) : Calls Tryd.prog 4 #[] w fun e w' => e = .returned (.bool true) ∧ Below w.heap.size w w' := by
  obtain ⟨h', e⟩ := of_isTrue reckoned
  exact Go.Ev.closed_calls (Go.Ev.envOK Tryd.prog 0 _ mixed) (Go.Ev.noExt Tryd.prog 0) (Go.Ev.namesOK names_ok) rfl rfl e w
theorem body4 : Tryd.f4.body.isSome = true := by kernel_rfl
theorem ext_ok : Go.Ev.ExtOK Tryd.prog env := by
  obtain ⟨c, hc⟩ := Option.isSome_iff_exists.1 body4
  exact Go.Ev.extKnown_ok (Go.Ev.noExt Tryd.prog 0) (Nat.zero_le 1) Tryd.func4 hc (Go.Ev.namesOK names_ok) known_calls

/-! ### what is laid -/
abbrev laid1 : List (String × DataW Unit) := [("helmsman/limits.names", Rows.laid_helmsman_limits_names)]
theorem door_met (os : Os) (args : Array Value) : laidMetH Tryd.prog laid1 ((World.doorLaid Tryd.prog 400 os).forCall (fun _ _ => 0) ⟨#[], args, []⟩).memory :=
  laidMetH_of_parts3 (fuel := 8) (laidMet_of_run' 8 (by kernel_rfl) (by kernel_rfl)) (by kernel_rfl) (by kernel_rfl)

def bytes : List (List UInt8) := [[63], [108, 105, 118, 101], [111, 119, 110], [99, 97, 114, 118, 101, 100], [99, 104, 105, 108, 100, 114, 101, 110], [99, 111, 117, 110, 116], [117, 115, 101, 100], [98, 117, 100, 103, 101, 116], [114, 101, 102, 105, 108, 108, 115], [98, 111, 117, 110, 100]]
theorem names_bytes : names = bytes.map fun b => .string ⟨⟨b⟩⟩ := rfl
theorem laid_bytes : (Rows.laid_helmsman_limits_names : DataW Unit) = .agg (bytes.map fun b => .lit (.string b)) := rfl

/-- WHAT THE CONDITION GIVES -/
theorem of_laid {W : World} (h : laidMetH Tryd.prog laid1 W) : 0 < W.heap.size ∧ Names (heapOf W) := by
  rw [MakeChecks.laidMetH_plain _ _ _ (by kernel_rfl)] at h
  obtain ⟨ps, ⟨g0, t0, cs0, f0, p0, q0, hg0, ht0, hv0, hd0, _, _⟩, _, _⟩ := h
  obtain rfl := Option.some.inj (gNames.symm.trans hg0)
  obtain rfl := Option.some.inj (tNames.symm.trans ht0)
  obtain ⟨xs, m1, rfl, hx1, hlen, hn, hel⟩ := DataW.trod_array arr41 hd0
  rw [cells9] at hel
  have hx2 : bytes.map (fun b => DataW.lit (.string b)) = xs.map (·.1) := by
    have := (Prod.mk.inj hx1).1
    rw [laid_bytes] at this
    exact DataW.agg.inj this
  have key : ∀ (i : Nat) (v : Value), names[i]? = some v → cs0.toList[i]? = some v := by
    intro i v hv
    rw [names_bytes, List.getElem?_map] at hv
    obtain ⟨b, hb, rfl⟩ := Option.map_eq_some_iff.1 hv
    have hi : i < 10 := (List.getElem?_eq_some_iff.1 hb).1
    have h1 := hel i hi
    rw [Nat.mul_one, List.getElem?_eq_getElem (by omega)] at h1
    obtain ⟨s, e1, e2, _⟩ := DataW.trod_string str9 h1
    have h2 := congrArg (·[i]?) hx2
    simp only [List.getElem?_map, hb, Option.map_some, List.getElem?_eq_getElem (show i < xs.length by omega)] at h2
    rw [e2] at h2
    have h3 : b = s.data.toList := by simpa using h2
    have := congrArg (·[0]?) e1
    simp only [List.getElem?_take_of_lt (show 0 < 1 by omega), List.getElem?_drop, Nat.add_zero] at this
    rw [this, h3]
    rfl
  have cell : ∀ (i : Nat) (v : Value), names[i]? = some v → W.cell? ⟨0, i, none⟩ = some v := by
    intro i v hv
    rw [World.var?_cell hg0 hv0 i, ← Array.getElem?_toList]
    exact key i v hv
  refine ⟨(Go.Ev.cell_lt (cell 0 _ rfl)).1, fun i v hv => Go.Ev.heapOf_cell (cell i v hv) ?_⟩
  rw [names_bytes, List.getElem?_map] at hv
  obtain ⟨b, hb, rfl⟩ := Option.map_eq_some_iff.1 hv
  rfl

theorem rows_used {l : List (List Value)} {W : World} (h : ∀ r ∈ l, Leafs (LeafU Tryd.prog W 0) [.int .i64, .int .i64, .int .u64, .int .u64, .int .u64] r) : ∃ us : List UsedD, l = us.map UsedD.cells := by
  induction l with
  | nil => exact ⟨[], rfl⟩
  | cons r l ih =>
    obtain ⟨us, rfl⟩ := ih fun r hr => h r (List.mem_cons_of_mem _ hr)
    obtain ⟨h1, h2⟩ := h r (List.mem_cons_self ..)
    match r, h1 with
    | [a, b, c, d, e], _ =>
      obtain ⟨n0, rfl, _⟩ := h2 0 _ _ rfl rfl
      obtain ⟨n1, rfl, _⟩ := h2 1 _ _ rfl rfl
      obtain ⟨n2, rfl, _⟩ := h2 2 _ _ rfl rfl
      obtain ⟨n3, rfl, _⟩ := h2 3 _ _ rfl rfl
      obtain ⟨n4, rfl, _⟩ := h2 4 _ _ rfl rfl
      exact ⟨⟨n0, n1, n2, n3, n4⟩ :: us, rfl⟩

theorem walk {W : World} (hL : laidMetH Tryd.prog laid1 W) {v0 : Value} {r : Int} (hr : (Lit.int .i64 r).wf = true) {u : Value} (hu : LeafU Tryd.prog W 1 (.slc 30) u) (hv : Go.Ev.VR (renB W.heap.size) u v0) :
    Calls Tryd.prog 3 #[v0, .int .i64 r] W fun e w' => e = .returned (.bool true) ∧ Below W.heap.size W w' := by
  obtain ⟨h0, hn⟩ := of_laid hL
  obtain ⟨a, len, cap, rfl, _, hrows⟩ := hu
  obtain ⟨rows, rfl, hra, hrr⟩ := hrows 3 _ flat30 cells30
  obtain ⟨us, rfl⟩ := rows_used hrr
  simp only [Lit.wf, Bool.and_eq_true, decide_eq_true_eq] at hr
  refine Go.Ev.open_calls (E := env) (us := [.slice a (us.map UsedD.cells).length cap, .int .i64 r]) (Go.Ev.envOK Tryd.prog 1 _ mixed) ext_ok (Go.Ev.namesOK names_ok) (fun g hg => ⟨0, by
    have : g < 1 := hg
    simp only [renB]; rw [if_pos (by omega)]⟩) (.cons hv (.cons (.int _ _) .nil)) rfl ?_
  rw [List.length_map]
  exact law_ret hn h0 hr.1 hr.2 hra

theorem one_slice {W : World} {b : Nat} {t e : TypeId} {v : Value} (hu : Tryd.prog.underlying t = some (.slice e)) (h : Value.okWide Tryd.prog W .any b t v) : v.cells = #[v] := by
  unfold Value.okWide at h
  rw [hu] at h
  cases v <;> first | rfl | (simp [Cell.okWide, Cell.ok, hu] at h)

theorem lifted (os : Os) (started : os.Started) (H : Type) (enc : TypeId × Value → H) :
    ReturnsInHanded {} Tryd.checked os 3 .any (fun w args => (Rows.limitsOverSpec.pre enc Tryd.prog Tryd.f3 [] false w args ∧ laidMetH Tryd.prog laid1 w) ∧ sizedMet enc Tryd.prog Tryd.f3 (OpenSpec.ofChange Rows.limitsOverSpec) false w args)
      (Rows.limitsOverSpec.post enc Tryd.prog Tryd.f3 false true false false) := by
  refine returnsInHanded_of_change_and (C := Tryd.checked) (X := fun w _ => laidMetH Tryd.prog laid1 w) (fun _ _ _ hh h => h.of_heap hh) own started (by kernel_rfl) Tryd.func3
    (ChangeSpec.witness_shaped (enc := enc) (C := Tryd.checked) (os := os) (X := fun w _ => laidMetH Tryd.prog laid1 w) false (World.doorLaid Tryd.prog 400 os) #[.slice none 0 0, .int .i64 0] 8 rfl (World.shaped_of_RefB (by kernel_rfl) (by kernel_rfl)) (by kernel_rfl) (by kernel_rfl) (by kernel_rfl) (door_met os _)) ?_
  intro W base args ds gs before hval0 hW _ _ hL _
  have hval : ∀ (j : Nat) t v, Tryd.f3.params[j]? = some t → args[j]? = some v → Value.okWide Tryd.prog W .any base t v := hval0
  have hW' := hW
  obtain ⟨p, q, hA0, hV, hpq, hfz, hnd⟩ := hW
  have hA : DataW.TrodAll enc Tryd.prog W 0 (fun _ => true) true Tryd.f3.params.toList args.toList ds p := hA0
  have hA2 := hA
  rw [Tryd.params3] at hA2 hval
  obtain ⟨v0, v1, d0, d1, p0, p1, rfl, rfl, rfl, h0, h1⟩ := trodAll_two hA2
  have hV2 := hV
  obtain ⟨rfl, rfl⟩ := trodVars_none hV2
  have hs := one_slice slc22 (hval 0 22 v0 rfl rfl)
  obtain ⟨r, rfl, rfl, rfl, wr⟩ := open_int int3 (hval 1 3 v1 rfl rfl) h1
  obtain ⟨us, hl, hvr⟩ := Go.Ev.arg_abs flat22 h0 1
  rw [hs] at hvr
  match us, hl with
  | [u], hl =>
    cases hvr with
    | cons hv _ =>
      refine (walk hL wr (hl.2 0 _ _ rfl rfl) hv).mono fun e W' ⟨he, hg⟩ => ?_
      subst he
      exact ⟨_, rfl, Go.Ev.post_law laidOut hW' hA hV hpq (by kernel_rfl) (by kernel_rfl) (fun _ _ _ => trodAll_cons_mk (shut_bool Tryd.underlying4 _) trodAll_mk0) rfl rfl hg⟩

theorem over : Rows.LimitsOverSaid :=
  OpenClaim.holds_of_wide 3 Tryd.f3 rfl rfl rfl rfl rfl rfl rfl ⟨rfl, rfl, rfl, rfl, rfl⟩ rfl rfl rfl rfl rfl (by kernel_rfl) Tryd.func3 (by kernel_rfl)
    (of_decide_eq_true (by kernel_rfl)) (by unfold Func.isWrapper; first | (rw [if_pos (by decide +kernel)]; kernel_rfl) | (rw [if_neg (by decide +kernel)]; exact ⟨rfl, rfl⟩))
    (fun os started H enc _ => lifted os started H enc)

/-- ████ THE CARD ████ -/
theorem proved : Rows.LimitsOverCardSaid :=
  Claim7.holds_tied_plain_at .later [] [.data] true (true, "17db6b3da56a14eac049fe4c16e270913fa8bdd7e17ba97fae39a1e2185d79a2") false
    over (fun _ h => by cases h) (by kernel_rfl) (fun _ h => by cases h) limitsOver_row_tie rfl ⟨rfl, rfl⟩ (by kernel_rfl) rfl
    (fun f fn hf hfn => by
      obtain rfl : f = 3 := Option.some.inj ((show Tryd.prog.funcNamed "helmsman/helmsmanlaw29.LimitsOver" = some 3 by kernel_rfl).symm.trans hf) |>.symm
      obtain rfl : fn = Tryd.f3 := (Option.some.inj (Tryd.func3.symm.trans hfn)).symm
      exact ⟨by kernel_rfl, fun j t ht => by
        rw [Tryd.params3] at ht
        have hm : t ∈ [22, 3] := by simpa using Array.mem_of_getElem? ht
        have hall : ([22, 3].all fun u => !Tryd.prog.wantsStandIn u) = true := by kernel_rfl
        exact (show Tryd.prog.wantsStandIn t = false by simpa using List.all_eq_true.1 hall t hm)⟩)
    (by kernel_rfl)
#print axioms proved
end Go.Proofs.YtdjnedamphifcaaDoor.limitsOver
