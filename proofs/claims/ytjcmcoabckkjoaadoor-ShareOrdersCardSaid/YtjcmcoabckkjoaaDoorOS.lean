/- ShareOrders holds: known() reckoned, what the laid variables give, the tied card. Conditions: none beyond the card's own. -/
import Derived.Test.YtjcmcoabckkjoaaDoorSA
import Derived.Test.YtjcmcoabckkjoaaDoorOX
import Derived.Test.YtjcmcoabckkjoaaDoorZRow
import Derived.Test.YtjcmcoabckkjoaaDoorRows
import Derived.Test.YtjcmcoabckkjoaaDoorCards
import Derived.Test.YtjcmcoabckkjoaaDoorTie
import Derived.LaidMore
import Derived.SevenTiedAt
import Derived.Stop.Joined
import Derived.WalkKit
import Derived.ProofKit
import Derived.OpenShut
import Derived.SizedLaws
set_option linter.unusedSimpArgs false
set_option linter.unusedVariables false
namespace Go.Proofs.YtjcmcoabckkjoaaDoor.Or
open Go.Ev Go.RowKit
set_option maxRecDepth 100000
noncomputable def env0 : Env := envOf Tryd.prog 2 (extNan 19 (extFl 18 10 fun _ _ _ => none))
def isTrue : Option (Go.Value × Go.Ev.Heap) → Bool
  | some (.bool true, _) => true
  | _ => false
theorem of_isTrue {r : Option (Go.Value × Go.Ev.Heap)} (h : isTrue r = true) : ∃ h', r = some (.bool true, h') := by
  unfold isTrue at h
  split at h
  · exact ⟨_, rfl⟩
  · cases h
theorem reckoned : isTrue (callF env0 60 (.func 8) [] (heap0 tabs 2)) = true := by kernel_rfl
theorem tab_const : ∀ p ∈ tabs, p.2.all constOk0 = true := by
  have : tabs.all (fun p => p.2.all constOk0) = true := by decide
  exact fun p hp => List.all_eq_true.1 this p hp
theorem known_calls (w : World) (ht : TabW tabs 2 w) : Calls Tryd.prog 8 #[] w fun e w' => e = .returned (.bool true) ∧ Below w.heap.size w w' := by
  obtain ⟨h', e⟩ := of_isTrue reckoned
  exact tab_calls (E := env0) (envOK Tryd.prog 2 _ Na.mixed) (Na.nan_ok 2) (namesOK Na.names_ok) tab_const rfl e w ht
theorem body8 : Tryd.f8.body.isSome = true := by kernel_rfl
theorem ext_ok : ExtOK Tryd.prog env := by
  obtain ⟨c, hc⟩ := Option.isSome_iff_exists.1 body8
  exact extTab_ok (Na.nan_ok 2) rfl tab_const Tryd.func8 hc (namesOK Na.names_ok) known_calls
end Go.Proofs.YtjcmcoabckkjoaaDoor.Or

set_option linter.unusedSimpArgs false
set_option linter.unusedVariables false
namespace Go.Proofs.YtjcmcoabckkjoaaDoor.Or
open Go.ChangeShapes Go.WideShapes Go.ChangeAt Go.RowKit
open Go.Ev (Leaf Leafs LeafU heapOf renB)
set_option maxRecDepth 100000
theorem own : ownKnob Tryd.prog.godebug = none := by kernel_rfl
theorem laidOut : laidOutB Tryd.prog = true := by kernel_rfl
theorem gDb : Tryd.prog.globalNamed "math/bits.deBruijn64tab" = some 1 := by kernel_rfl
theorem tDb : (Tryd.prog.globals[1]?).map (·.type) = some 93 := by kernel_rfl
theorem arr93 : Tryd.prog.underlying 93 = some (.array 64 5) := by kernel_rfl
theorem int5 : Tryd.prog.underlying 5 = some (.int .u8) := by kernel_rfl
theorem int3 : Tryd.prog.underlying 3 = some (.int .i64) := by kernel_rfl
theorem int23 : Tryd.prog.underlying 23 = some (.int .u64) := by kernel_rfl
theorem cells5 : Tryd.prog.cellsOf 5 = 1 := by kernel_rfl
/-! ### what is laid -/
abbrev laid3 : List (String × DataW Unit) := [("math/bits.deBruijn32tab", Rows.laid_math_bits_deBruijn32tab), ("math/bits.deBruijn64tab", Rows.laid_math_bits_deBruijn64tab), ("internal/strconv.uint64pow10", Rows.laid_internal_strconv_uint64pow10)]
theorem door_met3 (os : Os) (args : Array Value) : laidMetH Tryd.prog laid3 ((World.doorLaid Tryd.prog 400 os).forCall (fun _ _ => 0) ⟨#[], args, []⟩).memory :=
  laidMetH_of_parts3 (fuel := 8) (laidMet_of_run' 8 (by kernel_rfl) (by kernel_rfl)) (by kernel_rfl) (by kernel_rfl)
def dbn : List Int := [0, 1, 56, 2, 57, 49, 28, 3, 61, 58, 42, 50, 38, 29, 17, 4, 62, 47, 59, 36, 45, 43, 51, 22, 53, 39, 33, 30, 24, 18, 12, 5, 63, 55, 48, 27, 60, 41, 37, 16, 46, 35, 44, 21, 52, 32, 23, 11, 54, 26, 40, 15, 34, 20, 31, 10, 25, 14, 19, 9, 13, 8, 7, 6]
theorem dbs_n : dbs = dbn.map fun n => .int .u8 n := rfl
theorem laid_n : (Rows.laid_math_bits_deBruijn64tab : DataW Unit) = .agg (dbn.map fun n => .lit (.int .u8 n)) := rfl
theorem cell_tabs {W : World} (h1 : 1 < W.heap.size) (h : ∀ (i : Nat) (v : Value), dbs[i]? = some v → W.cell? ⟨1, i, none⟩ = some v) : Go.Ev.tabsOk tabs (heapOf W) = true := by
  simp only [Go.Ev.tabsOk, tabs, List.all_cons, List.all_nil, Bool.and_true]
  have c0 := h 0 _ rfl
  unfold World.cell? at c0
  simp only at c0
  rw [Go.Ev.heapOf_get]
  split at c0
  · rename_i c el f hb
    simp only [hb, Option.map_some, Go.Ev.roOf]
    refine Go.Ev.rowOk_of (i := 0) (fun v hv => ?_) (fun j v e => ?_) ?_
    · unfold Go.Ev.constOk0 at hv
      split at hv <;> first | (cases hv; done) | (simp [Go.Ev.sameV, Go.Ev.eqStr])
    · have := h j v e
      rw [show j = 0 + j by omega, Go.Ev.cell_of hb] at this
      rw [this, Option.bind_some]
      have hv : Go.Ev.constOk0 v = true := List.all_eq_true.1 (tab_const (1, dbs) (by simp [tabs])) v (List.mem_of_getElem? e)
      unfold Go.Ev.constOk0 at hv
      split at hv <;> first | (cases hv; done) | (simp [Go.Ev.absV, Go.Ev.okV0]; done) | (simp [Go.Ev.absV, Go.Ev.okV0, Go.Ev.blt_eq, Go.Ev.UNK])
    · exact tab_const (1, dbs) (by simp [tabs])
  · cases c0
/-- WHAT THE CONDITION GIVES -/
theorem of_laid {W : World} (h : laidMetH Tryd.prog laid3 W) : 1 < W.heap.size ∧ Go.Ev.tabsOk tabs (heapOf W) = true := by
  rw [MakeChecks.laidMetH_plain _ _ _ (by kernel_rfl)] at h
  obtain ⟨ps, ⟨_, _, _, _, _, _, _, _, _, _, ⟨g0, t0, cs0, f0, p0, q0, hg0, ht0, hv0, hd0, _, _⟩, _⟩, _, _⟩ := h
  obtain rfl := Option.some.inj (gDb.symm.trans hg0)
  obtain rfl := Option.some.inj (tDb.symm.trans ht0)
  obtain ⟨xs, m1, rfl, hx1, hlen, hn, hel⟩ := DataW.trod_array arr93 hd0
  rw [cells5] at hel
  have hx2 : dbn.map (fun b => DataW.lit (.int .u8 b)) = xs.map (·.1) := by
    have := (Prod.mk.inj hx1).1
    rw [laid_n] at this
    exact DataW.agg.inj this
  have key : ∀ (i : Nat) (v : Value), dbs[i]? = some v → cs0.toList[i]? = some v := by
    intro i v hv
    rw [dbs_n, List.getElem?_map] at hv
    obtain ⟨b, hb, rfl⟩ := Option.map_eq_some_iff.1 hv
    have hi : i < 64 := (List.getElem?_eq_some_iff.1 hb).1
    have h1 := hel i hi
    rw [Nat.mul_one, List.getElem?_eq_getElem (by omega)] at h1
    obtain ⟨s, e1, e2, _⟩ := DataW.trod_int int5 h1
    have h2 := congrArg (·[i]?) hx2
    simp only [List.getElem?_map, hb, Option.map_some, List.getElem?_eq_getElem (show i < xs.length by omega)] at h2
    rw [e2] at h2
    have h3 : b = s := by simpa using h2
    have := congrArg (·[0]?) e1
    simp only [List.getElem?_take_of_lt (show 0 < 1 by omega), List.getElem?_drop, Nat.add_zero] at this
    rw [this, h3]
    rfl
  have cell : ∀ (i : Nat) (v : Value), dbs[i]? = some v → W.cell? ⟨1, i, none⟩ = some v := by
    intro i v hv
    rw [World.var?_cell hg0 hv0 i, ← Array.getElem?_toList]
    exact key i v hv
  have h1 := (Go.Ev.cell_lt (cell 0 _ rfl)).1
  exact ⟨h1, cell_tabs h1 cell⟩
end Go.Proofs.YtjcmcoabckkjoaaDoor.Or

set_option linter.unusedSimpArgs false
set_option linter.unusedVariables false
namespace Go.Proofs.YtjcmcoabckkjoaaDoor.shareOrders
open Go.ChangeShapes Go.WideShapes Go.ChangeAt Go.RowKit
open Go.Proofs.YtjcmcoabckkjoaaDoor.Or
open Go.Ev (Leaf Leafs LeafU heapOf renB)
set_option maxRecDepth 100000
theorem slc22 : Tryd.prog.underlying 22 = some (.slice 23) := by kernel_rfl
theorem flat22 : Go.Ev.flat Tryd.prog 3 22 = some [.slc 23] := by kernel_rfl
theorem flat23 : Go.Ev.flat Tryd.prog 3 23 = some [.int .u64] := by kernel_rfl
theorem cells23 : Tryd.prog.cellsOf 23 = 1 := by kernel_rfl
theorem leafInt {P : Program} {W : World} {n : Nat} {k : IntKind} {u : Value} (h : LeafU P W n (.int k) u) : ∃ m, u = .int k m ∧ (Lit.int k m).wf = true := by cases n <;> exact h
theorem rows_u {l : List (List Value)} {W : World} {n : Nat} (h : ∀ r ∈ l, Leafs (LeafU Tryd.prog W n) [.int .u64] r) : ∃ us : List Int, l = us.map (fun n => [.int .u64 n]) ∧ ∀ x ∈ us, 0 ≤ x ∧ x ≤ 18446744073709551615 := by
  induction l with
  | nil => exact ⟨[], rfl, fun x hx => by cases hx⟩
  | cons r l ih =>
    obtain ⟨us, rfl, hu⟩ := ih fun r hr => h r (List.mem_cons_of_mem _ hr)
    obtain ⟨h1, h2⟩ := h r (List.mem_cons_self ..)
    match r, h1 with
    | [a], _ =>
      obtain ⟨n0, rfl, w⟩ := leafInt (h2 0 _ _ rfl rfl)
      simp only [Lit.wf, Bool.and_eq_true, decide_eq_true_eq] at w
      refine ⟨n0 :: us, rfl, fun x hx => ?_⟩
      rcases List.mem_cons.1 hx with rfl | hx
      · exact w
      · exact hu x hx
theorem one_slice {W : World} {b : Nat} {t e : TypeId} {v : Value} (hu : Tryd.prog.underlying t = some (.slice e)) (h : Value.okWide Tryd.prog W .any b t v) : v.cells = #[v] := by
  unfold Value.okWide at h
  rw [hu] at h
  cases v <;> first | rfl | (simp [Cell.okWide, Cell.ok, hu] at h)
theorem walk {W : World} (hL : laidMetH Tryd.prog laid3 W) {v0 : Value} {u : Value} (hu : LeafU Tryd.prog W 1 (.slc 23) u) (hv : Go.Ev.VR (renB W.heap.size) u v0) :
    Calls Tryd.prog 4 #[v0] W fun e w' => e = .returned (.bool true) ∧ Below W.heap.size W w' := by
  obtain ⟨h1, ht⟩ := of_laid hL
  obtain ⟨a, len, cap, rfl, _, _, hrows⟩ := hu
  obtain ⟨rows, rfl, hra, hrr⟩ := hrows 3 _ flat23 cells23
  obtain ⟨us, rfl, hus⟩ := rows_u hrr
  refine Go.Ev.open_calls (E := env) (us := [.slice a (us.map fun n => [Value.int .u64 n]).length cap]) (Go.Ev.envOK Tryd.prog 2 _ Na.mixed) ext_ok (Go.Ev.namesOK Na.names_ok) (fun g hg => ⟨0, by
    have : g < 2 := hg
    simp only [renB]; rw [if_pos (by omega)]⟩) (.cons hv .nil) rfl ?_
  rw [List.length_map]
  exact law4_ret (B := W.heap.size) ⟨hra, hus⟩ (Nat.le_refl _) h1 ht
theorem lifted (os : Os) (started : os.Started) (H : Type) (enc : TypeId × Value → H) :
    ReturnsInHanded {} Tryd.checked os 4 .any (fun w args => (Rows.shareOrdersSpec.pre enc Tryd.prog Tryd.f4 [] false w args ∧ laidMetH Tryd.prog laid3 w) ∧ sizedMet enc Tryd.prog Tryd.f4 (OpenSpec.ofChange Rows.shareOrdersSpec) false w args)
      (Rows.shareOrdersSpec.post enc Tryd.prog Tryd.f4 false true false false) := by
  refine returnsInHanded_of_change_and (C := Tryd.checked) (X := fun w _ => laidMetH Tryd.prog laid3 w) (fun _ _ _ hh h => h.of_heap hh) own started (by kernel_rfl) Tryd.func4
    (ChangeSpec.witness_shaped (enc := enc) (C := Tryd.checked) (os := os) (X := fun w _ => laidMetH Tryd.prog laid3 w) false (World.doorLaid Tryd.prog 400 os) #[.slice none 0 0] 8 rfl (World.shaped_of_RefB (by kernel_rfl) (by kernel_rfl)) (by kernel_rfl) (by kernel_rfl) (by kernel_rfl) (door_met3 os _)) ?_
  intro W base args ds gs before hval0 hW _ hwt hL _
  have hval : ∀ (j : Nat) t v, Tryd.f4.params[j]? = some t → args[j]? = some v → Value.okWide Tryd.prog W .any base t v := hval0
  have hW' := hW
  obtain ⟨p, q, hA0, hV, hpq, hfz, hnd⟩ := hW
  have hA : DataW.TrodAll enc Tryd.prog W 0 (fun _ => true) true Tryd.f4.params.toList args.toList ds p := hA0
  have hA2 := hA
  rw [Tryd.params4] at hA2 hval
  obtain ⟨v0, vs0, d0, ds0, p0, q0, ha0, rfl, rfl, h0, r0⟩ := trodAll_cons hA2
  obtain ⟨rfl, rfl, rfl⟩ := trodAll_nil r0
  obtain rfl : args = #[v0] := by cases args; simp_all
  have hV2 := hV
  obtain ⟨rfl, rfl⟩ := trodVars_none hV2
  have hs := one_slice slc22 (hval 0 22 v0 rfl rfl)
  have hw0 : Go.Ev.WT Tryd.prog 22 d0 := Go.Ev.WT.of hwt (j := 0) rfl rfl
  obtain ⟨us, hl, hvr⟩ := Go.Ev.arg_abs flat22 h0 hw0 1
  rw [hs] at hvr
  match us, hl with
  | [u], hl =>
    cases hvr with
    | cons hv _ =>
      refine (walk hL (hl.2 0 _ _ rfl rfl) hv).mono fun e W' ⟨he, hg⟩ => ?_
      subst he
      exact ⟨_, rfl, Go.Ev.post_law laidOut hW' hA hV hpq (by kernel_rfl) (by kernel_rfl) (fun _ _ _ => trodAll_cons_mk (shut_bool Tryd.underlying4 _) trodAll_mk0) rfl rfl hg⟩
theorem over : Rows.ShareOrdersSaid :=
  OpenClaim.holds_of_wide 4 Tryd.f4 rfl rfl rfl rfl rfl rfl rfl ⟨rfl, rfl, rfl, rfl, rfl⟩ rfl rfl rfl rfl rfl (by kernel_rfl) Tryd.func4 (by kernel_rfl)
    (of_decide_eq_true (by kernel_rfl)) (by unfold Func.isWrapper; first | (rw [if_pos (by decide +kernel)]; kernel_rfl) | (rw [if_neg (by decide +kernel)]; exact ⟨rfl, rfl⟩))
    (fun os started H enc _ => lifted os started H enc)

/-- ████ THE CARD ████ -/
theorem proved : Rows.ShareOrdersCardSaid :=
  Claim7.holds_tied_plain_at .later [] [.data, .data, .data] true (true, "2229701458b995ba0a1e8c2518dc7656afce2897b4d1df7d4cda38509585e017") true
    over (fun _ h => by cases h) (by kernel_rfl) (fun _ h => by cases h) shareOrders_row_tie rfl ⟨rfl, rfl⟩ (by kernel_rfl) rfl
    (fun f fn hf hfn => by
      obtain rfl : f = 4 := Option.some.inj ((show Tryd.prog.funcNamed "helmsman/helmsmanlaw31.ShareOrders" = some 4 by kernel_rfl).symm.trans hf) |>.symm
      obtain rfl : fn = Tryd.f4 := (Option.some.inj (Tryd.func4.symm.trans hfn)).symm
      exact ⟨by kernel_rfl, fun j t ht => by
        rw [Tryd.params4] at ht
        have hm : t ∈ [22] := by simpa using Array.mem_of_getElem? ht
        have hall : ([22].all fun u => !Tryd.prog.wantsStandIn u) = true := by kernel_rfl
        exact (show Tryd.prog.wantsStandIn t = false by simpa using List.all_eq_true.1 hall t (by simpa using hm))⟩)
    (by kernel_rfl)
#print axioms proved
end Go.Proofs.YtjcmcoabckkjoaaDoor.shareOrders

