/- AuthorityMay: whatever the call, the field and the goroutine are, the law answers true, and what came in reads as it did. Conditions: the row's own (library tables laid, as the card ties them). -/
import Derived.Test.YtfneaaapgpgdeaaDoorMF
import Derived.Test.YtfneaaapgpgdeaaDoorZRow
import Derived.Test.YtfneaaapgpgdeaaDoorRows
import Derived.Test.YtfneaaapgpgdeaaDoorCards
import Derived.Test.YtfneaaapgpgdeaaDoorTie
import Derived.LaidMore
import Derived.SevenTiedAt
import Derived.Stop.Joined
import Derived.WalkKit
import Derived.ProofKit
import Derived.OpenShut
import Derived.SizedLaws
set_option linter.unusedSimpArgs false
set_option linter.unusedVariables false
set_option linter.unusedSimpArgs false
set_option linter.unusedVariables false
namespace Go.Proofs.YtfneaaapgpgdeaaDoor.Am
open Go.ChangeShapes Go.WideShapes Go.ChangeAt Go.RowKit
open Go.Ev (Leaf Leafs LeafU heapOf renB)
set_option maxRecDepth 100000
theorem own : ownKnob Tryd.prog.godebug = none := by kernel_rfl
theorem laidOut : laidOutB Tryd.prog = true := by kernel_rfl
theorem int3 : Tryd.prog.underlying 3 = some (.int .i64) := by kernel_rfl
theorem int22 : Tryd.prog.underlying 22 = some (.int .u64) := by kernel_rfl
theorem cells22 : Tryd.prog.cellsOf 22 = 1 := by kernel_rfl
theorem gP10 : Tryd.prog.globalNamed "internal/strconv.uint64pow10" = some 0 := by kernel_rfl
theorem tP10 : (Tryd.prog.globals[0]?).map (·.type) = some 98 := by kernel_rfl
theorem arr98 : Tryd.prog.underlying 98 = some (.array 20 22) := by kernel_rfl
/-! ### what is laid -/
abbrev laid3 : List (String × DataW Unit) := [("math/bits.deBruijn32tab", Rows.laid_math_bits_deBruijn32tab), ("math/bits.deBruijn64tab", Rows.laid_math_bits_deBruijn64tab), ("internal/strconv.uint64pow10", Rows.laid_internal_strconv_uint64pow10)]
theorem door_met3 (os : Os) (args : Array Value) : laidMetH Tryd.prog laid3 ((World.doorLaid Tryd.prog 400 os).forCall (fun _ _ => 0) ⟨#[], args, []⟩).memory :=
  laidMetH_of_parts3 (fuel := 8) (laidMet_of_run' 8 (by kernel_rfl) (by kernel_rfl)) (by kernel_rfl) (by kernel_rfl)
theorem p10_n : p10 = (List.range 20).map fun n => .int .u64 ((10 ^ n : Nat) : Int) := rfl
theorem laid_p : (Rows.laid_internal_strconv_uint64pow10 : DataW Unit) = .agg ((List.range 20).map fun n => .lit (.int .u64 ((10 ^ n : Nat) : Int))) := by kernel_rfl
theorem cell_tab1 {W : World} {b : Nat} {l : List Value} (h0 : ∃ v, l[0]? = some v) (hc : l.all Go.Ev.constOk0 = true) (h : ∀ (i : Nat) (v : Value), l[i]? = some v → W.cell? ⟨b, i, none⟩ = some v) : Go.Ev.tabsOk [(b, l)] (heapOf W) = true := by
  simp only [Go.Ev.tabsOk, List.all_cons, List.all_nil, Bool.and_true]
  obtain ⟨v0, h0⟩ := h0
  have c0 := h 0 _ h0
  unfold World.cell? at c0
  simp only at c0
  rw [Go.Ev.heapOf_get]
  split at c0
  · rename_i c el f hb
    simp only [hb, Option.map_some, Go.Ev.roOf]
    refine Go.Ev.rowOk_of (i := 0) (fun v hv => ?_) (fun j v e => ?_) ?_
    · unfold Go.Ev.constOk0 at hv
      split at hv <;> first | (cases hv; done) | (simp [Go.Ev.sameV, Go.Ev.eqStr])
    · have := h j v e
      rw [show j = 0 + j by omega, Go.Ev.cell_of hb] at this
      rw [this, Option.bind_some]
      have hv : Go.Ev.constOk0 v = true := List.all_eq_true.1 hc v (List.mem_of_getElem? e)
      unfold Go.Ev.constOk0 at hv
      split at hv <;> first | (cases hv; done) | (simp [Go.Ev.absV, Go.Ev.okV0]; done) | (simp [Go.Ev.absV, Go.Ev.okV0, Go.Ev.blt_eq, Go.Ev.UNK])
    · exact hc
  · cases c0
theorem cell_tabs {W : World} (h' : ∀ (i : Nat) (v : Value), p10[i]? = some v → W.cell? ⟨0, i, none⟩ = some v) : Go.Ev.tabsOk tabs (heapOf W) = true :=
  cell_tab1 (b := 0) (l := p10) ⟨_, rfl⟩ (tab_const (0, p10) (by simp [tabs])) h'
/-- WHAT THE CONDITION GIVES -/
theorem of_laid {W : World} (h : laidMetH Tryd.prog laid3 W) : 0 < W.heap.size ∧ Go.Ev.tabsOk tabs (heapOf W) = true := by
  rw [MakeChecks.laidMetH_plain _ _ _ (by kernel_rfl)] at h
  obtain ⟨ps, ⟨_, _, _, _, _, _, _, _, _, _, ⟨g0, t0, cs0, f0, p0, q0, hg0, ht0, hv0, hd0, ⟨g1, t1, cs1, f1, p1, q1, hg1, ht1, hv1, hd1, _, _⟩, _⟩, _⟩, _, _⟩ := h
  obtain rfl := Option.some.inj (gP10.symm.trans hg1)
  obtain rfl := Option.some.inj (tP10.symm.trans ht1)
  obtain ⟨ys, m2, rfl, hy1, hlen2, hn2, hel2⟩ := DataW.trod_array arr98 hd1
  rw [cells22] at hel2
  have hy2 : (List.range 20).map (fun n => DataW.lit (.int .u64 ((10 ^ n : Nat) : Int))) = ys.map (·.1) := by
    have := (Prod.mk.inj hy1).1
    rw [laid_p] at this
    exact DataW.agg.inj this
  have key2 : ∀ (i : Nat) (v : Value), p10[i]? = some v → cs1.toList[i]? = some v := by
    intro i v hv
    rw [p10_n, List.getElem?_map] at hv
    obtain ⟨b, hb, rfl⟩ := Option.map_eq_some_iff.1 hv
    have hi : i < 20 := by have := (List.getElem?_eq_some_iff.1 hb).1; simpa using this
    have h1 := hel2 i hi
    rw [Nat.mul_one, List.getElem?_eq_getElem (by omega)] at h1
    obtain ⟨s, e1, e2, _⟩ := DataW.trod_int int22 h1
    have h2 := congrArg (·[i]?) hy2
    simp only [List.getElem?_map, hb, Option.map_some, List.getElem?_eq_getElem (show i < ys.length by omega)] at h2
    rw [e2] at h2
    have h3 : ((10 ^ b : Nat) : Int) = s := by simpa using h2
    have := congrArg (·[0]?) e1
    simp only [List.getElem?_take_of_lt (show 0 < 1 by omega), List.getElem?_drop, Nat.add_zero] at this
    rw [this, h3]
    rfl
  have cell2 : ∀ (i : Nat) (v : Value), p10[i]? = some v → W.cell? ⟨0, i, none⟩ = some v := by
    intro i v hv
    rw [World.var?_cell hg1 hv1 i, ← Array.getElem?_toList]
    exact key2 i v hv
  exact ⟨(Go.Ev.cell_lt (cell2 0 _ rfl)).1, cell_tabs cell2⟩
theorem num_globals : Tryd.prog.globals.size = 3 := by kernel_rfl
theorem flat3 : Go.Ev.flat Tryd.prog 3 3 = some [.int .i64] := by kernel_rfl
theorem flat24 : Go.Ev.flat Tryd.prog 3 24 = some [.int .i64, .int .u64] := by kernel_rfl
theorem leafInt {P : Program} {W : World} {n : Nat} {k : IntKind} {u : Value} (h : LeafU P W n (.int k) u) : ∃ m, u = .int k m ∧ (Lit.int k m).wf = true := by cases n <;> exact h
def isStrT : Option TypeDesc → Bool
  | some (.struct _) => true
  | _ => false
theorem str24 : isStrT (Tryd.prog.underlying 24) = true := by kernel_rfl
theorem one_agg {P : Program} {W : World} {b : Nat} {t : TypeId} {v : Value} (hs : isStrT (P.underlying t) = true) (h : Value.okWide P W .any b t v) : ∃ cs, v = .agg cs := by
  unfold isStrT at hs
  split at hs
  · rename_i fs hu
    unfold Value.okWide at h
    rw [hu] at h
    obtain ⟨cs, rfl, _⟩ := h
    exact ⟨cs, rfl⟩
  · cases hs
theorem one_int' {W : World} {b : Nat} {v : Value} (h : Value.okWide Tryd.prog W .any b 3 v) : v.cells = #[v] := by
  unfold Value.okWide at h
  rw [int3] at h
  cases v <;> first | rfl | (simp [Cell.okWide, Cell.ok, int3] at h)
theorem walk {W : World} (hL : laidMetH Tryd.prog laid3 W) {v0 v1 v2 u u' : Value} {us : List Value} (hu : LeafU Tryd.prog W 1 (.int .i64) u) (hv : Go.Ev.VR (renB W.heap.size) u v0) (hu' : LeafU Tryd.prog W 1 (.int .i64) u') (hv' : Go.Ev.VR (renB W.heap.size) u' v1)
    (hus : Leafs (LeafU Tryd.prog W 1) [.int .i64, .int .u64] us) (hvs : Go.Ev.VR (renB W.heap.size) (.agg ⟨us⟩) v2) :
    Calls Tryd.prog 3 #[v0, v1, v2] W fun e w' => e = .returned (.bool true) ∧ Below W.heap.size W w' := by
  obtain ⟨h1, ht⟩ := of_laid hL
  obtain ⟨k, rfl, _⟩ := leafInt hu
  obtain ⟨f, rfl, _⟩ := leafInt hu'
  obtain ⟨l1, l2⟩ := hus
  match us, l1 with
  | [a, b], _ =>
    obtain ⟨i, rfl, wi⟩ := leafInt (l2 0 _ _ rfl rfl)
    obtain ⟨g, rfl, wg⟩ := leafInt (l2 1 _ _ rfl rfl)
    simp only [Lit.wf, Bool.and_eq_true, decide_eq_true_eq] at wi wg
    have wi' : -9223372036854775808 ≤ i ∧ i ≤ 9223372036854775807 := wi
    have wg' : 0 ≤ g ∧ g ≤ 18446744073709551615 := wg
    obtain ⟨n, rfl⟩ := Int.eq_ofNat_of_zero_le wg'.1
    refine Go.Ev.open_calls (E := env) (us := [.int .i64 k, .int .i64 f, .agg ⟨[.int .i64 i, .int .u64 n]⟩]) (Go.Ev.envOK Tryd.prog 1 _ mixed) ext_ok (Go.Ev.namesOK names_ok) (fun g hg => ⟨0, by
      have hg3 : g < 1 := hg
      simp only [renB]; rw [if_pos (by omega)]⟩) (.cons hv (.cons hv' (.cons hvs .nil))) rfl ?_
    exact law_ret ht h1 wi'.1 wi'.2 (by omega)
theorem lifted (os : Os) (started : os.Started) (H : Type) (enc : TypeId × Value → H) :
    ReturnsInHanded {} Tryd.checked os 3 .any (fun w args => (Rows.authorityMaySpec.pre enc Tryd.prog Tryd.f3 [] false w args ∧ laidMetH Tryd.prog laid3 w) ∧ sizedMet enc Tryd.prog Tryd.f3 (OpenSpec.ofChange Rows.authorityMaySpec) false w args)
      (Rows.authorityMaySpec.post enc Tryd.prog Tryd.f3 false true false false) := by
  refine returnsInHanded_of_change_and (C := Tryd.checked) (X := fun w _ => laidMetH Tryd.prog laid3 w) (fun _ _ _ hh h => h.of_heap hh) own started (by kernel_rfl) Tryd.func3
    (ChangeSpec.witness_shaped (enc := enc) (C := Tryd.checked) (os := os) (X := fun w _ => laidMetH Tryd.prog laid3 w) false (World.doorLaid Tryd.prog 400 os) #[.int .i64 0, .int .i64 0, .agg #[.int .i64 0, .int .u64 0]] 8 rfl (World.shaped_of_RefB (by kernel_rfl) (by kernel_rfl)) (by kernel_rfl) (by kernel_rfl) (by kernel_rfl) (door_met3 os _)) ?_
  intro W base args ds gs before hval0 hW _ hwt hL _
  have hval : ∀ (j : Nat) t v, Tryd.f3.params[j]? = some t → args[j]? = some v → Value.okWide Tryd.prog W .any base t v := hval0
  have hW' := hW
  obtain ⟨p, q, hA0, hV, hpq, hfz, hnd⟩ := hW
  have hA : DataW.TrodAll enc Tryd.prog W 0 (fun _ => true) true Tryd.f3.params.toList args.toList ds p := hA0
  have hA2 := hA
  rw [Tryd.params3] at hA2 hval
  obtain ⟨v0, vs0, d0, ds0, p0, q0, ha0, rfl, rfl, h0, r0⟩ := trodAll_cons hA2
  obtain ⟨v1, vs1, d1, ds1, p1, q1, rfl, rfl, rfl, h1, r1⟩ := trodAll_cons r0
  obtain ⟨v2, vs2, d2, ds2, p2, q2, rfl, rfl, rfl, h2, r2⟩ := trodAll_cons r1
  obtain ⟨rfl, rfl, rfl⟩ := trodAll_nil r2
  obtain rfl : args = #[v0, v1, v2] := by cases args; simp_all
  have hV2 := hV
  obtain ⟨rfl, rfl⟩ := trodVars_none hV2
  have hs := one_int' (hval 0 3 v0 rfl rfl)
  have hs1 := one_int' (hval 1 3 v1 rfl rfl)
  obtain ⟨cs, rfl⟩ := one_agg str24 (hval 2 24 v2 rfl rfl)
  have hw0 : Go.Ev.WT Tryd.prog 3 d0 := Go.Ev.WT.of hwt (j := 0) rfl rfl
  have hw1 : Go.Ev.WT Tryd.prog 3 d1 := Go.Ev.WT.of hwt (j := 1) rfl rfl
  have hw2 : Go.Ev.WT Tryd.prog 24 d2 := Go.Ev.WT.of hwt (j := 2) rfl rfl
  obtain ⟨us, hl, hvr⟩ := Go.Ev.arg_abs flat3 h0 hw0 1
  obtain ⟨us1, hl1, hvr1⟩ := Go.Ev.arg_abs flat3 h1 hw1 1
  obtain ⟨us2, hl2, hvr2⟩ := Go.Ev.arg_abs flat24 h2 hw2 1
  rw [hs] at hvr
  rw [hs1] at hvr1
  match us, hl, us1, hl1 with
  | [u], hl, [u1], hl1 =>
    cases hvr with
    | cons hv _ =>
      cases hvr1 with
      | cons hv1 _ =>
      refine (walk hL (hl.2 0 _ _ rfl rfl) hv (hl1.2 0 _ _ rfl rfl) hv1 hl2 (.agg _ _ hvr2)).mono fun e W' ⟨he, hg⟩ => ?_
      subst he
      exact ⟨_, rfl, Go.Ev.post_law laidOut hW' hA hV hpq (by kernel_rfl) (by kernel_rfl) (fun _ _ _ => trodAll_cons_mk (shut_bool Tryd.underlying4 _) trodAll_mk0) rfl rfl hg⟩
theorem over : Rows.AuthorityMaySaid :=
  OpenClaim.holds_of_wide 3 Tryd.f3 rfl rfl rfl rfl rfl rfl rfl ⟨rfl, rfl, rfl, rfl, rfl⟩ rfl rfl rfl rfl rfl (by kernel_rfl) Tryd.func3 (by kernel_rfl)
    (of_decide_eq_true (by kernel_rfl)) (by unfold Func.isWrapper; first | (rw [if_pos (by decide +kernel)]; kernel_rfl) | (rw [if_neg (by decide +kernel)]; exact ⟨rfl, rfl⟩))
    (fun os started H enc _ => lifted os started H enc)

/-- ████ THE CARD ████ -/
theorem authorityMay_card : Rows.AuthorityMayCardSaid :=
  Claim7.holds_tied_plain_at .later [] [.data, .data, .data] true (true, "d675b3ef57d08727ddda02f030a66c78e29d3ee3957dd1ab0e518bed1bc857c7") false
    over (fun _ h => by cases h) (by kernel_rfl) (fun _ h => by cases h) authorityMay_row_tie rfl ⟨rfl, rfl⟩ (by kernel_rfl) rfl
    (fun f fn hf hfn => by
      obtain rfl : f = 3 := Option.some.inj ((show Tryd.prog.funcNamed "helmsman/helmsmanlaw28.AuthorityMay" = some 3 by kernel_rfl).symm.trans hf) |>.symm
      obtain rfl : fn = Tryd.f3 := (Option.some.inj (Tryd.func3.symm.trans hfn)).symm
      exact ⟨by kernel_rfl, fun j t ht => by
        rw [Tryd.params3] at ht
        have hm : t ∈ [3, 3, 24] := by simpa using Array.mem_of_getElem? ht
        have hall : ([3, 3, 24].all fun u => !Tryd.prog.wantsStandIn u) = true := by kernel_rfl
        exact (show Tryd.prog.wantsStandIn t = false by simpa using List.all_eq_true.1 hall t (by simpa using hm))⟩)
    (by kernel_rfl)
end Go.Proofs.YtfneaaapgpgdeaaDoor.Am
namespace Go.Proofs.YtfneaaapgpgdeaaDoor.authorityMay
theorem proved : Rows.AuthorityMayCardSaid := Go.Proofs.YtfneaaapgpgdeaaDoor.Am.authorityMay_card
#print axioms proved
end Go.Proofs.YtfneaaapgpgdeaaDoor.authorityMay

