/- ShareLines returns true for every input. Conditions: each theorem's own. -/
import Derived.Test.YtjcmcoabckkjoaaDoorLL
set_option linter.unusedSimpArgs false
set_option linter.unusedVariables false
set_option linter.unusedSimpArgs false
set_option linter.unusedVariables false
namespace Go.Proofs.YtjcmcoabckkjoaaDoor.Li
open Go.ChangeShapes Go.WideShapes Go.ChangeAt Go.RowKit
open Go.Ev (Leaf Leafs LeafU heapOf renB)
set_option maxRecDepth 100000
theorem slc22 : Tryd.prog.underlying 22 = some (.slice 23) := by kernel_rfl
theorem slc40 : Tryd.prog.underlying 40 = some (.slice 44) := by kernel_rfl
theorem flat22 : Go.Ev.flat Tryd.prog 3 22 = some [.slc 23] := by kernel_rfl
theorem flat40 : Go.Ev.flat Tryd.prog 3 40 = some [.slc 44] := by kernel_rfl
theorem flat23 : Go.Ev.flat Tryd.prog 3 23 = some [.int .u64] := by kernel_rfl
theorem flat44 : Go.Ev.flat Tryd.prog 3 44 = some [.int .i64, .int .u64, .int .i64, .int .i64, .int .i64, .int .i64, .flt .f64] := by kernel_rfl
theorem cells44 : Tryd.prog.cellsOf 44 = 7 := by kernel_rfl
theorem leafInt {P : Program} {W : World} {n : Nat} {k : IntKind} {u : Value} (h : LeafU P W n (.int k) u) : ∃ m, u = .int k m ∧ (Lit.int k m).wf = true := by cases n <;> exact h
theorem leafFlt {P : Program} {W : World} {n : Nat} {k : FloatKind} {u : Value} (h : LeafU P W n (.flt k) u) : ∃ m, u = .float k m ∧ (Lit.float k m).wf = true := by cases n <;> exact h
theorem rows_u {l : List (List Value)} {W : World} {n : Nat} (h : ∀ r ∈ l, Leafs (LeafU Tryd.prog W n) [.int .u64] r) : ∃ us : List Int, l = us.map (fun n => [.int .u64 n]) ∧ ∀ x ∈ us, 0 ≤ x ∧ x ≤ 18446744073709551615 := by
  induction l with
  | nil => exact ⟨[], rfl, fun x hx => by cases hx⟩
  | cons r l ih =>
    obtain ⟨us, rfl, hu⟩ := ih fun r hr => h r (List.mem_cons_of_mem _ hr)
    obtain ⟨h1, h2⟩ := h r (List.mem_cons_self ..)
    match r, h1 with
    | [a], _ =>
      obtain ⟨n0, rfl, w⟩ := leafInt (h2 0 _ _ rfl rfl)
      simp only [Lit.wf, Bool.and_eq_true, decide_eq_true_eq] at w
      refine ⟨n0 :: us, rfl, fun x hx => ?_⟩
      rcases List.mem_cons.1 hx with rfl | hx
      · exact w
      · exact hu x hx
theorem i64_wf {n : Int} (h : (Lit.int .i64 n).wf = true) : i64B n := by
  simp only [Lit.wf, Bool.and_eq_true, decide_eq_true_eq] at h
  exact h
theorem rows_had {l : List (List Value)} {W : World} {n : Nat} (h : ∀ r ∈ l, Leafs (LeafU Tryd.prog W n) [.int .i64, .int .u64, .int .i64, .int .i64, .int .i64, .int .i64, .flt .f64] r) : ∃ us : List HadR, l = us.map HadR.cells ∧ ∀ x ∈ us, x.OK := by
  induction l with
  | nil => exact ⟨[], rfl, fun x hx => by cases hx⟩
  | cons r l ih =>
    obtain ⟨us, rfl, hu⟩ := ih fun r hr => h r (List.mem_cons_of_mem _ hr)
    obtain ⟨h1, h2⟩ := h r (List.mem_cons_self ..)
    match r, h1 with
    | [a0, a1, a2, a3, a4, a5, a6], _ =>
      obtain ⟨n0, rfl, w0⟩ := leafInt (h2 0 _ _ rfl rfl)
      obtain ⟨n1, rfl, w1⟩ := leafInt (h2 1 _ _ rfl rfl)
      obtain ⟨n2, rfl, w2⟩ := leafInt (h2 2 _ _ rfl rfl)
      obtain ⟨n3, rfl, w3⟩ := leafInt (h2 3 _ _ rfl rfl)
      obtain ⟨n4, rfl, w4⟩ := leafInt (h2 4 _ _ rfl rfl)
      obtain ⟨n5, rfl, w5⟩ := leafInt (h2 5 _ _ rfl rfl)
      obtain ⟨n6, rfl, w6⟩ := leafFlt (h2 6 _ _ rfl rfl)
      simp only [Lit.wf, Bool.and_eq_true, decide_eq_true_eq] at w1 w6
      refine ⟨⟨n0, n1, n2, n3, n4, n5, .float .f64 n6⟩ :: us, rfl, fun x hx => ?_⟩
      rcases List.mem_cons.1 hx with rfl | hx
      · exact ⟨i64_wf w0, w1, i64_wf w2, i64_wf w3, i64_wf w4, i64_wf w5, n6, w6, rfl⟩
      · exact hu x hx
theorem one_slice {W : World} {b : Nat} {t e : TypeId} {v : Value} (hu : Tryd.prog.underlying t = some (.slice e)) (h : Value.okWide Tryd.prog W .any b t v) : v.cells = #[v] := by
  unfold Value.okWide at h
  rw [hu] at h
  cases v <;> first | rfl | (simp [Cell.okWide, Cell.ok, hu] at h)
theorem walk {W : World} (hL : laidMetH Tryd.prog laid3 W) {v0 v1 : Value} {u u' : Value} (hu : LeafU Tryd.prog W 1 (.slc 44) u) (hv : Go.Ev.VR (renB W.heap.size) u v0) (hu' : LeafU Tryd.prog W 1 (.slc 23) u') (hv' : Go.Ev.VR (renB W.heap.size) u' v1) :
    Calls Tryd.prog 5 #[v0, v1] W fun e w' => e = .returned (.bool true) ∧ Below W.heap.size W w' := by
  obtain ⟨h1, ht⟩ := of_laid hL
  obtain ⟨a, len, cap, rfl, _, _, hrows⟩ := hu
  obtain ⟨rows, rfl, hra, hrr⟩ := hrows 3 _ flat44 cells44
  obtain ⟨us, rfl, hus⟩ := rows_had hrr
  obtain ⟨a', len', cap', rfl, _, _, hrows'⟩ := hu'
  obtain ⟨rows', rfl, hra', hrr'⟩ := hrows' 3 _ flat23 cells23
  obtain ⟨us', rfl, hus'⟩ := rows_u hrr'
  refine Go.Ev.open_calls (E := env) (us := [.slice a (us.map HadR.cells).length cap, .slice a' (us'.map fun n => [Value.int .u64 n]).length cap']) (Go.Ev.envOK Tryd.prog 3 _ Na.mixed) ext_ok (Go.Ev.namesOK Na.names_ok) (fun g hg => ⟨0, by
    have : g < 3 := hg
    simp only [renB]; rw [if_pos (by omega)]⟩) (.cons hv (.cons hv' .nil)) rfl ?_
  rw [List.length_map, List.length_map]
  exact law_ret (B := W.heap.size) hra hus ⟨hra', hus'⟩ (Nat.le_refl _) h1 ht
theorem lifted (os : Os) (started : os.Started) (H : Type) (enc : TypeId × Value → H) :
    ReturnsInHanded {} Tryd.checked os 5 .any (fun w args => (Rows.shareLinesSpec.pre enc Tryd.prog Tryd.f5 [] false w args ∧ laidMetH Tryd.prog laid3 w) ∧ sizedMet enc Tryd.prog Tryd.f5 (OpenSpec.ofChange Rows.shareLinesSpec) false w args)
      (Rows.shareLinesSpec.post enc Tryd.prog Tryd.f5 false true false false) := by
  refine returnsInHanded_of_change_and (C := Tryd.checked) (X := fun w _ => laidMetH Tryd.prog laid3 w) (fun _ _ _ hh h => h.of_heap hh) own started (by kernel_rfl) Tryd.func5
    (ChangeSpec.witness_shaped (enc := enc) (C := Tryd.checked) (os := os) (X := fun w _ => laidMetH Tryd.prog laid3 w) false (World.doorLaid Tryd.prog 400 os) #[.slice none 0 0, .slice none 0 0] 8 rfl (World.shaped_of_RefB (by kernel_rfl) (by kernel_rfl)) (by kernel_rfl) (by kernel_rfl) (by kernel_rfl) (door_met3 os _)) ?_
  intro W base args ds gs before hval0 hW _ hwt hL _
  have hval : ∀ (j : Nat) t v, Tryd.f5.params[j]? = some t → args[j]? = some v → Value.okWide Tryd.prog W .any base t v := hval0
  have hW' := hW
  obtain ⟨p, q, hA0, hV, hpq, hfz, hnd⟩ := hW
  have hA : DataW.TrodAll enc Tryd.prog W 0 (fun _ => true) true Tryd.f5.params.toList args.toList ds p := hA0
  have hA2 := hA
  rw [Tryd.params5] at hA2 hval
  obtain ⟨v0, vs0, d0, ds0, p0, q0, ha0, rfl, rfl, h0, r0⟩ := trodAll_cons hA2
  obtain ⟨v1, vs1, d1, ds1, p1, q1, rfl, rfl, rfl, h1, r1⟩ := trodAll_cons r0
  obtain ⟨rfl, rfl, rfl⟩ := trodAll_nil r1
  obtain rfl : args = #[v0, v1] := by cases args; simp_all
  have hV2 := hV
  obtain ⟨rfl, rfl⟩ := trodVars_none hV2
  have hs := one_slice slc40 (hval 0 40 v0 rfl rfl)
  have hs1 := one_slice slc22 (hval 1 22 v1 rfl rfl)
  have hw0 : Go.Ev.WT Tryd.prog 40 d0 := Go.Ev.WT.of hwt (j := 0) rfl rfl
  have hw1 : Go.Ev.WT Tryd.prog 22 d1 := Go.Ev.WT.of hwt (j := 1) rfl rfl
  obtain ⟨us, hl, hvr⟩ := Go.Ev.arg_abs flat40 h0 hw0 1
  obtain ⟨us1, hl1, hvr1⟩ := Go.Ev.arg_abs flat22 h1 hw1 1
  rw [hs] at hvr
  rw [hs1] at hvr1
  match us, hl, us1, hl1 with
  | [u], hl, [u1], hl1 =>
    cases hvr with
    | cons hv _ =>
      cases hvr1 with
      | cons hv1 _ =>
      refine (walk hL (hl.2 0 _ _ rfl rfl) hv (hl1.2 0 _ _ rfl rfl) hv1).mono fun e W' ⟨he, hg⟩ => ?_
      subst he
      exact ⟨_, rfl, Go.Ev.post_law laidOut hW' hA hV hpq (by kernel_rfl) (by kernel_rfl) (fun _ _ _ => trodAll_cons_mk (shut_bool Tryd.underlying4 _) trodAll_mk0) rfl rfl hg⟩
theorem over : Rows.ShareLinesSaid :=
  OpenClaim.holds_of_wide 5 Tryd.f5 rfl rfl rfl rfl rfl rfl rfl ⟨rfl, rfl, rfl, rfl, rfl⟩ rfl rfl rfl rfl rfl (by kernel_rfl) Tryd.func5 (by kernel_rfl)
    (of_decide_eq_true (by kernel_rfl)) (by unfold Func.isWrapper; first | (rw [if_pos (by decide +kernel)]; kernel_rfl) | (rw [if_neg (by decide +kernel)]; exact ⟨rfl, rfl⟩))
    (fun os started H enc _ => lifted os started H enc)

/-- ████ THE CARD ████ -/
theorem shareLines_card : Rows.ShareLinesCardSaid :=
  Claim7.holds_tied_plain_at .later [] [.data, .data, .data] true (true, "2229701458b995ba0a1e8c2518dc7656afce2897b4d1df7d4cda38509585e017") true
    over (fun _ h => by cases h) (by kernel_rfl) (fun _ h => by cases h) shareLines_row_tie rfl ⟨rfl, rfl⟩ (by kernel_rfl) rfl
    (fun f fn hf hfn => by
      obtain rfl : f = 5 := Option.some.inj ((show Tryd.prog.funcNamed "helmsman/helmsmanlaw31.ShareLines" = some 5 by kernel_rfl).symm.trans hf) |>.symm
      obtain rfl : fn = Tryd.f5 := (Option.some.inj (Tryd.func5.symm.trans hfn)).symm
      exact ⟨by kernel_rfl, fun j t ht => by
        rw [Tryd.params5] at ht
        have hm : t ∈ [40, 22] := by simpa using Array.mem_of_getElem? ht
        have hall : ([40, 22].all fun u => !Tryd.prog.wantsStandIn u) = true := by kernel_rfl
        exact (show Tryd.prog.wantsStandIn t = false by simpa using List.all_eq_true.1 hall t (by simpa using hm))⟩)
    (by kernel_rfl)
end Go.Proofs.YtjcmcoabckkjoaaDoor.Li
namespace Go.Proofs.YtjcmcoabckkjoaaDoor.shareLines
theorem proved : Rows.ShareLinesCardSaid := Go.Proofs.YtjcmcoabckkjoaaDoor.Li.shareLines_card
#print axioms proved
end Go.Proofs.YtjcmcoabckkjoaaDoor.shareLines

