/- ShareSums returns true for every input; the card is tied. Conditions: those of the given row. -/
import Derived.Test.YtjcmcoabckkjoaaDoorSL
set_option linter.unusedSimpArgs false
set_option linter.unusedVariables false
namespace Go.Proofs.YtjcmcoabckkjoaaDoor.shareSums
open Go.ChangeShapes Go.WideShapes Go.ChangeAt Go.RowKit
open Go.Ev (Leaf Leafs LeafU heapOf renB)
set_option maxRecDepth 100000
theorem slc22 : Tryd.prog.underlying 22 = some (.slice 23) := by kernel_rfl
theorem flat22 : Go.Ev.flat Tryd.prog 3 22 = some [.slc 23] := by kernel_rfl
theorem flat23 : Go.Ev.flat Tryd.prog 3 23 = some [.int .u64] := by kernel_rfl
theorem cells23 : Tryd.prog.cellsOf 23 = 1 := by kernel_rfl
theorem leafInt {P : Program} {W : World} {n : Nat} {k : IntKind} {u : Value} (h : LeafU P W n (.int k) u) : ∃ m, u = .int k m ∧ (Lit.int k m).wf = true := by cases n <;> exact h
theorem rows_u {l : List (List Value)} {W : World} {n : Nat} (h : ∀ r ∈ l, Leafs (LeafU Tryd.prog W n) [.int .u64] r) : ∃ us : List Int, l = us.map (fun n => [.int .u64 n]) ∧ ∀ x ∈ us, 0 ≤ x ∧ x ≤ 18446744073709551615 := by
  induction l with
  | nil => exact ⟨[], rfl, fun x hx => by cases hx⟩
  | cons r l ih =>
    obtain ⟨us, rfl, hu⟩ := ih fun r hr => h r (List.mem_cons_of_mem _ hr)
    obtain ⟨h1, h2⟩ := h r (List.mem_cons_self ..)
    match r, h1 with
    | [a], _ =>
      obtain ⟨n0, rfl, w⟩ := leafInt (h2 0 _ _ rfl rfl)
      simp only [Lit.wf, Bool.and_eq_true, decide_eq_true_eq] at w
      refine ⟨n0 :: us, rfl, fun x hx => ?_⟩
      rcases List.mem_cons.1 hx with rfl | hx
      · exact w
      · exact hu x hx
theorem one_slice {W : World} {b : Nat} {t e : TypeId} {v : Value} (hu : Tryd.prog.underlying t = some (.slice e)) (h : Value.okWide Tryd.prog W .any b t v) : v.cells = #[v] := by
  unfold Value.okWide at h
  rw [hu] at h
  cases v <;> first | rfl | (simp [Cell.okWide, Cell.ok, hu] at h)
theorem walk {W : World} (hL : laidMetH Tryd.prog laid3 W) {v0 : Value} {p q : Int} (hp : (Lit.int .u64 p).wf = true) (hq : (Lit.int .u64 q).wf = true) {u : Value} (hu : LeafU Tryd.prog W 1 (.slc 23) u) (hv : Go.Ev.VR (renB W.heap.size) u v0) :
    Calls Tryd.prog 3 #[v0, .int .u64 p, .int .u64 q] W fun e w' => e = .returned (.bool true) ∧ Below W.heap.size W w' := by
  obtain ⟨h1, ht⟩ := of_laid hL
  obtain ⟨a, len, cap, rfl, _, _, hrows⟩ := hu
  obtain ⟨rows, rfl, hra, hrr⟩ := hrows 3 _ flat23 cells23
  obtain ⟨us, rfl, hus⟩ := rows_u hrr
  simp only [Lit.wf, Bool.and_eq_true, decide_eq_true_eq] at hp hq
  refine Go.Ev.open_calls (E := env) (us := [.slice a (us.map fun n => [Value.int .u64 n]).length cap, .int .u64 p, .int .u64 q]) (Go.Ev.envOK Tryd.prog 2 _ Na.mixed) ext_ok (Go.Ev.namesOK Na.names_ok) (fun g hg => ⟨0, by
    have : g < 2 := hg
    simp only [renB]; rw [if_pos (by omega)]⟩) (.cons hv (.cons (.int _ _) (.cons (.int _ _) .nil))) rfl ?_
  rw [List.length_map]
  exact law_ret (B := W.heap.size) ⟨hra, hus⟩ (Nat.le_refl _) h1 ht hp hq
theorem lifted (os : Os) (started : os.Started) (H : Type) (enc : TypeId × Value → H) :
    ReturnsInHanded {} Tryd.checked os 3 .any (fun w args => (Rows.shareSumsSpec.pre enc Tryd.prog Tryd.f3 [] false w args ∧ laidMetH Tryd.prog laid3 w) ∧ sizedMet enc Tryd.prog Tryd.f3 (OpenSpec.ofChange Rows.shareSumsSpec) false w args)
      (Rows.shareSumsSpec.post enc Tryd.prog Tryd.f3 false true false false) := by
  refine returnsInHanded_of_change_and (C := Tryd.checked) (X := fun w _ => laidMetH Tryd.prog laid3 w) (fun _ _ _ hh h => h.of_heap hh) own started (by kernel_rfl) Tryd.func3
    (ChangeSpec.witness_shaped (enc := enc) (C := Tryd.checked) (os := os) (X := fun w _ => laidMetH Tryd.prog laid3 w) false (World.doorLaid Tryd.prog 400 os) #[.slice none 0 0, .int .u64 0, .int .u64 0] 8 rfl (World.shaped_of_RefB (by kernel_rfl) (by kernel_rfl)) (by kernel_rfl) (by kernel_rfl) (by kernel_rfl) (door_met3 os _)) ?_
  intro W base args ds gs before hval0 hW _ hwt hL _
  have hval : ∀ (j : Nat) t v, Tryd.f3.params[j]? = some t → args[j]? = some v → Value.okWide Tryd.prog W .any base t v := hval0
  have hW' := hW
  obtain ⟨p, q, hA0, hV, hpq, hfz, hnd⟩ := hW
  have hA : DataW.TrodAll enc Tryd.prog W 0 (fun _ => true) true Tryd.f3.params.toList args.toList ds p := hA0
  have hA2 := hA
  rw [Tryd.params3] at hA2 hval
  obtain ⟨v0, vs0, d0, ds0, p0, q0, ha0, rfl, rfl, h0, r0⟩ := trodAll_cons hA2
  obtain ⟨v1, vs1, d1, ds1, p1, q1, rfl, rfl, rfl, h1, r1⟩ := trodAll_cons r0
  obtain ⟨v2, vs2, d2, ds2, p2, q2, rfl, rfl, rfl, h2, r2⟩ := trodAll_cons r1
  obtain ⟨rfl, rfl, rfl⟩ := trodAll_nil r2
  obtain rfl : args = #[v0, v1, v2] := by cases args; simp_all
  have hV2 := hV
  obtain ⟨rfl, rfl⟩ := trodVars_none hV2
  have hs := one_slice slc22 (hval 0 22 v0 rfl rfl)
  obtain ⟨n1, rfl, rfl, _, w1⟩ := open_int int23 (hval 1 23 v1 rfl rfl) h1
  obtain ⟨n2, rfl, rfl, _, w2⟩ := open_int int23 (hval 2 23 v2 rfl rfl) h2
  have hw0 : Go.Ev.WT Tryd.prog 22 d0 := Go.Ev.WT.of hwt (j := 0) rfl rfl
  obtain ⟨us, hl, hvr⟩ := Go.Ev.arg_abs flat22 h0 hw0 1
  rw [hs] at hvr
  match us, hl with
  | [u], hl =>
    cases hvr with
    | cons hv _ =>
      refine (walk hL w1 w2 (hl.2 0 _ _ rfl rfl) hv).mono fun e W' ⟨he, hg⟩ => ?_
      subst he
      exact ⟨_, rfl, Go.Ev.post_law laidOut hW' hA hV hpq (by kernel_rfl) (by kernel_rfl) (fun _ _ _ => trodAll_cons_mk (shut_bool Tryd.underlying4 _) trodAll_mk0) rfl rfl hg⟩
theorem over : Rows.ShareSumsSaid :=
  OpenClaim.holds_of_wide 3 Tryd.f3 rfl rfl rfl rfl rfl rfl rfl ⟨rfl, rfl, rfl, rfl, rfl⟩ rfl rfl rfl rfl rfl (by kernel_rfl) Tryd.func3 (by kernel_rfl)
    (of_decide_eq_true (by kernel_rfl)) (by unfold Func.isWrapper; first | (rw [if_pos (by decide +kernel)]; kernel_rfl) | (rw [if_neg (by decide +kernel)]; exact ⟨rfl, rfl⟩))
    (fun os started H enc _ => lifted os started H enc)

/-- ████ THE CARD ████ -/
theorem proved : Rows.ShareSumsCardSaid :=
  Claim7.holds_tied_plain_at .later [] [.data, .data, .data] true (true, "2229701458b995ba0a1e8c2518dc7656afce2897b4d1df7d4cda38509585e017") true
    over (fun _ h => by cases h) (by kernel_rfl) (fun _ h => by cases h) shareSums_row_tie rfl ⟨rfl, rfl⟩ (by kernel_rfl) rfl
    (fun f fn hf hfn => by
      obtain rfl : f = 3 := Option.some.inj ((show Tryd.prog.funcNamed "helmsman/helmsmanlaw31.ShareSums" = some 3 by kernel_rfl).symm.trans hf) |>.symm
      obtain rfl : fn = Tryd.f3 := (Option.some.inj (Tryd.func3.symm.trans hfn)).symm
      exact ⟨by kernel_rfl, fun j t ht => by
        rw [Tryd.params3] at ht
        have hm : t ∈ [22, 23, 23] := by simpa using Array.mem_of_getElem? ht
        have hall : ([22, 23].all fun u => !Tryd.prog.wantsStandIn u) = true := by kernel_rfl
        exact (show Tryd.prog.wantsStandIn t = false by simpa using List.all_eq_true.1 hall t (by simpa using hm))⟩)
    (by kernel_rfl)
#print axioms proved
end Go.Proofs.YtjcmcoabckkjoaaDoor.shareSums
