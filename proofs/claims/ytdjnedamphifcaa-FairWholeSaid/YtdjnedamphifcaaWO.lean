/- PSpec is RefSpec where each goroutine is once; the law returns true. Conditions: each theorem's own. -/
import Derived.Test.YtdjnedamphifcaaWN
set_option linter.unusedSimpArgs false
set_option linter.unusedVariables false
namespace Go.Proofs.Ytdjnedamphifcaa
open Go.Ev
set_option maxRecDepth 100000
set_option maxHeartbeats 400000
/-! the program's answer is the document's -/
theorem taskOf_mem {l : List TaskD} (hnd : (l.map TaskD.idx).Nodup) {x : TaskD} (h : x ∈ l) : taskOf l x.idx = x := (task_is hnd (.inl ⟨h, rfl⟩)).symm
theorem mem_allIn {d : ViewD} {g : Int} : g ∈ allIn d ↔ AnyIn d g := by
  simp only [allIn, AnyIn, allQ, List.mem_append]
  constructor
  · rintro (h | h | h | h | h)
    · exact .inr (.inl h)
    · exact .inl (.inl h)
    · exact .inl (.inr (.inl h))
    · exact .inl (.inr (.inr h))
    · exact .inr (.inr h)
  · rintro ((h | h | h) | h | h)
    · exact .inr (.inl h)
    · exact .inr (.inr (.inl h))
    · exact .inr (.inr (.inr (.inl h)))
    · exact .inl h
    · exact .inr (.inr (.inr (.inr h)))
theorem count_pos {l : List Int} {g : Int} (hg : 0 ≤ g) : (l.filter (0 ≤ ·)).count g = l.count g := List.count_filter (by simpa using hg)
theorem spec_iff {d : ViewD} (ho : OnceP d) : PSpec d ↔ RefSpec d := by
  have key : ∀ x ∈ d.tasks, (OkW d x ↔ (want0 x.state = cntQ d x.idx ∧ want1 x.state = d.runs.count x.idx ∧ want2 x.state = (d.timers.map TimerD.id).count x.idx)) := by
    intro x hx
    have hp := ho.pos x hx
    have e1 : (allQ d).count x.idx = cntQ d x.idx := by
      unfold allQ cntQ
      rw [List.count_append, List.count_append, count_pos hp, Nat.add_assoc]
    have e2 : (d.runs.filter (0 ≤ ·)).count x.idx = d.runs.count x.idx := count_pos hp
    constructor
    · rintro ⟨h1, h2, h3⟩
      exact ⟨by rw [h1, e1], by rw [h2, e2], h3⟩
    · rintro ⟨h1, h2, h3⟩
      exact ⟨by rw [h1, e1], by rw [h2, e2], h3⟩
  constructor
  · rintro ⟨h1, h2, h3⟩
    unfold fineAll at h2
    rw [Bool.and_eq_true, allUp_iff, allUp_iff] at h2
    refine ⟨fun x hx => ?_, fun y hy => h3 y (mem_allIn.1 hy)⟩
    obtain ⟨q, r, t⟩ := (key x hx).1 (h1 x hx)
    refine ⟨q, r, t, ?_, ?_⟩
    · rw [allUp_iff]
      intro i hi
      have := h2.1 i hi
      unfold fineRun at this
      unfold fineR
      rw [List.getElem?_eq_getElem hi] at this ⊢
      simp only [decide_eq_true_eq] at this ⊢
      intro e
      have e := Option.some.inj e
      rw [e, taskOf_mem ho.nodup hx] at this
      exact this (ho.pos x hx)
    · rw [allUp_iff]
      intro i hi
      have := h2.2 i hi
      unfold fineTim at this
      unfold fineT
      rw [List.getElem?_eq_getElem hi] at this ⊢
      simp only [decide_eq_true_eq] at this ⊢
      intro e
      rw [e, taskOf_mem ho.nodup hx] at this
      exact this.symm
  · rintro ⟨h1, h2⟩
    have h3 : ∀ g, AnyIn d g → ∃ x ∈ d.tasks, x.idx = g := fun g hg => List.mem_map.1 (h2 g (mem_allIn.2 hg))
    refine ⟨fun x hx => (key x hx).2 ⟨(h1 x hx).q, (h1 x hx).r, (h1 x hx).t⟩, ?_, fun g hg => h2 g (mem_allIn.2 hg)⟩
    unfold fineAll
    rw [Bool.and_eq_true, allUp_iff, allUp_iff]
    constructor
    · intro i hi
      unfold fineRun
      rw [List.getElem?_eq_getElem hi]
      simp only [decide_eq_true_eq]
      intro hp
      obtain ⟨x, hx, e⟩ := h3 d.runs[i] (.inr (.inl (by simp [hp])))
      have := (h1 x hx).fr
      rw [allUp_iff] at this
      have := this i hi
      unfold fineR at this
      rw [List.getElem?_eq_getElem hi, ← e] at this
      rw [← e, taskOf_mem ho.nodup hx]
      simpa using this
    · intro i hi
      unfold fineTim
      rw [List.getElem?_eq_getElem hi]
      simp only [decide_eq_true_eq]
      obtain ⟨x, hx, e⟩ := h3 d.timers[i].id (.inr (.inr (List.mem_map.2 ⟨_, List.getElem_mem hi, rfl⟩)))
      have := (h1 x hx).ft
      rw [allUp_iff] at this
      have := this i hi
      unfold fineT at this
      rw [List.getElem?_eq_getElem hi] at this
      rw [← e, taskOf_mem ho.nodup hx]
      simp only [decide_eq_true_eq] at this
      exact (this e.symm).symm
theorem und4 : und env 4 = some .bool := by kernel_rfl
theorem eqB {c b : Bool} {K : Value → Prop} : binK env .eql 4 c (.bool b) (.bool b) K = K (.bool true) := by
  have : abin env .eql 4 (.bool b) (.bool b) = some (.bool true) := by
    simp [abin, numeric, aeq, und4]
  simp only [binK, this, onV_some']
/-- the law -/
theorem law_ret {B : Nat} {a : VA} {d : ViewD} {h : Heap} (hr : Ranges d) (hB : B ≤ h.n) (hv : VOK B h a d)
    (hsl : sameV 50 (.slice a.la d.global.length a.lc) (.slice a.la d.global.length a.lc) = true) (hsv : sameV 50 (.agg ⟨vcells a d⟩) (.agg ⟨vcells a d⟩) = true) : Ret env (.func 4) [.agg ⟨vcells a d⟩] h fun v _ => v = .bool true := by
  refine F4 rfl ?_
  repeat' (first | done | ((with_reducible refine brK_yes ?_ ?_); (· omega)) | ((with_reducible refine brK_no ?_ ?_); (· omega)) | (with_reducible refine brK_both (fun _ => ?_) (fun _ => ?_)) | ((with_reducible refine And.intro (And.intro ?_ ?_) ?_); (· omega); (· omega)) | ((with_reducible refine And.intro ?_ ?_); (· omega)) | ((with_reducible refine st_newM ?_ ?_); (· rfl)) | ((with_reducible refine bs_oneM ?_ ?_); (· rfl)) | (with_reducible refine bd_of (by with_unfolding_all (simp only [fillL_cons, fillL_nil, nth_eq, blt_eq, cond_beq, over, Value.cells, List.getElem?_cons_zero, List.getElem?_cons_succ, List.length_cons, List.length_nil, Nat.reduceAdd, Nat.reduceSub, Nat.reduceLT, Nat.reduceEqDiff, decide_true, cond_true, Option.map_some, if_true, if_false, Nat.add_one_sub_one, Nat.succ_ne_zero, reduceCtorEq, OfNat.ofNat]; rfl)) ?_) | (with_reducible refine bda_of (by with_unfolding_all rfl) ?_) | (simp -dsimp only [↓cw_ops, ↓cw_seq, ↓seqK_normal, ↓getK_same, ↓getK_ne, ↓evK_tmp, ↓evK_bool, ↓opsW_nil, ↓opsW_d, ↓opW_assign, ↓ldN_some, ↓setAll_cons, ↓setAll_nil, ↓opW_box, ↓box_agg, ↓ld_45, ↓r4_5_w, ↓s4_6_w, ↓s4_7_w, ↓r4_8_w, ↓s4_9_w, true_and, ne_eq, Nat.reduceEqDiff, not_false_eq_true, vcells_one a d]))
  have V := VBox.new h a d 45
  have X : ExtB h.n h (newBlk h (.cells (vcells a d) 45 true)) := ExtB.new _ (Nat.le_refl _)
  have hn1 : (newBlk h (.cells (vcells a d) 45 true)).n = h.n + 1 := rfl
  generalize newBlk h (.cells (vcells a d) 45 true) = h1 at V X hn1 ⊢
  have dv := V.all
  repeat' (first | done | ((with_reducible refine brK_yes ?_ ?_); (· omega)) | ((with_reducible refine brK_no ?_ ?_); (· omega)) | (with_reducible refine brK_both (fun _ => ?_) (fun _ => ?_)) | ((with_reducible refine And.intro (And.intro ?_ ?_) ?_); (· omega); (· omega)) | ((with_reducible refine And.intro ?_ ?_); (· omega)) | ((with_reducible refine st_newM ?_ ?_); (· rfl)) | ((with_reducible refine bs_oneM ?_ ?_); (· rfl)) | (with_reducible refine bd_of (by with_unfolding_all (simp only [fillL_cons, fillL_nil, nth_eq, blt_eq, cond_beq, over, Value.cells, List.getElem?_cons_zero, List.getElem?_cons_succ, List.length_cons, List.length_nil, Nat.reduceAdd, Nat.reduceSub, Nat.reduceLT, Nat.reduceEqDiff, decide_true, cond_true, Option.map_some, if_true, if_false, Nat.add_one_sub_one, Nat.succ_ne_zero, reduceCtorEq, OfNat.ofNat]; rfl)) ?_) | (with_reducible refine bda_of (by with_unfolding_all rfl) ?_) | (simp -dsimp only [↓getK_same, ↓evK_tmp, ↓opsW_d, ↓evs_nil, ↓evs_cons, ↓opW_call, onV_some', dv]))
  have X1 : ExtB h.n h h1 := X
  refine once_ret hr (by omega) (hv.ext (X.mono hB)) fun b h2 hb x2 => ?_
  have V2 := V.ext x2 (by omega)
  have dv2 := V2.all
  have hn2 := x2.n
  cases b with
  | false =>
    repeat' (first | done | ((with_reducible refine brK_yes ?_ ?_); (· omega)) | ((with_reducible refine brK_no ?_ ?_); (· omega)) | (with_reducible refine brK_both (fun _ => ?_) (fun _ => ?_)) | ((with_reducible refine And.intro (And.intro ?_ ?_) ?_); (· omega); (· omega)) | ((with_reducible refine And.intro ?_ ?_); (· omega)) | ((with_reducible refine st_newM ?_ ?_); (· rfl)) | ((with_reducible refine bs_oneM ?_ ?_); (· rfl)) | (with_reducible refine bd_of (by with_unfolding_all (simp only [fillL_cons, fillL_nil, nth_eq, blt_eq, cond_beq, over, Value.cells, List.getElem?_cons_zero, List.getElem?_cons_succ, List.length_cons, List.length_nil, Nat.reduceAdd, Nat.reduceSub, Nat.reduceLT, Nat.reduceEqDiff, decide_true, cond_true, Option.map_some, if_true, if_false, Nat.add_one_sub_one, Nat.succ_ne_zero, reduceCtorEq, OfNat.ofNat]; rfl)) ?_) | (with_reducible refine bda_of (by with_unfolding_all rfl) ?_) | (simp -dsimp only [↓cw_ops, ↓cw_seq, ↓cw_cond, ↓seqK_normal, ↓getK_same, ↓evK_tmp, ↓condV_var, ↓opsW_nil, ↓opsW_d, ↓evs_nil, ↓opW_call, ↓opW_un, ↓un_not, ↓r4_2_w, ↓s4_3_w, ↓s4_4_w, brK_true, Bool.not_false]))
    exact Ret.ext rfl (by simp -dsimp only [↓cw_ret, ↓seqK_normal, ↓seqK_ret, ↓getK_same, ↓evK_tmp, ↓opsW_nil, ↓opsW_d, ↓opW_assign, ↓resK_one])
  | true =>
    have ho := hb rfl
    have hv2 := hv.ext ((X.trans (x2.mono (by omega))).mono hB)
    repeat' (first | done | ((with_reducible refine brK_yes ?_ ?_); (· omega)) | ((with_reducible refine brK_no ?_ ?_); (· omega)) | (with_reducible refine brK_both (fun _ => ?_) (fun _ => ?_)) | ((with_reducible refine And.intro (And.intro ?_ ?_) ?_); (· omega); (· omega)) | ((with_reducible refine And.intro ?_ ?_); (· omega)) | ((with_reducible refine st_newM ?_ ?_); (· rfl)) | ((with_reducible refine bs_oneM ?_ ?_); (· rfl)) | (with_reducible refine bd_of (by with_unfolding_all (simp only [fillL_cons, fillL_nil, nth_eq, blt_eq, cond_beq, over, Value.cells, List.getElem?_cons_zero, List.getElem?_cons_succ, List.length_cons, List.length_nil, Nat.reduceAdd, Nat.reduceSub, Nat.reduceLT, Nat.reduceEqDiff, decide_true, cond_true, Option.map_some, if_true, if_false, Nat.add_one_sub_one, Nat.succ_ne_zero, reduceCtorEq, OfNat.ofNat]; rfl)) ?_) | (with_reducible refine bda_of (by with_unfolding_all rfl) ?_) | (simp -dsimp only [↓cw_skip, ↓cw_plan, ↓cw_seq, ↓cw_cond, ↓seqK_normal, ↓getK_same, ↓getK_ne, ↓evK_tmp, ↓condV_var, ↓opsW_nil, ↓opsW_d, ↓planW_d, ↓agK_nil, ↓ldN_some, ↓evs_nil, ↓evs_cons, ↓opW_call, ↓opW_un, ↓un_not, ↓ld_45, ↓p4_0_w, ↓s4_1_w, ↓s4_4_w, onV_some', brK_false, Nat.le_refl, true_and, ne_eq, Nat.reduceEqDiff, not_false_eq_true, Bool.false_eq_true,  dv2, Bool.not_true]))
    have hsv' : (sameV 50 (.agg ⟨vcells a d⟩) (.agg ⟨vcells a d⟩) = true) = True := by simp [hsv]
    refine whole_ret ho hr (by omega) hv2 hsl fun b1 h3 hb1 x3 => ?_
    have dv3 := (V2.ext x3 (by omega)).all
    have hn3 := x3.n
    have hv3 := hv2.ext (x3.mono (by omega))
    rw [spec_iff ho] at hb1
    refine ⟨hn3, by repeat' (first | done | ((with_reducible refine brK_yes ?_ ?_); (· omega)) | ((with_reducible refine brK_no ?_ ?_); (· omega)) | (with_reducible refine brK_both (fun _ => ?_) (fun _ => ?_)) | ((with_reducible refine And.intro (And.intro ?_ ?_) ?_); (· omega); (· omega)) | ((with_reducible refine And.intro ?_ ?_); (· omega)) | ((with_reducible refine st_newM ?_ ?_); (· rfl)) | ((with_reducible refine bs_oneM ?_ ?_); (· rfl)) | (with_reducible refine bd_of (by with_unfolding_all (simp only [fillL_cons, fillL_nil, nth_eq, blt_eq, cond_beq, over, Value.cells, List.getElem?_cons_zero, List.getElem?_cons_succ, List.length_cons, List.length_nil, Nat.reduceAdd, Nat.reduceSub, Nat.reduceLT, Nat.reduceEqDiff, decide_true, cond_true, Option.map_some, if_true, if_false, Nat.add_one_sub_one, Nat.succ_ne_zero, reduceCtorEq, OfNat.ofNat]; rfl)) ?_) | (with_reducible refine bda_of (by with_unfolding_all rfl) ?_) | (simp -dsimp only [↓getK_same, ↓getK_ne, ↓evK_tmp, ↓agK_nil, ↓ldN_some, ↓agK_load, ↓agV_same, ↓agV_ne, ↓agl_45, onV_some', and_true, ne_eq, Nat.reduceEqDiff, not_false_eq_true, dv3, hsv'])), ?_⟩
    repeat' (first | done | ((with_reducible refine brK_yes ?_ ?_); (· omega)) | ((with_reducible refine brK_no ?_ ?_); (· omega)) | (with_reducible refine brK_both (fun _ => ?_) (fun _ => ?_)) | ((with_reducible refine And.intro (And.intro ?_ ?_) ?_); (· omega); (· omega)) | ((with_reducible refine And.intro ?_ ?_); (· omega)) | ((with_reducible refine st_newM ?_ ?_); (· rfl)) | ((with_reducible refine bs_oneM ?_ ?_); (· rfl)) | (with_reducible refine bd_of (by with_unfolding_all (simp only [fillL_cons, fillL_nil, nth_eq, blt_eq, cond_beq, over, Value.cells, List.getElem?_cons_zero, List.getElem?_cons_succ, List.length_cons, List.length_nil, Nat.reduceAdd, Nat.reduceSub, Nat.reduceLT, Nat.reduceEqDiff, decide_true, cond_true, Option.map_some, if_true, if_false, Nat.add_one_sub_one, Nat.succ_ne_zero, reduceCtorEq, OfNat.ofNat]; rfl)) ?_) | (with_reducible refine bda_of (by with_unfolding_all rfl) ?_) | (simp -dsimp only [↓getK_same, ↓getK_ne, ↓evK_tmp, ↓planW_d, ↓evs_nil, ↓evs_cons, ↓opW_call, ne_eq, Nat.reduceEqDiff, not_false_eq_true]))
    refine refWhole_ret ho hr (by omega) hv3 fun b2 h4 hb2 x4 => ?_
    have hbb : b1 = b2 := by
      have : b1 = true ↔ b2 = true := hb1.trans hb2.symm
      cases b1 <;> cases b2 <;> simp_all
    subst hbb
    have dv4 := ((V2.ext x3 (by omega)).ext x4 (by omega)).all
    repeat' (first | done | ((with_reducible refine brK_yes ?_ ?_); (· omega)) | ((with_reducible refine brK_no ?_ ?_); (· omega)) | (with_reducible refine brK_both (fun _ => ?_) (fun _ => ?_)) | ((with_reducible refine And.intro (And.intro ?_ ?_) ?_); (· omega); (· omega)) | ((with_reducible refine And.intro ?_ ?_); (· omega)) | ((with_reducible refine st_newM ?_ ?_); (· rfl)) | ((with_reducible refine bs_oneM ?_ ?_); (· rfl)) | (with_reducible refine bd_of (by with_unfolding_all (simp only [fillL_cons, fillL_nil, nth_eq, blt_eq, cond_beq, over, Value.cells, List.getElem?_cons_zero, List.getElem?_cons_succ, List.length_cons, List.length_nil, Nat.reduceAdd, Nat.reduceSub, Nat.reduceLT, Nat.reduceEqDiff, decide_true, cond_true, Option.map_some, if_true, if_false, Nat.add_one_sub_one, Nat.succ_ne_zero, reduceCtorEq, OfNat.ofNat]; rfl)) ?_) | (with_reducible refine bda_of (by with_unfolding_all rfl) ?_) | (simp -dsimp only [↓getK_same, ↓getK_ne, ↓evK_tmp, ↓gdV_var, ↓planW_d, ↓planW_gd, ↓agK_nil, ↓opW_move, ↓opW_bin, ↓evs_nil, ↓opW_call, brK_true, Nat.le_refl, true_and, ne_eq, Nat.reduceEqDiff, not_false_eq_true, eqB]))
    refine ⟨x4.n, Ret.ext (v := .bool true) rfl ?_⟩
    repeat' (first | done | ((with_reducible refine brK_yes ?_ ?_); (· omega)) | ((with_reducible refine brK_no ?_ ?_); (· omega)) | (with_reducible refine brK_both (fun _ => ?_) (fun _ => ?_)) | ((with_reducible refine And.intro (And.intro ?_ ?_) ?_); (· omega); (· omega)) | ((with_reducible refine And.intro ?_ ?_); (· omega)) | ((with_reducible refine st_newM ?_ ?_); (· rfl)) | ((with_reducible refine bs_oneM ?_ ?_); (· rfl)) | (with_reducible refine bd_of (by with_unfolding_all (simp only [fillL_cons, fillL_nil, nth_eq, blt_eq, cond_beq, over, Value.cells, List.getElem?_cons_zero, List.getElem?_cons_succ, List.length_cons, List.length_nil, Nat.reduceAdd, Nat.reduceSub, Nat.reduceLT, Nat.reduceEqDiff, decide_true, cond_true, Option.map_some, if_true, if_false, Nat.add_one_sub_one, Nat.succ_ne_zero, reduceCtorEq, OfNat.ofNat]; rfl)) ?_) | (with_reducible refine bda_of (by with_unfolding_all rfl) ?_) | (simp -dsimp only [↓cw_ret, ↓seqK_normal, ↓getK_same, ↓getK_ne, ↓evK_tmp, ↓condV_var, ↓planW_nil, ↓planW_d, ↓agK_nil, ↓opW_assign, ↓opW_pick, ↓resK_one, brK_true, Nat.le_refl, and_true, ne_eq, Nat.reduceEqDiff, not_false_eq_true]))
end Go.Proofs.Ytdjnedamphifcaa
