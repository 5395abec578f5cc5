/- IndexFunc over a closure, and whose task. Conditions: each theorem's own. -/
import Derived.Test.YtdjnedamphifcaaWH
set_option linter.unusedSimpArgs false
set_option linter.unusedVariables false
namespace Go.Proofs.Ytdjnedamphifcaa
open Go.Ev
set_option maxRecDepth 100000
set_option maxHeartbeats 400000
/-! whose task: the library's IndexFunc over a closure -/
theorem is_ret {g : Int} {c : Nat} {x : TaskD} {h : Heap} {K : Value → Heap → Prop} (hc : c < h.n) (hg : cellAt h ⟨c, 0, none⟩ = some (.int .i64 g))
    (hK : ∀ h', ExtB h.n h h' → K (.bool (decide (x.idx = g))) h') : Ret env (.func 47) [.agg ⟨x.cells⟩, .pointer (some ⟨c, 0, none⟩)] h K := by
  refine F47 rfl ?_
  simp only [TaskD.cells]
  repeat' (first | done | ((with_reducible refine brK_yes ?_ ?_); (· omega)) | ((with_reducible refine brK_no ?_ ?_); (· omega)) | (with_reducible refine brK_both (fun _ => ?_) (fun _ => ?_)) | ((with_reducible refine And.intro (And.intro ?_ ?_) ?_); (· omega); (· omega)) | ((with_reducible refine And.intro ?_ ?_); (· omega)) | ((with_reducible refine st_newM ?_ ?_); (· rfl)) | ((with_reducible refine bs_oneM ?_ ?_); (· rfl)) | (with_reducible refine bd_of (by with_unfolding_all (simp only [fillL_cons, fillL_nil, nth_eq, blt_eq, cond_beq, over, Value.cells, List.getElem?_cons_zero, List.getElem?_cons_succ, List.length_cons, List.length_nil, Nat.reduceAdd, Nat.reduceSub, Nat.reduceLT, Nat.reduceEqDiff, decide_true, cond_true, Option.map_some, if_true, if_false, Nat.add_one_sub_one, Nat.succ_ne_zero, reduceCtorEq, OfNat.ofNat]; rfl)) ?_) | (with_reducible refine bda_of (by with_unfolding_all rfl) ?_) | (simp -dsimp only [↓cw_ops, ↓cw_seq, ↓seqK_normal, ↓getK_same, ↓getK_ne, ↓evK_tmp, ↓evK_bool, ↓opsW_nil, ↓opsW_d, ↓opW_assign, ↓opW_bin, ↓bin_eql, ↓ld1_some, ↓fldA_some, ↓setAll_cons, ↓setAll_nil, ↓opW_box, ↓box_agg, ↓fa_66_0, ↓fa_59_0, ↓ld_3, ↓r47_0_w, ↓s47_1_w, ↓r47_2_w, ↓s47_3_w, cellAt_newE, cellAt_newO, List.getElem?_cons_zero, onV_some', ne_eq, Nat.reduceEqDiff, Nat.reduceAdd, not_false_eq_true, Nat.one_ne_zero, Nat.add_zero, Addr.add_lit, hg, hc]))
  refine ⟨rfl, ?_⟩
  repeat' (first | done | ((with_reducible refine brK_yes ?_ ?_); (· omega)) | ((with_reducible refine brK_no ?_ ?_); (· omega)) | (with_reducible refine brK_both (fun _ => ?_) (fun _ => ?_)) | ((with_reducible refine And.intro (And.intro ?_ ?_) ?_); (· omega); (· omega)) | ((with_reducible refine And.intro ?_ ?_); (· omega)) | ((with_reducible refine st_newM ?_ ?_); (· rfl)) | ((with_reducible refine bs_oneM ?_ ?_); (· rfl)) | (with_reducible refine bd_of (by with_unfolding_all (simp only [fillL_cons, fillL_nil, nth_eq, blt_eq, cond_beq, over, Value.cells, List.getElem?_cons_zero, List.getElem?_cons_succ, List.length_cons, List.length_nil, Nat.reduceAdd, Nat.reduceSub, Nat.reduceLT, Nat.reduceEqDiff, decide_true, cond_true, Option.map_some, if_true, if_false, Nat.add_one_sub_one, Nat.succ_ne_zero, reduceCtorEq, OfNat.ofNat]; rfl)) ?_) | (with_reducible refine bda_of (by with_unfolding_all rfl) ?_) | (simp -dsimp only [↓cw_ret, ↓seqK_normal, ↓getK_same, ↓evK_tmp, ↓opsW_nil, ↓opsW_d, ↓opW_assign, ↓resK_one]))
  · have X : ExtB h.n h (newBlk h (.cells x.cells 66 true)) := ExtB.new _ (Nat.le_refl _)
    rename_i he
    have := hK _ X
    rw [decide_eq_true he] at this
    exact this
  · have X : ExtB h.n h (newBlk h (.cells x.cells 66 true)) := ExtB.new _ (Nat.le_refl _)
    rename_i he
    have := hK _ X
    rw [decide_eq_false he] at this
    exact this
theorem index_ret {B : Nat} {a : Option Addr} {n : Nat} {l : List TaskD} {g : Int} {c : Nat} {h : Heap} {K : Value → Heap → Prop} (hl : l.length ≤ 20) (hB : B ≤ h.n) (ra : RowAt B h a 21 (l.map TaskD.cells)) (hc : c < h.n) (hg : cellAt h ⟨c, 0, none⟩ = some (.int .i64 g))
    (hy : ∀ (i : Nat) (hi : i < l.length) h', l[i].idx = g → ExtB h.n h h' → K (.int .i64 i) h') (hn : ∀ h', (∀ x ∈ l, x.idx ≠ g) → ExtB h.n h h' → K (.int .i64 (-1)) h') :
    Ret env (.func 46) [.slice a l.length n, .func (.func 47) ⟨[]⟩ ⟨[.pointer (some ⟨c, 0, none⟩)]⟩] h K := by
  refine F46 rfl ?_
  repeat' (first | done | ((with_reducible refine brK_yes ?_ ?_); (· omega)) | ((with_reducible refine brK_no ?_ ?_); (· omega)) | (with_reducible refine brK_both (fun _ => ?_) (fun _ => ?_)) | ((with_reducible refine And.intro (And.intro ?_ ?_) ?_); (· omega); (· omega)) | ((with_reducible refine And.intro ?_ ?_); (· omega)) | ((with_reducible refine st_newM ?_ ?_); (· rfl)) | ((with_reducible refine bs_oneM ?_ ?_); (· rfl)) | (with_reducible refine bd_of (by with_unfolding_all (simp only [fillL_cons, fillL_nil, nth_eq, blt_eq, cond_beq, over, Value.cells, List.getElem?_cons_zero, List.getElem?_cons_succ, List.length_cons, List.length_nil, Nat.reduceAdd, Nat.reduceSub, Nat.reduceLT, Nat.reduceEqDiff, decide_true, cond_true, Option.map_some, if_true, if_false, Nat.add_one_sub_one, Nat.succ_ne_zero, reduceCtorEq, OfNat.ofNat]; rfl)) ?_) | (with_reducible refine bda_of (by with_unfolding_all rfl) ?_) | (simp -dsimp only [↓cw_ops, ↓cw_seq, ↓cw_block, ↓seqK_normal, ↓getK_same, ↓getK_ne, ↓evK_tmp, ↓evK_int, ↓opsW_nil, ↓opsW_d, ↓opW_move, ↓opW_assign, ↓lenS_some, ↓setAll_cons, ↓setAll_nil, ↓len_34, ↓s46_16_w, ↓s46_17_w, ↓r46_18_w, ↓s46_19_w, ↓s46_20_w, ↓r46_21_w, ↓s46_22_w, ne_eq, Nat.reduceEqDiff, Nat.reduceAdd, not_false_eq_true, Nat.one_ne_zero]))
  refine cw_loopI (fun n fr h' => ∃ k : Nat, k ≤ l.length ∧ n = l.length - k ∧ fr.get 8 = some (.int .i64 k) ∧ ExtB h.n h h' ∧ ∀ i (hi : i < l.length), i < k → l[i].idx ≠ g) l.length ?_ (by omega) ?_
  · exact ⟨0, by omega, by omega, by simp [T.get_set], ExtB.refl _ _, fun i _ h => by omega⟩
  rintro n fr h' ⟨k, hk, rfl, g8, X, hno⟩ hag
  have e8 := getK_of g8
  have a0 := getK_eq (hag 0 rfl)
  have a1 := getK_eq (hag 1 rfl)
  have a7 := getK_eq (hag 7 rfl)
  have ra' := ra.ext (X.mono hB)
  by_cases hlt : k < l.length
  · obtain ⟨b0, off, hra, hb, dd⟩ := ra' k (by simpa using hlt)
    simp only [List.getElem_map] at dd
    subst hra
    have hn' := X.n
    repeat' (first | done | ((with_reducible refine brK_yes ?_ ?_); (· omega)) | ((with_reducible refine brK_no ?_ ?_); (· omega)) | (with_reducible refine brK_both (fun _ => ?_) (fun _ => ?_)) | ((with_reducible refine And.intro (And.intro ?_ ?_) ?_); (· omega); (· omega)) | ((with_reducible refine And.intro ?_ ?_); (· omega)) | ((with_reducible refine st_newM ?_ ?_); (· rfl)) | ((with_reducible refine bs_oneM ?_ ?_); (· rfl)) | (with_reducible refine bd_of (by with_unfolding_all (simp only [fillL_cons, fillL_nil, nth_eq, blt_eq, cond_beq, over, Value.cells, List.getElem?_cons_zero, List.getElem?_cons_succ, List.length_cons, List.length_nil, Nat.reduceAdd, Nat.reduceSub, Nat.reduceLT, Nat.reduceEqDiff, decide_true, cond_true, Option.map_some, if_true, if_false, Nat.add_one_sub_one, Nat.succ_ne_zero, reduceCtorEq, OfNat.ofNat]; rfl)) ?_) | (with_reducible refine bda_of (by with_unfolding_all rfl) ?_) | (simp -dsimp only [↓cw_skip, ↓cw_ops, ↓cw_seq, ↓cw_block, ↓cw_cond, ↓seqK_normal, ↓getK_same, ↓getK_ne, ↓evK_tmp, ↓condV_var, ↓opsW_nil, ↓opsW_d, ↓opW_move, ↓opW_assign, ↓opW_bin, ↓bin_lss, ↓ldN_some, ↓idxS_some, ↓evs_nil, ↓evs_cons, ↓opW_callV, ↓callV_some, ↓ia_34, ↓ld_66, ↓r46_7_w, ↓s46_8_w, ↓r46_9_w, ↓s46_10_w, ↓s46_11_w, ↓s46_12_w, ↓s46_13_w, ↓r46_14_w, ↓s46_15_w, onV_some', brK_true, ne_eq, Nat.reduceEqDiff, not_false_eq_true, Nat.one_ne_zero, Addr.add_lit, Int.toNat_natCast, ↓e8, ↓a0, ↓a1, ↓a7, dd]))
    refine is_ret (c := c) (g := g) (by omega) (cellAt_ext X hc hg) fun h2 x2 => ?_
    have X2 : ExtB h.n h h2 := X.trans (x2.mono hn')
    by_cases hx : l[k].idx = g
    · rw [decide_eq_true hx]
      repeat' (first | done | ((with_reducible refine brK_yes ?_ ?_); (· omega)) | ((with_reducible refine brK_no ?_ ?_); (· omega)) | (with_reducible refine brK_both (fun _ => ?_) (fun _ => ?_)) | ((with_reducible refine And.intro (And.intro ?_ ?_) ?_); (· omega); (· omega)) | ((with_reducible refine And.intro ?_ ?_); (· omega)) | ((with_reducible refine st_newM ?_ ?_); (· rfl)) | ((with_reducible refine bs_oneM ?_ ?_); (· rfl)) | (with_reducible refine bd_of (by with_unfolding_all (simp only [fillL_cons, fillL_nil, nth_eq, blt_eq, cond_beq, over, Value.cells, List.getElem?_cons_zero, List.getElem?_cons_succ, List.length_cons, List.length_nil, Nat.reduceAdd, Nat.reduceSub, Nat.reduceLT, Nat.reduceEqDiff, decide_true, cond_true, Option.map_some, if_true, if_false, Nat.add_one_sub_one, Nat.succ_ne_zero, reduceCtorEq, OfNat.ofNat]; rfl)) ?_) | (with_reducible refine bda_of (by with_unfolding_all rfl) ?_) | (simp -dsimp only [↓cw_ops, ↓cw_seq, ↓cw_ret, ↓cw_cond, ↓seqK_normal, ↓seqK_ret, ↓blockK_ret, ↓loopK_ret, ↓getK_same, ↓getK_ne, ↓evK_tmp, ↓condV_var, ↓opsW_nil, ↓opsW_d, ↓opW_move, ↓opW_assign, ↓resK_one, ↓r46_4_w, ↓s46_5_w, ↓s46_6_w, brK_true, ne_eq, Nat.reduceEqDiff, not_false_eq_true]))
      exact hy k hlt h2 hx X2
    · rw [decide_eq_false hx]
      repeat' (first | done | ((with_reducible refine brK_yes ?_ ?_); (· omega)) | ((with_reducible refine brK_no ?_ ?_); (· omega)) | (with_reducible refine brK_both (fun _ => ?_) (fun _ => ?_)) | ((with_reducible refine And.intro (And.intro ?_ ?_) ?_); (· omega); (· omega)) | ((with_reducible refine And.intro ?_ ?_); (· omega)) | ((with_reducible refine st_newM ?_ ?_); (· rfl)) | ((with_reducible refine bs_oneM ?_ ?_); (· rfl)) | (with_reducible refine bd_of (by with_unfolding_all (simp only [fillL_cons, fillL_nil, nth_eq, blt_eq, cond_beq, over, Value.cells, List.getElem?_cons_zero, List.getElem?_cons_succ, List.length_cons, List.length_nil, Nat.reduceAdd, Nat.reduceSub, Nat.reduceLT, Nat.reduceEqDiff, decide_true, cond_true, Option.map_some, if_true, if_false, Nat.add_one_sub_one, Nat.succ_ne_zero, reduceCtorEq, OfNat.ofNat]; rfl)) ?_) | (with_reducible refine bda_of (by with_unfolding_all rfl) ?_) | (simp -dsimp only [↓cw_skip, ↓cw_ops, ↓cw_cond, ↓seqK_normal, ↓blockK_normal, ↓loopK_normal, ↓getK_same, ↓getK_ne, ↓evK_tmp, ↓evK_int, ↓condV_var, ↓opsW_nil, ↓opsW_d, ↓opW_move, ↓opW_bin, ↓bin_add, ↓r46_2_w, ↓s46_3_w, ↓s46_6_w, brK_false, ne_eq, Nat.reduceEqDiff, not_false_eq_true, Addr.add_lit, Int.toNat_natCast, Bool.false_eq_true,  ↓e8]))
      refine ⟨l.length - (k + 1), by omega, k + 1, by omega, rfl, by simp [T.get_set, wrap_succ (show k ≤ 4611686018427387904 by omega)], X2, fun i hi hik => ?_⟩
      by_cases hi' : i < k
      · exact hno i hi hi'
      · have : i = k := by omega
        subst this; exact hx
  · repeat' (first | done | ((with_reducible refine brK_yes ?_ ?_); (· omega)) | ((with_reducible refine brK_no ?_ ?_); (· omega)) | (with_reducible refine brK_both (fun _ => ?_) (fun _ => ?_)) | ((with_reducible refine And.intro (And.intro ?_ ?_) ?_); (· omega); (· omega)) | ((with_reducible refine And.intro ?_ ?_); (· omega)) | ((with_reducible refine st_newM ?_ ?_); (· rfl)) | ((with_reducible refine bs_oneM ?_ ?_); (· rfl)) | (with_reducible refine bd_of (by with_unfolding_all (simp only [fillL_cons, fillL_nil, nth_eq, blt_eq, cond_beq, over, Value.cells, List.getElem?_cons_zero, List.getElem?_cons_succ, List.length_cons, List.length_nil, Nat.reduceAdd, Nat.reduceSub, Nat.reduceLT, Nat.reduceEqDiff, decide_true, cond_true, Option.map_some, if_true, if_false, Nat.add_one_sub_one, Nat.succ_ne_zero, reduceCtorEq, OfNat.ofNat]; rfl)) ?_) | (with_reducible refine bda_of (by with_unfolding_all rfl) ?_) | (simp -dsimp only [↓cw_ops, ↓cw_seq, ↓cw_exit, ↓cw_ret, ↓cw_cond, ↓seqK_normal, ↓seqK_exit, ↓blockK_same, ↓loopK_exit, ↓getK_same, ↓getK_ne, ↓evK_tmp, ↓evK_int, ↓condV_var, ↓opsW_nil, ↓opsW_d, ↓opW_assign, ↓opW_bin, ↓bin_lss, ↓resK_one, ↓r46_0_w, ↓s46_1_w, ↓s46_12_w, ↓s46_13_w, ↓r46_14_w, ↓s46_15_w, brK_false, ne_eq, Nat.reduceEqDiff, not_false_eq_true, Bool.false_eq_true,  ↓e8, ↓a7]))
    refine hn h' (fun x hx => ?_) X
    obtain ⟨i, hi, rfl⟩ := List.getElem_of_mem hx
    exact hno i hi (by omega)
/-- a goroutine's fields, noughts if it is not there -/
def taskOf (l : List TaskD) (g : Int) : TaskD := (l.find? (fun x => decide (x.idx = g))).getD ⟨0, 0, 0, false, 0, 0, 0, 0, 0, 0, 0, 0, 0, 0, 0, 0, 0, 0, 0, 0, 0⟩
theorem task_ret {B i : Nat} {a : VA} {d : ViewD} {g : Int} {h : Heap} {K : Value → Heap → Prop} (ho : OnceP d) (hB : B ≤ h.n) (V : VBox h i a d) (hv : VOK B h a d)
    (hK : ∀ h' x, (x ∈ d.tasks ∧ x.idx = g) ∨ ((∀ y ∈ d.tasks, y.idx ≠ g) ∧ x = ⟨0, 0, 0, false, 0, 0, 0, 0, 0, 0, 0, 0, 0, 0, 0, 0, 0, 0, 0, 0, 0⟩) → ExtB h.n h h' → K (.agg ⟨TaskD.g x⟩) h') :
    Ret env (.func 45) [.int .i64 g, .pointer (some ⟨i, 0, none⟩)] h K := by
  have ht := ho.t
  have d1 := V.get 1 _ rfl
  have hi := V.lt
  have hi1 : i < h.n + 1 := by omega
  have d1' : ∀ b1 b2, cellAt (newBlk (newBlk h b1) b2) ⟨i, 1, none⟩ = some (.slice a.ta d.tasks.length a.tc) := fun b1 b2 => by
    rw [cellAt_newO (by simp [newBlk]; omega), cellAt_newO hi, d1]
  refine F45 rfl ?_
  repeat' (first | done | ((with_reducible refine brK_yes ?_ ?_); (· omega)) | ((with_reducible refine brK_no ?_ ?_); (· omega)) | (with_reducible refine brK_both (fun _ => ?_) (fun _ => ?_)) | ((with_reducible refine And.intro (And.intro ?_ ?_) ?_); (· omega); (· omega)) | ((with_reducible refine And.intro ?_ ?_); (· omega)) | ((with_reducible refine st_newM ?_ ?_); (· rfl)) | ((with_reducible refine bs_oneM ?_ ?_); (· rfl)) | (with_reducible refine bd_of (by with_unfolding_all (simp only [fillL_cons, fillL_nil, nth_eq, blt_eq, cond_beq, over, Value.cells, List.getElem?_cons_zero, List.getElem?_cons_succ, List.length_cons, List.length_nil, Nat.reduceAdd, Nat.reduceSub, Nat.reduceLT, Nat.reduceEqDiff, decide_true, cond_true, Option.map_some, if_true, if_false, Nat.add_one_sub_one, Nat.succ_ne_zero, reduceCtorEq, OfNat.ofNat]; rfl)) ?_) | (with_reducible refine bda_of (by with_unfolding_all rfl) ?_) | (simp -dsimp only [↓cw_ops, ↓cw_seq, ↓seqK_normal, ↓getK_same, ↓getK_ne, ↓evK_tmp, ↓opsW_nil, ↓opsW_d, ↓ld1_some, ↓fldA_some, ↓evs_nil, ↓evs_cons, ↓opW_call, ↓setAll_cons, ↓setAll_nil, ↓opW_box, ↓box_int, ↓opW_makeFuncF, ↓fa_45_1, ↓ld_34, ↓al_64, ↓r45_8_w, ↓s45_9_w, ↓r45_10_w, ↓s45_11_w, onV_some', ne_eq, Nat.reduceEqDiff, Nat.reduceAdd, not_false_eq_true, Nat.one_ne_zero, Addr.add_lit, ↓d1']))
  have X0 : ∀ b1 b2, ExtB h.n h (newBlk (newBlk h b1) b2) := fun b1 b2 => (ExtB.new b1 (Nat.le_refl _)).trans (ExtB.new b2 (by simp [newBlk]))
  refine index_ret (B := B) ho.t (by simp [newBlk]; omega) (hv.tasks.ext ((X0 _ _).mono hB)) (by simp [newBlk]; omega) (g := g) (by rw [cellAt_newO (by simp [newBlk])]; exact cellAt_new rfl) (fun j hj h' hx x' => ?_) (fun h' hno x' => ?_)
  · have hz := x'.get (h.n + 1) (by simp [newBlk])
    rw [show (h.n + 1) = (newBlk h (.cells [.int .i64 g] 3 true)).n from rfl, newBlk_same] at hz
    have XX := (X0 (.cells [.int .i64 g] 3 true) (.cells (TaskD.g ⟨0, 0, 0, false, 0, 0, 0, 0, 0, 0, 0, 0, 0, 0, 0, 0, 0, 0, 0, 0, 0⟩) 64 true)).trans (x'.mono (by simp only [newBlk_n]; omega))
    have hn' : h.n + 1 < h'.n := by have := x'.n; simp only [newBlk_n] at this; omega
    have e1 := (V.ext XX hi).get 1 _ rfl
    obtain ⟨b0, off, hra, hb, dd⟩ := (hv.tasks.ext (XX.mono hB)) j (by simpa using hj)
    simp only [List.getElem_map] at dd
    have dg : cellsAt h' ⟨b0, off + j * 21 + 2, none⟩ 19 = some d.tasks[j].g := by
      refine cellsAt_pts d.tasks[j].g (by simp [TaskD.g]) fun o v hv => ?_
      rw [Nat.add_assoc]
      refine cellAt_of dd ?_
      have : d.tasks[j].g[o]? = d.tasks[j].cells[2 + o]? := by
        rw [show d.tasks[j].g = d.tasks[j].cells.drop 2 from rfl, List.getElem?_drop]
      rw [← this]; exact hv
    rw [hra] at e1
    repeat' (first | done | ((with_reducible refine brK_yes ?_ ?_); (· omega)) | ((with_reducible refine brK_no ?_ ?_); (· omega)) | (with_reducible refine brK_both (fun _ => ?_) (fun _ => ?_)) | ((with_reducible refine And.intro (And.intro ?_ ?_) ?_); (· omega); (· omega)) | ((with_reducible refine And.intro ?_ ?_); (· omega)) | ((with_reducible refine st_newM ?_ ?_); (· rfl)) | ((with_reducible refine bs_oneM ?_ ?_); (· rfl)) | (with_reducible refine bd_of (by with_unfolding_all (simp only [fillL_cons, fillL_nil, nth_eq, blt_eq, cond_beq, over, Value.cells, List.getElem?_cons_zero, List.getElem?_cons_succ, List.length_cons, List.length_nil, Nat.reduceAdd, Nat.reduceSub, Nat.reduceLT, Nat.reduceEqDiff, decide_true, cond_true, Option.map_some, if_true, if_false, Nat.add_one_sub_one, Nat.succ_ne_zero, reduceCtorEq, OfNat.ofNat]; rfl)) ?_) | (with_reducible refine bda_of (by with_unfolding_all rfl) ?_) | (simp -dsimp only [↓cw_skip, ↓cw_ops, ↓cw_seq, ↓cw_cond, ↓seqK_normal, ↓getK_same, ↓getK_ne, ↓evK_tmp, ↓evK_int, ↓condV_var, ↓opsW_nil, ↓opsW_d, ↓opsW_n, ↓opW_move, ↓opW_assign, ↓opW_bin, ↓bin_lss, ↓ld1_some, ↓ldN_some, ↓fldA_some, ↓idxS_some, ↓setAll_cons, ↓setAll_nil, ↓fa_45_1, ↓ld_34, ↓ia_34, ↓fa_66_1, ↓st_64, ↓ld_64, ↓r45_0_w, ↓s45_1_w, ↓s45_4_w, ↓r45_5_w, ↓s45_6_w, ↓s45_7_w, newBlk_n, onV_some', brK_false, ne_eq, Nat.reduceEqDiff, Nat.reduceAdd, not_false_eq_true, Addr.add_lit, Int.toNat_natCast, Bool.false_eq_true,  ↓e1, dg]))
    refine st_at (off := 0) (cs' := d.tasks[j].g) hz rfl rfl rfl rfl (by decide) ?_
    have hb2 : ({ h' with b := h'.b.set (h.n + 1) (.cells (TaskD.g d.tasks[j]) 64 true) } : Heap).b.get (h.n + 1) = some (.cells (TaskD.g d.tasks[j]) 64 true) := by simp [T.get_set]
    have X2 : ExtB h.n h { h' with b := h'.b.set (h.n + 1) (.cells (TaskD.g d.tasks[j]) 64 true) } := XX.trans (ExtB.set _ (by omega))
    have hn2 : ({ h' with b := h'.b.set (h.n + 1) (.cells (TaskD.g d.tasks[j]) 64 true) } : Heap).n = h'.n := rfl
    generalize ({ h' with b := h'.b.set (h.n + 1) (.cells (TaskD.g d.tasks[j]) 64 true) } : Heap) = h2 at hb2 X2 hn2 ⊢
    have dr : cellsAt h2 ⟨h.n + 1, 0, none⟩ 19 = some (TaskD.g d.tasks[j]) := cellsAt_blk (by omega) hb2 (by simp [TaskD.g]) rfl
    repeat' (first | done | ((with_reducible refine brK_yes ?_ ?_); (· omega)) | ((with_reducible refine brK_no ?_ ?_); (· omega)) | (with_reducible refine brK_both (fun _ => ?_) (fun _ => ?_)) | ((with_reducible refine And.intro (And.intro ?_ ?_) ?_); (· omega); (· omega)) | ((with_reducible refine And.intro ?_ ?_); (· omega)) | ((with_reducible refine st_newM ?_ ?_); (· rfl)) | ((with_reducible refine bs_oneM ?_ ?_); (· rfl)) | (with_reducible refine bd_of (by with_unfolding_all (simp only [fillL_cons, fillL_nil, nth_eq, blt_eq, cond_beq, over, Value.cells, List.getElem?_cons_zero, List.getElem?_cons_succ, List.length_cons, List.length_nil, Nat.reduceAdd, Nat.reduceSub, Nat.reduceLT, Nat.reduceEqDiff, decide_true, cond_true, Option.map_some, if_true, if_false, Nat.add_one_sub_one, Nat.succ_ne_zero, reduceCtorEq, OfNat.ofNat]; rfl)) ?_) | (with_reducible refine bda_of (by with_unfolding_all rfl) ?_) | (simp -dsimp only [↓cw_ret, ↓seqK_normal, ↓getK_same, ↓getK_ne, ↓opsW_nil, ↓ldN_some, ↓resK_cellR, ↓agl_64, newBlk_n, onV_some', ne_eq, Nat.reduceEqDiff, not_false_eq_true, dr]))
    exact hK h2 _ (.inl ⟨List.getElem_mem hj, hx⟩) X2
  · have hz := x'.get (h.n + 1) (by simp [newBlk])
    rw [show (h.n + 1) = (newBlk h (.cells [.int .i64 g] 3 true)).n from rfl, newBlk_same] at hz
    have XX := (X0 (.cells [.int .i64 g] 3 true) (.cells (TaskD.g ⟨0, 0, 0, false, 0, 0, 0, 0, 0, 0, 0, 0, 0, 0, 0, 0, 0, 0, 0, 0, 0⟩) 64 true)).trans (x'.mono (by simp only [newBlk_n]; omega))
    have hn' : h.n + 1 < h'.n := by have := x'.n; simp only [newBlk_n] at this; omega
    repeat' (first | done | ((with_reducible refine brK_yes ?_ ?_); (· omega)) | ((with_reducible refine brK_no ?_ ?_); (· omega)) | (with_reducible refine brK_both (fun _ => ?_) (fun _ => ?_)) | ((with_reducible refine And.intro (And.intro ?_ ?_) ?_); (· omega); (· omega)) | ((with_reducible refine And.intro ?_ ?_); (· omega)) | ((with_reducible refine st_newM ?_ ?_); (· rfl)) | ((with_reducible refine bs_oneM ?_ ?_); (· rfl)) | (with_reducible refine bd_of (by with_unfolding_all (simp only [fillL_nil, OfNat.ofNat]; rfl)) ?_) | (with_reducible refine bda_of (by with_unfolding_all rfl) ?_) | (simp -dsimp only [↓cw_ops, ↓cw_seq, ↓cw_cond, ↓seqK_normal, ↓getK_same, ↓getK_ne, ↓evK_tmp, ↓evK_int, ↓condV_var, ↓opsW_nil, ↓opsW_d, ↓opsW_n, ↓opW_move, ↓opW_assign, ↓opW_bin, ↓bin_lss, ↓evp_nil, ↓bd_64, ↓st_64, ↓r45_2_w, ↓s45_3_w, ↓s45_4_w, ↓r45_5_w, ↓s45_6_w, ↓s45_7_w, newBlk_n, brK_true, ne_eq, Nat.reduceEqDiff, not_false_eq_true]))
    refine st_at (off := 0) (cs' := TaskD.g ⟨0, 0, 0, false, 0, 0, 0, 0, 0, 0, 0, 0, 0, 0, 0, 0, 0, 0, 0, 0, 0⟩) hz rfl rfl rfl rfl (by decide) ?_
    have hb2 : ({ h' with b := h'.b.set (h.n + 1) (.cells (TaskD.g ⟨0, 0, 0, false, 0, 0, 0, 0, 0, 0, 0, 0, 0, 0, 0, 0, 0, 0, 0, 0, 0⟩) 64 true) } : Heap).b.get (h.n + 1) = some (.cells (TaskD.g ⟨0, 0, 0, false, 0, 0, 0, 0, 0, 0, 0, 0, 0, 0, 0, 0, 0, 0, 0, 0, 0⟩) 64 true) := by simp [T.get_set]
    have X2 : ExtB h.n h { h' with b := h'.b.set (h.n + 1) (.cells (TaskD.g ⟨0, 0, 0, false, 0, 0, 0, 0, 0, 0, 0, 0, 0, 0, 0, 0, 0, 0, 0, 0, 0⟩) 64 true) } := XX.trans (ExtB.set _ (by omega))
    have hn2 : ({ h' with b := h'.b.set (h.n + 1) (.cells (TaskD.g ⟨0, 0, 0, false, 0, 0, 0, 0, 0, 0, 0, 0, 0, 0, 0, 0, 0, 0, 0, 0, 0⟩) 64 true) } : Heap).n = h'.n := rfl
    generalize ({ h' with b := h'.b.set (h.n + 1) (.cells (TaskD.g ⟨0, 0, 0, false, 0, 0, 0, 0, 0, 0, 0, 0, 0, 0, 0, 0, 0, 0, 0, 0, 0⟩) 64 true) } : Heap) = h2 at hb2 X2 hn2 ⊢
    have dr : cellsAt h2 ⟨h.n + 1, 0, none⟩ 19 = some (TaskD.g ⟨0, 0, 0, false, 0, 0, 0, 0, 0, 0, 0, 0, 0, 0, 0, 0, 0, 0, 0, 0, 0⟩) := cellsAt_blk (by omega) hb2 (by simp [TaskD.g]) rfl
    repeat' (first | done | ((with_reducible refine brK_yes ?_ ?_); (· omega)) | ((with_reducible refine brK_no ?_ ?_); (· omega)) | (with_reducible refine brK_both (fun _ => ?_) (fun _ => ?_)) | ((with_reducible refine And.intro (And.intro ?_ ?_) ?_); (· omega); (· omega)) | ((with_reducible refine And.intro ?_ ?_); (· omega)) | ((with_reducible refine st_newM ?_ ?_); (· rfl)) | ((with_reducible refine bs_oneM ?_ ?_); (· rfl)) | (with_reducible refine bd_of (by with_unfolding_all (simp only [fillL_cons, fillL_nil, nth_eq, blt_eq, cond_beq, over, Value.cells, List.getElem?_cons_zero, List.getElem?_cons_succ, List.length_cons, List.length_nil, Nat.reduceAdd, Nat.reduceSub, Nat.reduceLT, Nat.reduceEqDiff, decide_true, cond_true, Option.map_some, if_true, if_false, Nat.add_one_sub_one, Nat.succ_ne_zero, reduceCtorEq, OfNat.ofNat]; rfl)) ?_) | (with_reducible refine bda_of (by with_unfolding_all rfl) ?_) | (simp -dsimp only [↓cw_ret, ↓seqK_normal, ↓seqK_ret, ↓getK_same, ↓getK_ne, ↓opsW_nil, ↓ldN_some, ↓resK_cellR, ↓agl_64, newBlk_n, onV_some', ne_eq, Nat.reduceEqDiff, not_false_eq_true, dr]))
    exact hK h2 _ (.inr ⟨hno, rfl⟩) X2
end Go.Proofs.Ytdjnedamphifcaa
