/- 'fair.Whole': true where PSpec holds. Conditions: each theorem's own. -/
import Derived.Test.YtdjnedamphifcaaWM
set_option linter.unusedSimpArgs false
set_option linter.unusedVariables false
namespace Go.Proofs.Ytdjnedamphifcaa
open Go.Ev
set_option maxRecDepth 100000
set_option maxHeartbeats 400000
structure OkW (d : ViewD) (x : TaskD) : Prop where
  q : want0 x.state = (allQ d).count x.idx
  r : want1 x.state = (d.runs.filter (0 ≤ ·)).count x.idx
  t : want2 x.state = (d.timers.map TimerD.id).count x.idx
def AnyIn (d : ViewD) (g : Int) : Prop := g ∈ allQ d ∨ g ∈ d.runs.filter (0 ≤ ·) ∨ g ∈ d.timers.map TimerD.id
structure PSpec (d : ViewD) : Prop where
  ok : ∀ x ∈ d.tasks, OkW d x
  fine : fineAll d = true
  all : ∀ g, AnyIn d g → g ∈ d.tasks.map TaskD.idx
def Lft (d : ViewD) (k : Nat) (g : Int) : Option Value := if g ∈ (d.tasks.map TaskD.idx).take k then none else CMf (allQ d) (d.runs.filter (0 ≤ ·)) (d.timers.map TimerD.id) g
theorem want_phase {fr : Fr} {h : Heap} {Kr : Ex → Fr → Heap → Prop} {j : Nat} {st : Int} (hj : j < h.n) (g22 : fr.get 22 = some (.int .i64 st)) (g7 : fr.get 7 = some (.pointer (some ⟨j, 0, none⟩))) (hb : h.b.get j = some (.cells [.int .i64 0, .int .i64 0, .int .i64 0] 71 true))
    (hK : ∀ fr' h', (∀ t, t < 20 → fr'.get t = fr.get t) → h'.n = h.n → (∀ i, i ≠ j → h'.b.get i = h.b.get i) → h'.b.get j = some (.cells [.int .i64 (want0 st), .int .i64 (want1 st), .int .i64 (want2 st)] 71 true) → Kr .normal fr' h') : s13_27.wp env 50 none fr h Kr := by
  have e22 := getK_of g22
  have e7 := getK_of g7
  by_cases s1 : st = 1
  · subst s1
    repeat' (first | done | ((with_reducible refine brK_yes ?_ ?_); (· omega)) | ((with_reducible refine brK_no ?_ ?_); (· omega)) | (with_reducible refine brK_both (fun _ => ?_) (fun _ => ?_)) | ((with_reducible refine And.intro (And.intro ?_ ?_) ?_); (· omega); (· omega)) | ((with_reducible refine And.intro ?_ ?_); (· omega)) | ((with_reducible refine st_newM ?_ ?_); (· rfl)) | ((with_reducible refine bs_oneM ?_ ?_); (· rfl)) | (with_reducible refine bd_of (by with_unfolding_all (simp only [fillL_cons, fillL_nil, nth_eq, blt_eq, cond_beq, over, Value.cells, List.getElem?_cons_zero, List.getElem?_cons_succ, List.length_cons, List.length_nil, Nat.reduceAdd, Nat.reduceSub, Nat.reduceLT, Nat.reduceEqDiff, decide_true, cond_true, Option.map_some, if_true, if_false, Nat.add_one_sub_one, Nat.succ_ne_zero, reduceCtorEq, OfNat.ofNat]; rfl)) ?_) | (with_reducible refine bda_of (by with_unfolding_all rfl) ?_) | (simp -dsimp only [↓cw_ops, ↓cw_seq, ↓cw_block, ↓cw_cond, ↓seqK_normal, ↓getK_same, ↓getK_ne, ↓evK_tmp, ↓evK_int, ↓condV_var, ↓opsW_nil, ↓opsW_d, ↓opsW_n, ↓opW_assign, ↓opW_bin, ↓bin_eql, ↓fldA_some, ↓fa_71_0, ↓st_3, ↓r13_12_w, ↓s13_13_w, ↓s13_24_w, ↓r13_25_w, ↓s13_26_w, ↓s13_27_w, brK_true, ne_eq, Nat.reduceEqDiff, not_false_eq_true, Nat.add_zero, Addr.add_lit, ↓e22, ↓e7]))
    refine st_at (off := 0) (cs' := [.int .i64 1, .int .i64 0, .int .i64 0]) hb rfl rfl rfl rfl (by decide) ?_
    repeat' (first | done | ((with_reducible refine brK_yes ?_ ?_); (· omega)) | ((with_reducible refine brK_no ?_ ?_); (· omega)) | (with_reducible refine brK_both (fun _ => ?_) (fun _ => ?_)) | ((with_reducible refine And.intro (And.intro ?_ ?_) ?_); (· omega); (· omega)) | ((with_reducible refine And.intro ?_ ?_); (· omega)) | ((with_reducible refine st_newM ?_ ?_); (· rfl)) | ((with_reducible refine bs_oneM ?_ ?_); (· rfl)) | (with_reducible refine bd_of (by with_unfolding_all (simp only [fillL_cons, fillL_nil, nth_eq, blt_eq, cond_beq, over, Value.cells, List.getElem?_cons_zero, List.getElem?_cons_succ, List.length_cons, List.length_nil, Nat.reduceAdd, Nat.reduceSub, Nat.reduceLT, Nat.reduceEqDiff, decide_true, cond_true, Option.map_some, if_true, if_false, Nat.add_one_sub_one, Nat.succ_ne_zero, reduceCtorEq, OfNat.ofNat]; rfl)) ?_) | (with_reducible refine bda_of (by with_unfolding_all rfl) ?_) | (simp -dsimp only [↓blockK_normal, ↓opsW_nil, Nat.add_zero, Addr.add_lit]))
    exact hK _ _ (fun t ht => by simp only [T.get_set]; repeat' (first | rfl | (rw [if_neg (by omega)]))) rfl (fun i hi => T.get_set_ne _ _ (Ne.symm hi)) (by simp [T.get_set, want0, want1, want2])
  by_cases s2 : st = 2
  · subst s2
    repeat' (first | done | ((with_reducible refine brK_yes ?_ ?_); (· omega)) | ((with_reducible refine brK_no ?_ ?_); (· omega)) | (with_reducible refine brK_both (fun _ => ?_) (fun _ => ?_)) | ((with_reducible refine And.intro (And.intro ?_ ?_) ?_); (· omega); (· omega)) | ((with_reducible refine And.intro ?_ ?_); (· omega)) | ((with_reducible refine st_newM ?_ ?_); (· rfl)) | ((with_reducible refine bs_oneM ?_ ?_); (· rfl)) | (with_reducible refine bd_of (by with_unfolding_all (simp only [fillL_cons, fillL_nil, nth_eq, blt_eq, cond_beq, over, Value.cells, List.getElem?_cons_zero, List.getElem?_cons_succ, List.length_cons, List.length_nil, Nat.reduceAdd, Nat.reduceSub, Nat.reduceLT, Nat.reduceEqDiff, decide_true, cond_true, Option.map_some, if_true, if_false, Nat.add_one_sub_one, Nat.succ_ne_zero, reduceCtorEq, OfNat.ofNat]; rfl)) ?_) | (with_reducible refine bda_of (by with_unfolding_all rfl) ?_) | (simp -dsimp only [↓cw_ops, ↓cw_seq, ↓cw_block, ↓cw_cond, ↓seqK_normal, ↓getK_same, ↓getK_ne, ↓evK_tmp, ↓evK_int, ↓condV_var, ↓opsW_nil, ↓opsW_d, ↓opsW_n, ↓opW_assign, ↓opW_bin, ↓bin_eql, ↓fldA_some, ↓st_3, ↓fa_71_1, ↓r13_14_w, ↓s13_15_w, ↓s13_21_w, ↓r13_22_w, ↓s13_23_w, ↓s13_24_w, ↓r13_25_w, ↓s13_26_w, ↓s13_27_w, brK_true, brK_false, ne_eq, Nat.reduceEqDiff, Nat.reduceAdd, not_false_eq_true, Addr.add_lit, Bool.false_eq_true,  ↓e22, ↓e7]))
    refine st_at (off := 1) (cs' := [.int .i64 0, .int .i64 1, .int .i64 0]) hb rfl rfl rfl rfl (by decide) ?_
    repeat' (first | done | ((with_reducible refine brK_yes ?_ ?_); (· omega)) | ((with_reducible refine brK_no ?_ ?_); (· omega)) | (with_reducible refine brK_both (fun _ => ?_) (fun _ => ?_)) | ((with_reducible refine And.intro (And.intro ?_ ?_) ?_); (· omega); (· omega)) | ((with_reducible refine And.intro ?_ ?_); (· omega)) | ((with_reducible refine st_newM ?_ ?_); (· rfl)) | ((with_reducible refine bs_oneM ?_ ?_); (· rfl)) | (with_reducible refine bd_of (by with_unfolding_all (simp only [fillL_cons, fillL_nil, nth_eq, blt_eq, cond_beq, over, Value.cells, List.getElem?_cons_zero, List.getElem?_cons_succ, List.length_cons, List.length_nil, Nat.reduceAdd, Nat.reduceSub, Nat.reduceLT, Nat.reduceEqDiff, decide_true, cond_true, Option.map_some, if_true, if_false, Nat.add_one_sub_one, Nat.succ_ne_zero, reduceCtorEq, OfNat.ofNat]; rfl)) ?_) | (with_reducible refine bda_of (by with_unfolding_all rfl) ?_) | (simp -dsimp only [↓blockK_normal, ↓opsW_nil, Nat.reduceAdd, Addr.add_lit]))
    exact hK _ _ (fun t ht => by simp only [T.get_set]; repeat' (first | rfl | (rw [if_neg (by omega)]))) rfl (fun i hi => T.get_set_ne _ _ (Ne.symm hi)) (by simp [T.get_set, want0, want1, want2])
  by_cases s4 : st = 4
  · subst s4
    repeat' (first | done | ((with_reducible refine brK_yes ?_ ?_); (· omega)) | ((with_reducible refine brK_no ?_ ?_); (· omega)) | (with_reducible refine brK_both (fun _ => ?_) (fun _ => ?_)) | ((with_reducible refine And.intro (And.intro ?_ ?_) ?_); (· omega); (· omega)) | ((with_reducible refine And.intro ?_ ?_); (· omega)) | ((with_reducible refine st_newM ?_ ?_); (· rfl)) | ((with_reducible refine bs_oneM ?_ ?_); (· rfl)) | (with_reducible refine bd_of (by with_unfolding_all (simp only [fillL_cons, fillL_nil, nth_eq, blt_eq, cond_beq, over, Value.cells, List.getElem?_cons_zero, List.getElem?_cons_succ, List.length_cons, List.length_nil, Nat.reduceAdd, Nat.reduceSub, Nat.reduceLT, Nat.reduceEqDiff, decide_true, cond_true, Option.map_some, if_true, if_false, Nat.add_one_sub_one, Nat.succ_ne_zero, reduceCtorEq, OfNat.ofNat]; rfl)) ?_) | (with_reducible refine bda_of (by with_unfolding_all rfl) ?_) | (simp -dsimp only [↓cw_ops, ↓cw_seq, ↓cw_block, ↓cw_cond, ↓seqK_normal, ↓getK_same, ↓getK_ne, ↓evK_tmp, ↓evK_int, ↓condV_var, ↓opsW_nil, ↓opsW_d, ↓opsW_n, ↓opW_assign, ↓opW_bin, ↓bin_eql, ↓fldA_some, ↓st_3, ↓fa_71_2, ↓r13_16_w, ↓s13_17_w, ↓s13_18_w, ↓r13_19_w, ↓s13_20_w, ↓s13_21_w, ↓r13_22_w, ↓s13_23_w, ↓s13_24_w, ↓r13_25_w, ↓s13_26_w, ↓s13_27_w, brK_true, brK_false, ne_eq, Nat.reduceEqDiff, Nat.reduceAdd, not_false_eq_true, Addr.add_lit, Bool.false_eq_true,  ↓e22, ↓e7]))
    refine st_at (off := 2) (cs' := [.int .i64 0, .int .i64 0, .int .i64 1]) hb rfl rfl rfl rfl (by decide) ?_
    repeat' (first | done | ((with_reducible refine brK_yes ?_ ?_); (· omega)) | ((with_reducible refine brK_no ?_ ?_); (· omega)) | (with_reducible refine brK_both (fun _ => ?_) (fun _ => ?_)) | ((with_reducible refine And.intro (And.intro ?_ ?_) ?_); (· omega); (· omega)) | ((with_reducible refine And.intro ?_ ?_); (· omega)) | ((with_reducible refine st_newM ?_ ?_); (· rfl)) | ((with_reducible refine bs_oneM ?_ ?_); (· rfl)) | (with_reducible refine bd_of (by with_unfolding_all (simp only [fillL_cons, fillL_nil, nth_eq, blt_eq, cond_beq, over, Value.cells, List.getElem?_cons_zero, List.getElem?_cons_succ, List.length_cons, List.length_nil, Nat.reduceAdd, Nat.reduceSub, Nat.reduceLT, Nat.reduceEqDiff, decide_true, cond_true, Option.map_some, if_true, if_false, Nat.add_one_sub_one, Nat.succ_ne_zero, reduceCtorEq, OfNat.ofNat]; rfl)) ?_) | (with_reducible refine bda_of (by with_unfolding_all rfl) ?_) | (simp -dsimp only [↓blockK_normal, ↓opsW_nil, Nat.reduceAdd, Addr.add_lit]))
    exact hK _ _ (fun t ht => by simp only [T.get_set]; repeat' (first | rfl | (rw [if_neg (by omega)]))) rfl (fun i hi => T.get_set_ne _ _ (Ne.symm hi)) (by simp [T.get_set, want0, want1, want2])
  · repeat' (first | done | ((with_reducible refine brK_yes ?_ ?_); (· omega)) | ((with_reducible refine brK_no ?_ ?_); (· omega)) | (with_reducible refine brK_both (fun _ => ?_) (fun _ => ?_)) | ((with_reducible refine And.intro (And.intro ?_ ?_) ?_); (· omega); (· omega)) | ((with_reducible refine And.intro ?_ ?_); (· omega)) | ((with_reducible refine st_newM ?_ ?_); (· rfl)) | ((with_reducible refine bs_oneM ?_ ?_); (· rfl)) | (with_reducible refine bd_of (by with_unfolding_all (simp only [fillL_cons, fillL_nil, nth_eq, blt_eq, cond_beq, over, Value.cells, List.getElem?_cons_zero, List.getElem?_cons_succ, List.length_cons, List.length_nil, Nat.reduceAdd, Nat.reduceSub, Nat.reduceLT, Nat.reduceEqDiff, decide_true, cond_true, Option.map_some, if_true, if_false, Nat.add_one_sub_one, Nat.succ_ne_zero, reduceCtorEq, OfNat.ofNat]; rfl)) ?_) | (with_reducible refine bda_of (by with_unfolding_all rfl) ?_) | (simp -dsimp only [↓cw_skip, ↓cw_ops, ↓cw_seq, ↓cw_block, ↓cw_cond, ↓seqK_normal, ↓blockK_normal, ↓getK_same, ↓getK_ne, ↓evK_tmp, ↓evK_int, ↓condV_var, ↓opsW_nil, ↓opsW_d, ↓opW_assign, ↓opW_bin, ↓bin_eql, ↓s13_18_w, ↓r13_19_w, ↓s13_20_w, ↓s13_21_w, ↓r13_22_w, ↓s13_23_w, ↓s13_24_w, ↓r13_25_w, ↓s13_26_w, ↓s13_27_w, brK_false, ne_eq, Nat.reduceEqDiff, not_false_eq_true, Bool.false_eq_true,  ↓e22]))
    exact hK _ _ (fun t ht => by simp only [T.get_set]; repeat' (first | rfl | (rw [if_neg (by omega)]))) rfl (fun i hi => rfl) (by rw [hb]; simp [want0, want1, want2, s1, s2, s4])
theorem whole_ret {B : Nat} {a : VA} {d : ViewD} {h : Heap} {K : Value → Heap → Prop} (ho : OnceP d) (hr : Ranges d) (hB : B ≤ h.n) (hv : VOK B h a d)
    (hsl : sameV 50 (.slice a.la d.global.length a.lc) (.slice a.la d.global.length a.lc) = true)
    (hK : ∀ b h', (b = true ↔ PSpec d) → ExtB h.n h h' → K (.bool b) h') : Ret env (.func 13) [.agg ⟨vcells a d⟩] h K := by
  have ht := ho.t
  refine F13 rfl ?_
  simp -dsimp only [↓cw_ops, ↓cw_seq, ↓seqK_normal, ↓getK_same, ↓getK_ne, ↓evK_tmp, ↓evK_bool, ↓opsW_nil, ↓opsW_d, ↓opW_assign, ↓ldN_some, ↓setAll_cons, ↓setAll_nil, ↓opW_box, ↓box_agg, ↓ld_45, ↓r13_45_w, ↓s13_46_w, ↓r13_47_w, ↓s13_48_w, true_and, ne_eq, Nat.reduceEqDiff, not_false_eq_true, vcells_one a d]
  have V := VBox.new h a d 45
  have X : ExtB h.n h (newBlk h (.cells (vcells a d) 45 true)) := ExtB.new _ (Nat.le_refl _)
  have hn1 : (newBlk h (.cells (vcells a d) 45 true)).n = h.n + 1 := rfl
  generalize newBlk h (.cells (vcells a d) 45 true) = h1 at V X hn1 ⊢
  have dv := V.all
  repeat' (first | done | ((with_reducible refine brK_yes ?_ ?_); (· omega)) | ((with_reducible refine brK_no ?_ ?_); (· omega)) | (with_reducible refine brK_both (fun _ => ?_) (fun _ => ?_)) | ((with_reducible refine And.intro (And.intro ?_ ?_) ?_); (· omega); (· omega)) | ((with_reducible refine And.intro ?_ ?_); (· omega)) | ((with_reducible refine st_newM ?_ ?_); (· rfl)) | ((with_reducible refine bs_oneM ?_ ?_); (· rfl)) | (with_reducible refine bd_of (by with_unfolding_all (simp only [fillL_cons, fillL_nil, nth_eq, blt_eq, cond_beq, over, Value.cells, List.getElem?_cons_zero, List.getElem?_cons_succ, List.length_cons, List.length_nil, Nat.reduceAdd, Nat.reduceSub, Nat.reduceLT, Nat.reduceEqDiff, decide_true, cond_true, Option.map_some, if_true, if_false, Nat.add_one_sub_one, Nat.succ_ne_zero, reduceCtorEq, OfNat.ofNat]; rfl)) ?_) | (with_reducible refine bda_of (by with_unfolding_all rfl) ?_) | (simp -dsimp only [↓getK_same, ↓evK_tmp, ↓opsW_d, ↓evs_nil, ↓evs_cons, ↓opW_call, onV_some', dv]))
  refine counted_ret ho hr (by omega) (hv.ext (X.mono hB)) hsl fun r h2 m2 hrn x2 => ?_
  have V2 := V.ext x2 (by omega)
  have d1 := V2.get 1 _ rfl
  have hn2 := x2.n
  repeat' (first | done | ((with_reducible refine brK_yes ?_ ?_); (· omega)) | ((with_reducible refine brK_no ?_ ?_); (· omega)) | (with_reducible refine brK_both (fun _ => ?_) (fun _ => ?_)) | ((with_reducible refine And.intro (And.intro ?_ ?_) ?_); (· omega); (· omega)) | ((with_reducible refine And.intro ?_ ?_); (· omega)) | ((with_reducible refine st_newM ?_ ?_); (· rfl)) | ((with_reducible refine bs_oneM ?_ ?_); (· rfl)) | (with_reducible refine bd_of (by with_unfolding_all (simp only [fillL_cons, fillL_nil, nth_eq, blt_eq, cond_beq, over, Value.cells, List.getElem?_cons_zero, List.getElem?_cons_succ, List.length_cons, List.length_nil, Nat.reduceAdd, Nat.reduceSub, Nat.reduceLT, Nat.reduceEqDiff, decide_true, cond_true, Option.map_some, if_true, if_false, Nat.add_one_sub_one, Nat.succ_ne_zero, reduceCtorEq, OfNat.ofNat]; rfl)) ?_) | (with_reducible refine bda_of (by with_unfolding_all rfl) ?_) | (simp -dsimp only [↓cw_ops, ↓cw_seq, ↓cw_block, ↓seqK_normal, ↓getK_same, ↓getK_ne, ↓evK_tmp, ↓evK_int, ↓opsW_nil, ↓opsW_d, ↓opW_move, ↓opW_assign, ↓ld1_some, ↓fldA_some, ↓lenS_some, ↓setAll_cons, ↓setAll_nil, ↓opW_extract, ↓ext_tuple, ↓fa_45_1, ↓ld_34, ↓len_34, ↓s13_40_w, ↓s13_41_w, ↓r13_42_w, ↓s13_43_w, ↓s13_44_w, List.getElem?_cons_zero, List.getElem?_cons_succ, onV_some', ne_eq, Nat.reduceEqDiff, Nat.reduceAdd, not_false_eq_true, Addr.add_lit, d1]))
  have X2 : ExtB h.n h h2 := X.trans (x2.mono (by omega))
  refine cw_loopI (fun n fr h' => ∃ k : Nat, k ≤ d.tasks.length ∧ n = d.tasks.length - k ∧ fr.get 16 = some (.int .i64 k) ∧ MapAt kvI h' r (Lft d k) ∧ ExtB h1.n h2 h' ∧ ∀ i (hi : i < d.tasks.length), i < k → OkW d d.tasks[i]) d.tasks.length ?_ (by omega) ?_
  · exact ⟨0, by omega, by omega, by simp [T.get_set], m2.congr (fun g => by simp [Lft]), ExtB.refl _ _, fun i _ h => by omega⟩
  rintro n fr h' ⟨k, hk, rfl, g16, m, Xh, hok⟩ hag
  have e16 := getK_of g16
  have a1 := getK_eq (hag 1 rfl)
  have a3 := getK_eq (hag 3 rfl)
  have a4 := getK_eq (hag 4 rfl)
  have a14 := getK_eq (hag 14 rfl)
  have a15 := getK_eq (hag 15 rfl)
  have X3 : ExtB h.n h h' := X2.trans (Xh.mono (by omega))
  have hv3 := hv.ext (X3.mono hB)
  by_cases hlt : k < d.tasks.length
  · obtain ⟨b0, off, hra, hb, dd⟩ := hv3.tasks k (by simpa using hlt)
    simp only [List.getElem_map, TaskD.cells] at dd
    rw [hra] at a14
    have hb' : b0 < h'.n := by have := X3.n; omega
    have hrn' := m.1
    repeat' (first | done | ((with_reducible refine brK_yes ?_ ?_); (· omega)) | ((with_reducible refine brK_no ?_ ?_); (· omega)) | (with_reducible refine brK_both (fun _ => ?_) (fun _ => ?_)) | ((with_reducible refine And.intro (And.intro ?_ ?_) ?_); (· omega); (· omega)) | ((with_reducible refine And.intro ?_ ?_); (· omega)) | ((with_reducible refine st_newM ?_ ?_); (· rfl)) | ((with_reducible refine bs_oneM ?_ ?_); (· rfl)) | (with_reducible refine bd_of (by with_unfolding_all (simp only [fillL_cons, fillL_nil, nth_eq, blt_eq, cond_beq, over, Value.cells, List.getElem?_cons_zero, List.getElem?_cons_succ, List.length_cons, List.length_nil, Nat.reduceAdd, Nat.reduceSub, Nat.reduceLT, Nat.reduceEqDiff, decide_true, cond_true, Option.map_some, if_true, if_false, Nat.add_one_sub_one, Nat.succ_ne_zero, reduceCtorEq, OfNat.ofNat]; rfl)) ?_) | (with_reducible refine bda_of (by with_unfolding_all rfl) ?_) | (simp -dsimp only [↓cw_skip, ↓cw_ops, ↓cw_seq, ↓cw_block, ↓cw_cond, ↓seqK_normal, ↓getK_same, ↓getK_ne, ↓evK_tmp, ↓condV_var, ↓opsW_nil, ↓opsW_d, ↓opsW_n, ↓opW_bin, ↓bin_lss, ↓ldN_some, ↓idxS_some, ↓ia_34, ↓ld_66, ↓al_66, ↓st_66, ↓al_71, ↓r13_31_w, ↓s13_32_w, ↓r13_33_w, ↓s13_34_w, ↓s13_35_w, ↓s13_36_w, ↓s13_37_w, ↓r13_38_w, ↓s13_39_w, newBlk_n, onV_some', brK_true, ne_eq, Nat.reduceEqDiff, not_false_eq_true, Addr.add_lit, Int.toNat_natCast, ↓e16, ↓a14, ↓a15, dd]))
    have TB : TBox (newBlk (newBlk h' (.cells d.tasks[k].cells 66 true)) (.cells [.int .i64 0, .int .i64 0, .int .i64 0] 71 true)) h'.n d.tasks[k] := .of (by simp [newBlk]; omega) (newBlk_old _ (by simp [newBlk]))
    have hbT : (newBlk (newBlk h' (.cells d.tasks[k].cells 66 true)) (.cells [.int .i64 0, .int .i64 0, .int .i64 0] 71 true)).b.get h'.n = some (.cells d.tasks[k].cells 66 true) := by rw [newBlk_old _ (by simp [newBlk]), newBlk_same]
    have X4 : ExtB h'.n h' (newBlk (newBlk h' (.cells d.tasks[k].cells 66 true)) (.cells [.int .i64 0, .int .i64 0, .int .i64 0] 71 true)) := (ExtB.new _ (Nat.le_refl _)).trans (ExtB.new _ (by simp [newBlk]))
    have hb7 : (newBlk (newBlk h' (.cells d.tasks[k].cells 66 true)) (.cells [.int .i64 0, .int .i64 0, .int .i64 0] 71 true)).b.get (h'.n + 1) = some (.cells [.int .i64 0, .int .i64 0, .int .i64 0] 71 true) := newBlk_same _ _
    have hn4 : (newBlk (newBlk h' (.cells d.tasks[k].cells 66 true)) (.cells [.int .i64 0, .int .i64 0, .int .i64 0] 71 true)).n = h'.n + 2 := rfl
    have he : Blk.cells [.int .i64 d.tasks[k].idx, .int .u64 d.tasks[k].gen, .int .i64 d.tasks[k].state, .bool d.tasks[k].susp, .int .i64 d.tasks[k].d0, .int .u64 d.tasks[k].d1, .int .i64 d.tasks[k].c0, .int .u64 d.tasks[k].c1, .int .u8 d.tasks[k].aff, .int .i64 d.tasks[k].prog, .int .i64 d.tasks[k].pc,
      .int .u64 d.tasks[k].r0, .int .u64 d.tasks[k].r1, .int .u64 d.tasks[k].r2, .int .u64 d.tasks[k].r3, .int .u64 d.tasks[k].r4, .int .u64 d.tasks[k].r5, .int .u64 d.tasks[k].r6, .int .u64 d.tasks[k].r7, .int .i64 d.tasks[k].code, .int .u64 d.tasks[k].untl] 66 true = .cells d.tasks[k].cells 66 true := rfl
    rw [he]
    generalize newBlk (newBlk h' (.cells d.tasks[k].cells 66 true)) (.cells [.int .i64 0, .int .i64 0, .int .i64 0] 71 true) = h4 at TB hbT X4 hb7 hn4 ⊢
    have t2 := TB.get 2 _ rfl
    have t0 := TB.get 0 _ rfl
    have m4 : MapAt kvI h4 r (Lft d k) := m.ext X4.n (X4.get _ hrn')
    have hlf : Lft d k d.tasks[k].idx = CMf (allQ d) (d.runs.filter (0 ≤ ·)) (d.timers.map TimerD.id) d.tasks[k].idx := by
      unfold Lft
      rw [if_neg]
      intro hm
      have hnd := ho.nodup
      rw [← List.take_append_drop k (d.tasks.map TaskD.idx), List.nodup_append] at hnd
      refine hnd.2.2 _ hm d.tasks[k].idx ?_ rfl
      rw [List.drop_eq_getElem_cons (by simpa using hlt)]
      simp
    repeat' (first | done | ((with_reducible refine brK_yes ?_ ?_); (· omega)) | ((with_reducible refine brK_no ?_ ?_); (· omega)) | (with_reducible refine brK_both (fun _ => ?_) (fun _ => ?_)) | ((with_reducible refine And.intro (And.intro ?_ ?_) ?_); (· omega); (· omega)) | ((with_reducible refine And.intro ?_ ?_); (· omega)) | ((with_reducible refine st_newM ?_ ?_); (· rfl)) | ((with_reducible refine bs_oneM ?_ ?_); (· rfl)) | (with_reducible refine bd_of (by with_unfolding_all (simp only [fillL_cons, fillL_nil, nth_eq, blt_eq, cond_beq, over, Value.cells, List.getElem?_cons_zero, List.getElem?_cons_succ, List.length_cons, List.length_nil, Nat.reduceAdd, Nat.reduceSub, Nat.reduceLT, Nat.reduceEqDiff, decide_true, cond_true, Option.map_some, if_true, if_false, Nat.add_one_sub_one, Nat.succ_ne_zero, reduceCtorEq, OfNat.ofNat]; rfl)) ?_) | (with_reducible refine bda_of (by with_unfolding_all rfl) ?_) | (simp -dsimp only [↓cw_ops, ↓cw_seq, ↓seqK_normal, ↓getK_same, ↓getK_ne, ↓evK_tmp, ↓opsW_nil, ↓opsW_d, ↓ld1_some, ↓fldA_some, ↓fa_66_1, ↓fa_64_0, ↓ld_60, ↓r13_28_w, ↓s13_29_w, ↓s13_30_w, onV_some', ne_eq, Nat.reduceEqDiff, Nat.reduceAdd, not_false_eq_true, Nat.add_zero, Addr.add_lit, t2]))
    refine want_phase (j := h'.n + 1) (st := d.tasks[k].state) (by omega) (by simp [T.get_set]) (by simp [T.get_set]) hb7 fun fr5 h5 ag5 hn5 ho5 hb5 => ?_
    have X5 : ExtB h'.n h4 h5 := ⟨by omega, fun i hi => ho5 i (by omega)⟩
    have X5' : ExtB h'.n h' h5 := X4.trans X5
    have TB5 : TBox h5 h'.n d.tasks[k] := ⟨by omega, fun o v hv => cellAt_blk (by omega) (by rw [ho5 _ (by omega)]; exact hbT) hv⟩
    have t0 := TB5.get 0 _ rfl
    have m5 : MapAt kvI h5 r (Lft d k) := m4.ext (by omega) (ho5 r (by omega))
    have d7 : cellsAt h5 ⟨h'.n + 1, 0, none⟩ 3 = some [.int .i64 (want0 d.tasks[k].state), .int .i64 (want1 d.tasks[k].state), .int .i64 (want2 d.tasks[k].state)] := cellsAt_blk (by omega) hb5 (by simp) rfl
    have b3 := getK_of ((ag5 3 (by decide)).trans (by simp [T.get_set]; exact (hag 3 rfl).trans (by simp [T.get_set]; rfl)))
    have b6 := getK_of ((ag5 6 (by decide)).trans (by simp [T.get_set]; rfl))
    have b7 := getK_of ((ag5 7 (by decide)).trans (by simp [T.get_set]; rfl))
    have b16 := getK_of ((ag5 16 (by decide)).trans (by simp [T.get_set]; exact g16))
    repeat' (first | done | ((with_reducible refine brK_yes ?_ ?_); (· omega)) | ((with_reducible refine brK_no ?_ ?_); (· omega)) | (with_reducible refine brK_both (fun _ => ?_) (fun _ => ?_)) | ((with_reducible refine And.intro (And.intro ?_ ?_) ?_); (· omega); (· omega)) | ((with_reducible refine And.intro ?_ ?_); (· omega)) | ((with_reducible refine st_newM ?_ ?_); (· rfl)) | ((with_reducible refine bs_oneM ?_ ?_); (· rfl)) | (with_reducible refine bd_of (by with_unfolding_all (simp only [fillL_cons, fillL_nil, nth_eq, blt_eq, cond_beq, over, Value.cells, List.getElem?_cons_zero, List.getElem?_cons_succ, List.length_cons, List.length_nil, Nat.reduceAdd, Nat.reduceSub, Nat.reduceLT, Nat.reduceEqDiff, decide_true, cond_true, Option.map_some, if_true, if_false, Nat.add_one_sub_one, Nat.succ_ne_zero, reduceCtorEq, OfNat.ofNat]; rfl)) ?_) | (with_reducible refine bda_of (by with_unfolding_all rfl) ?_) | (simp -dsimp only [↓cw_ops, ↓cw_seq, ↓seqK_normal, ↓getK_same, ↓getK_ne, ↓evK_tmp, ↓opsW_d, ↓opW_move, ↓ld1_some, ↓fldA_some, ↓opW_lookup, ↓fa_66_0, ↓fa_59_0, ↓ld_3, ↓r13_9_w, ↓s13_10_w, ↓s13_11_w, onV_some', ne_eq, Nat.reduceEqDiff, not_false_eq_true, Nat.add_zero, Addr.add_lit, ↓b3, ↓b6, t0]))
    refine look_map (kv := kvI) (k := d.tasks[k].idx) m5 und67 keyI zero71 ?_
    rw [hlf, CMf_get]
    simp only [stv]
    have hn5 : h'.n ≤ h5.n := X5'.n
    have hXX : ExtB h.n h h5 := X3.trans (X5'.mono (by have := X3.n; omega))
    by_cases hok1 : OkW d d.tasks[k]
    · have w0 := hok1.q
      have w1 := hok1.r
      have w2 := hok1.t
      rw [w0, w1, w2] at d7
      repeat' (first | done | ((with_reducible refine brK_yes ?_ ?_); (· omega)) | ((with_reducible refine brK_no ?_ ?_); (· omega)) | (with_reducible refine brK_both (fun _ => ?_) (fun _ => ?_)) | ((with_reducible refine And.intro (And.intro ?_ ?_) ?_); (· omega); (· omega)) | ((with_reducible refine And.intro ?_ ?_); (· omega)) | ((with_reducible refine st_newM ?_ ?_); (· rfl)) | ((with_reducible refine bs_oneM ?_ ?_); (· rfl)) | (with_reducible refine bd_of (by with_unfolding_all (simp only [fillL_cons, fillL_nil, nth_eq, blt_eq, cond_beq, over, Value.cells, List.getElem?_cons_zero, List.getElem?_cons_succ, List.length_cons, List.length_nil, Nat.reduceAdd, Nat.reduceSub, Nat.reduceLT, Nat.reduceEqDiff, decide_true, cond_true, Option.map_some, if_true, if_false, Nat.add_one_sub_one, Nat.succ_ne_zero, reduceCtorEq, OfNat.ofNat]; rfl)) ?_) | (with_reducible refine bda_of (by with_unfolding_all rfl) ?_) | (simp -dsimp only [↓cw_skip, ↓cw_ops, ↓cw_cond, ↓seqK_normal, ↓getK_same, ↓getK_ne, ↓evK_tmp, ↓condV_var, ↓opsW_nil, ↓opsW_d, ↓opsW_n, ↓opW_move, ↓opW_bin, ↓ld1_some, ↓ldN_some, ↓fldA_some, ↓opW_delete, ↓fa_66_0, ↓fa_59_0, ↓ld_3, ↓ld_71, ↓neqA_71, ↓r13_4_w, ↓s13_5_w, ↓s13_8_w, onV_some', brK_true, brK_false, and_true, ne_eq, Nat.reduceEqDiff, not_false_eq_true, Nat.add_zero, Addr.add_lit, Bool.false_eq_true,  ↓b3, ↓b6, ↓b7, t0, d7]))
      refine del_map (kv := kvI) (k := d.tasks[k].idx) m5 und67 keyI fun bb m6 => ?_
      have X6 : ExtB r h5 { h5 with b := h5.b.set r bb } := ExtB.set _ (Nat.le_refl _)
      repeat' (first | done | ((with_reducible refine brK_yes ?_ ?_); (· omega)) | ((with_reducible refine brK_no ?_ ?_); (· omega)) | (with_reducible refine brK_both (fun _ => ?_) (fun _ => ?_)) | ((with_reducible refine And.intro (And.intro ?_ ?_) ?_); (· omega); (· omega)) | ((with_reducible refine And.intro ?_ ?_); (· omega)) | ((with_reducible refine st_newM ?_ ?_); (· rfl)) | ((with_reducible refine bs_oneM ?_ ?_); (· rfl)) | (with_reducible refine bd_of (by with_unfolding_all (simp only [fillL_cons, fillL_nil, nth_eq, blt_eq, cond_beq, over, Value.cells, List.getElem?_cons_zero, List.getElem?_cons_succ, List.length_cons, List.length_nil, Nat.reduceAdd, Nat.reduceSub, Nat.reduceLT, Nat.reduceEqDiff, decide_true, cond_true, Option.map_some, if_true, if_false, Nat.add_one_sub_one, Nat.succ_ne_zero, reduceCtorEq, OfNat.ofNat]; rfl)) ?_) | (with_reducible refine bda_of (by with_unfolding_all rfl) ?_) | (simp -dsimp only [↓cw_ops, ↓seqK_normal, ↓blockK_normal, ↓loopK_normal, ↓getK_same, ↓getK_ne, ↓evK_tmp, ↓evK_int, ↓opsW_nil, ↓opsW_d, ↓opW_move, ↓opW_bin, ↓bin_add, ↓r13_2_w, ↓s13_3_w, ne_eq, Nat.reduceEqDiff, not_false_eq_true, Nat.add_zero, Addr.add_lit, ↓b16]))
      have hn3 := X3.n
      have hnh := Xh.n
      refine ⟨d.tasks.length - (k + 1), by omega, k + 1, by omega, rfl, by simp [T.get_set, wrap_succ (show k ≤ 4611686018427387904 by omega)], m6.congr (fun g => ?_), (Xh.trans (X5'.mono (by omega))).trans (X6.mono (by omega)), fun i hi hik => ?_⟩
      · simp only [Lft]
        rw [List.take_succ_eq_append_getElem (by simpa using hlt)]
        simp only [List.getElem_map, List.mem_append, List.mem_singleton]
        by_cases hg : g = d.tasks[k].idx
        · rw [if_pos hg, if_pos (Or.inr hg)]
        · rw [if_neg hg]; simp only [hg, or_false]
      · by_cases hi' : i < k
        · exact hok i hi hi'
        · have : i = k := by omega
          subst this; exact hok1
    · repeat' (first | done | ((with_reducible refine brK_yes ?_ ?_); (· omega)) | ((with_reducible refine brK_no ?_ ?_); (· omega)) | (with_reducible refine brK_both (fun _ => ?_) (fun _ => ?_)) | ((with_reducible refine And.intro (And.intro ?_ ?_) ?_); (· omega); (· omega)) | ((with_reducible refine And.intro ?_ ?_); (· omega)) | ((with_reducible refine st_newM ?_ ?_); (· rfl)) | ((with_reducible refine bs_oneM ?_ ?_); (· rfl)) | (with_reducible refine bd_of (by with_unfolding_all (simp only [fillL_cons, fillL_nil, nth_eq, blt_eq, cond_beq, over, Value.cells, List.getElem?_cons_zero, List.getElem?_cons_succ, List.length_cons, List.length_nil, Nat.reduceAdd, Nat.reduceSub, Nat.reduceLT, Nat.reduceEqDiff, decide_true, cond_true, Option.map_some, if_true, if_false, Nat.add_one_sub_one, Nat.succ_ne_zero, reduceCtorEq, OfNat.ofNat]; rfl)) ?_) | (with_reducible refine bda_of (by with_unfolding_all rfl) ?_) | (simp -dsimp only [↓cw_skip, ↓cw_ops, ↓cw_seq, ↓cw_ret, ↓cw_cond, ↓seqK_normal, ↓seqK_ret, ↓blockK_ret, ↓loopK_ret, ↓getK_same, ↓getK_ne, ↓evK_tmp, ↓evK_bool, ↓condV_var, ↓opsW_nil, ↓opsW_d, ↓opsW_n, ↓opW_move, ↓opW_assign, ↓opW_bin, ↓ld1_some, ↓ldN_some, ↓fldA_some, ↓resK_one, ↓opW_delete, ↓fa_66_0, ↓fa_59_0, ↓ld_3, ↓ld_71, ↓neqA_71, ↓r13_4_w, ↓s13_5_w, ↓r13_6_w, ↓s13_7_w, ↓s13_8_w, onV_some', brK_true, brK_false, and_true, ne_eq, Nat.reduceEqDiff, not_false_eq_true, Nat.add_zero, Addr.add_lit, Bool.false_eq_true,  ↓b3, ↓b6, ↓b7, t0, d7]))
      · rename_i he
        exact absurd ⟨he.1.symm, he.2.1.symm, he.2.2.symm⟩ hok1
      · exact hK false h5 ⟨fun e => (by cases e), fun hs => absurd (hs.ok _ (List.getElem_mem hlt)) hok1⟩ hXX
  · have e : k = d.tasks.length := by omega
    subst e
    cases hf : fineAll d with
    | false =>
      rw [hf] at a4
      repeat' (first | done | ((with_reducible refine brK_yes ?_ ?_); (· omega)) | ((with_reducible refine brK_no ?_ ?_); (· omega)) | (with_reducible refine brK_both (fun _ => ?_) (fun _ => ?_)) | ((with_reducible refine And.intro (And.intro ?_ ?_) ?_); (· omega); (· omega)) | ((with_reducible refine And.intro ?_ ?_); (· omega)) | ((with_reducible refine st_newM ?_ ?_); (· rfl)) | ((with_reducible refine bs_oneM ?_ ?_); (· rfl)) | (with_reducible refine bd_of (by with_unfolding_all (simp only [fillL_cons, fillL_nil, nth_eq, blt_eq, cond_beq, over, Value.cells, List.getElem?_cons_zero, List.getElem?_cons_succ, List.length_cons, List.length_nil, Nat.reduceAdd, Nat.reduceSub, Nat.reduceLT, Nat.reduceEqDiff, decide_true, cond_true, Option.map_some, if_true, if_false, Nat.add_one_sub_one, Nat.succ_ne_zero, reduceCtorEq, OfNat.ofNat]; rfl)) ?_) | (with_reducible refine bda_of (by with_unfolding_all rfl) ?_) | (simp -dsimp only [↓cw_ops, ↓cw_seq, ↓cw_exit, ↓cw_ret, ↓cw_cond, ↓seqK_normal, ↓seqK_exit, ↓blockK_same, ↓loopK_exit, ↓getK_same, ↓getK_ne, ↓evK_tmp, ↓evK_bool, ↓condV_var, ↓gdV_var, ↓opsW_nil, ↓opsW_d, ↓opsW_gd, ↓opW_move, ↓opW_assign, ↓opW_pick, ↓opW_bin, ↓bin_lss, ↓resK_one, ↓r13_0_w, ↓s13_1_w, ↓s13_36_w, ↓s13_37_w, ↓r13_38_w, ↓s13_39_w, brK_false, ne_eq, Nat.reduceEqDiff, not_false_eq_true, Bool.false_eq_true,  ↓e16, ↓a4, ↓a15]))
      exact hK false h' ⟨fun e => (by cases e), fun hs => absurd (hf.symm.trans hs.fine) (by simp)⟩ X3
    | true =>
      rw [hf] at a4
      repeat' (first | done | ((with_reducible refine brK_yes ?_ ?_); (· omega)) | ((with_reducible refine brK_no ?_ ?_); (· omega)) | (with_reducible refine brK_both (fun _ => ?_) (fun _ => ?_)) | ((with_reducible refine And.intro (And.intro ?_ ?_) ?_); (· omega); (· omega)) | ((with_reducible refine And.intro ?_ ?_); (· omega)) | ((with_reducible refine st_newM ?_ ?_); (· rfl)) | ((with_reducible refine bs_oneM ?_ ?_); (· rfl)) | (with_reducible refine bd_of (by with_unfolding_all (simp only [fillL_cons, fillL_nil, nth_eq, blt_eq, cond_beq, over, Value.cells, List.getElem?_cons_zero, List.getElem?_cons_succ, List.length_cons, List.length_nil, Nat.reduceAdd, Nat.reduceSub, Nat.reduceLT, Nat.reduceEqDiff, decide_true, cond_true, Option.map_some, if_true, if_false, Nat.add_one_sub_one, Nat.succ_ne_zero, reduceCtorEq, OfNat.ofNat]; rfl)) ?_) | (with_reducible refine bda_of (by with_unfolding_all rfl) ?_) | (simp -dsimp only [↓cw_ops, ↓cw_seq, ↓cw_exit, ↓cw_cond, ↓seqK_normal, ↓seqK_exit, ↓blockK_same, ↓loopK_exit, ↓getK_same, ↓getK_ne, ↓evK_tmp, ↓condV_var, ↓gdV_var, ↓opsW_nil, ↓opsW_d, ↓opsW_gd, ↓opW_move, ↓opW_bin, ↓bin_lss, ↓lenm_67, ↓r13_0_w, ↓s13_1_w, ↓s13_36_w, ↓s13_37_w, ↓r13_38_w, ↓s13_39_w, brK_true, brK_false, ne_eq, Nat.reduceEqDiff, not_false_eq_true, Bool.false_eq_true,  ↓e16, ↓a3, ↓a4, ↓a15]))
      refine len_map (kv := kvI) m und67 fun n hn => ?_
      have hall : (∀ g, Lft d d.tasks.length g = none) ↔ ∀ g, AnyIn d g → g ∈ d.tasks.map TaskD.idx := by
        constructor
        · intro hh g hg
          have := hh g
          unfold Lft at this
          rw [List.take_of_length_le (by simp)] at this
          by_cases hm : g ∈ d.tasks.map TaskD.idx
          · exact hm
          · rw [if_neg hm] at this
            unfold CMf at this
            rw [if_pos (show g ∈ allQ d ∨ _ from hg)] at this
            cases this
        · intro hh g
          unfold Lft
          rw [List.take_of_length_le (by simp)]
          by_cases hm : g ∈ d.tasks.map TaskD.idx
          · rw [if_pos hm]
          · rw [if_neg hm]
            unfold CMf
            exact if_neg (fun hg => hm (hh g hg))
      have hoks : ∀ x ∈ d.tasks, OkW d x := fun x hx => by
        obtain ⟨i, hi, rfl⟩ := List.getElem_of_mem hx
        exact hok i hi hi
      rw [hall] at hn
      repeat' (first | done | ((with_reducible refine brK_yes ?_ ?_); (· omega)) | ((with_reducible refine brK_no ?_ ?_); (· omega)) | (with_reducible refine brK_both (fun _ => ?_) (fun _ => ?_)) | ((with_reducible refine And.intro (And.intro ?_ ?_) ?_); (· omega); (· omega)) | ((with_reducible refine And.intro ?_ ?_); (· omega)) | ((with_reducible refine st_newM ?_ ?_); (· rfl)) | ((with_reducible refine bs_oneM ?_ ?_); (· rfl)) | (with_reducible refine bd_of (by with_unfolding_all (simp only [fillL_cons, fillL_nil, nth_eq, blt_eq, cond_beq, over, Value.cells, List.getElem?_cons_zero, List.getElem?_cons_succ, List.length_cons, List.length_nil, Nat.reduceAdd, Nat.reduceSub, Nat.reduceLT, Nat.reduceEqDiff, decide_true, cond_true, Option.map_some, if_true, if_false, Nat.add_one_sub_one, Nat.succ_ne_zero, reduceCtorEq, OfNat.ofNat]; rfl)) ?_) | (with_reducible refine bda_of (by with_unfolding_all rfl) ?_) | (simp -dsimp only [↓cw_ret, ↓seqK_normal, ↓getK_same, ↓getK_ne, ↓evK_tmp, ↓evK_int, ↓condV_var, ↓gdV_var, ↓opsW_nil, ↓opsW_d, ↓opsW_gd, ↓opW_assign, ↓opW_pick, ↓opW_bin, ↓bin_eql, ↓resK_one, brK_true, ne_eq, Nat.reduceEqDiff, not_false_eq_true]))
      · exact hK true h' ⟨fun _ => ⟨hoks, hf, hn.1 (by omega)⟩, fun _ => rfl⟩ X3
      · exact hK false h' ⟨fun e => (by cases e), fun hs => absurd (hn.2 hs.all) (by omega)⟩ X3
end Go.Proofs.Ytdjnedamphifcaa
