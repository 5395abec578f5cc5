/- The reference's Lines; the law. Conditions: each theorem's own. -/
import Derived.Test.YtjcmcoabckkjoaaDoorLV
set_option linter.unusedSimpArgs false
set_option linter.unusedVariables false
namespace Go.Proofs.YtjcmcoabckkjoaaDoor.Li
open Go.Ev
set_option maxRecDepth 100000
set_option maxHeartbeats 400000
theorem refLines_ret {a : Option Addr} {c : Nat} {l : List HadR} {h : Heap} {K : Value → Heap → Prop} (ra : RowAt h.n h a 7 (l.map HadR.cells)) (ok : ∀ x ∈ l, x.OK) (hl : l.length ≤ 40)
    (hK : ∀ a' c' h', RowS h' a' (linesL l) → ExtB h.n h h' → K (.slice a' (linesL l).length c') h') : Ret env (.func 33) [.slice a l.length c] h K := by
  refine F33 rfl ?_
  repeat' (first | done | ((with_reducible refine brK_yes ?_ ?_); (· omega)) | ((with_reducible refine brK_no ?_ ?_); (· omega)) | (with_reducible refine brK_both (fun _ => ?_) (fun _ => ?_)) | ((with_reducible refine And.intro (And.intro ?_ ?_) ?_); (· omega); (· omega)) | ((with_reducible refine And.intro ?_ ?_); (· omega)) | (with_reducible refine And.intro (show List.all _ oneCell = true from rfl) ?_) | ((with_reducible refine st_newM ?_ ?_); (· rfl)) | ((with_reducible refine bs_oneM ?_ ?_); (· rfl)) | (with_reducible refine bd_of (by with_unfolding_all (simp only [fillL_cons, fillL_nil, nth_eq, blt_eq, cond_beq, over, Value.cells, List.getElem?_cons_zero, List.getElem?_cons_succ, List.length_cons, List.length_nil, Nat.reduceAdd, Nat.reduceSub, Nat.reduceLT, Nat.reduceEqDiff, decide_true, cond_true, Option.map_some, if_true, if_false, Nat.add_one_sub_one, Nat.succ_ne_zero, reduceCtorEq, OfNat.ofNat]; rfl)) ?_) | (with_reducible refine bda_of (by with_unfolding_all rfl) ?_) | (simp -dsimp only [↓cw_ops, ↓cw_seq, ↓cw_block, ↓seqK_normal, ↓evK_int, ↓evK_nilslice, ↓opsW_nil, ↓opsW_d, ↓opW_assign, ↓setAll_cons, ↓setAll_nil, ↓s33_15_w, ↓s33_16_w, ↓r33_17_w, ↓s33_18_w, ↓s33_19_w, ↓r33_20_w, ↓s33_21_w, ↓r33_22_w, ↓s33_23_w, ↓r33_24_w, ↓s33_25_w]))
  refine cw_loopI (fun n fr h' => ∃ k : Nat, k ≤ l.length ∧ n = l.length - k ∧ fr.get 5 = some (.int .i64 k) ∧ ExtB h.n h h' ∧ ∃ v w, fr.get 3 = some v ∧ fr.get 4 = some w ∧ RowG h.n h' 9 v k ((l.take k).map fun x => strV (lineL x)) ∧ RowG h.n h' 27 w k ((l.take k).map HadR.v)) l.length ?_ (by omega) ?_
  · exact ⟨0, by omega, by omega, by simp [T.get_set], ExtB.refl _ _, .slice none 0 0, .slice none 0 0, by simp [T.get_set], by simp [T.get_set], .inl ⟨rfl, rfl, rfl⟩, .inl ⟨rfl, rfl, rfl⟩⟩
  rintro n fr h' ⟨k, hk, rfl, g5, X, v, w, g3, g4, r2, r3⟩ hag
  have g5 := getK_of g5
  have g3 := getK_of g3
  have g4 := getK_of g4
  have a0 := getK_eq (hag 0 rfl)
  have hn := X.n
  by_cases hlt : k < l.length
  · obtain ⟨b1, o1, rfl, hb1, d1⟩ := (ra.ext X) k (by simpa using hlt)
    rw [List.getElem_map] at d1
    have o := ok _ (List.getElem_mem hlt)
    have e2 : ∀ {β : Type} (f : HadR → β), (l.take (k + 1)).map f = (l.take k).map f ++ [f l[k]] := fun f => by rw [List.take_succ_eq_append_getElem hlt, List.map_append]; rfl
    generalize l[k] = x at d1 o e2
    unfold HadR.cells at d1
    repeat' (first | done | ((with_reducible refine brK_yes ?_ ?_); (· omega)) | ((with_reducible refine brK_no ?_ ?_); (· omega)) | (with_reducible refine brK_both (fun _ => ?_) (fun _ => ?_)) | ((with_reducible refine And.intro (And.intro ?_ ?_) ?_); (· omega); (· omega)) | ((with_reducible refine And.intro ?_ ?_); (· omega)) | (with_reducible refine And.intro (show List.all _ oneCell = true from rfl) ?_) | ((with_reducible refine st_newM ?_ ?_); (· rfl)) | ((with_reducible refine bs_oneM ?_ ?_); (· rfl)) | (with_reducible refine bd_of (by with_unfolding_all (simp only [fillL_cons, fillL_nil, nth_eq, blt_eq, cond_beq, over, Value.cells, List.getElem?_cons_zero, List.getElem?_cons_succ, List.length_cons, List.length_nil, Nat.reduceAdd, Nat.reduceSub, Nat.reduceLT, Nat.reduceEqDiff, decide_true, cond_true, Option.map_some, if_true, if_false, Nat.add_one_sub_one, Nat.succ_ne_zero, reduceCtorEq, OfNat.ofNat]; rfl)) ?_) | (with_reducible refine bda_of (by with_unfolding_all rfl) ?_) | (simp -dsimp only [↓cw_skip, ↓cw_ops, ↓cw_seq, ↓cw_block, ↓cw_cond, ↓seqK_normal, ↓getK_same, ↓getK_ne, ↓evK_tmp, ↓condV_var, ↓opsW_nil, ↓opsW_d, ↓opsW_n, ↓opW_move, ↓opW_bin, ↓bin_lss, ↓ldN_some, ↓idxS_some, ↓lenS_some, ↓len_40, ↓ia_40, ↓ld_44, ↓al_44, ↓st_44, ↓r33_8_w, ↓s33_9_w, ↓s33_10_w, ↓s33_11_w, ↓r33_12_w, ↓s33_13_w, ↓s33_14_w, onV_some', brK_true, ne_eq, Nat.reduceEqDiff, not_false_eq_true, Addr.add_lit, Int.toNat_natCast, ↓g5, ↓a0, d1]))
    have oc : oneCell x.v = true := by obtain ⟨n, _, e⟩ := o.v; rw [e]; rfl
    refine st_newM (had_one x oc) ?_
    repeat' (first | done | ((with_reducible refine brK_yes ?_ ?_); (· omega)) | ((with_reducible refine brK_no ?_ ?_); (· omega)) | (with_reducible refine brK_both (fun _ => ?_) (fun _ => ?_)) | ((with_reducible refine And.intro (And.intro ?_ ?_) ?_); (· omega); (· omega)) | ((with_reducible refine And.intro ?_ ?_); (· omega)) | (with_reducible refine And.intro (show List.all _ oneCell = true from rfl) ?_) | ((with_reducible refine st_newM ?_ ?_); (· rfl)) | ((with_reducible refine bs_oneM ?_ ?_); (· rfl)) | (with_reducible refine bd_of (by with_unfolding_all (simp only [fillL_cons, fillL_nil, nth_eq, blt_eq, cond_beq, over, Value.cells, List.getElem?_cons_zero, List.getElem?_cons_succ, List.length_cons, List.length_nil, Nat.reduceAdd, Nat.reduceSub, Nat.reduceLT, Nat.reduceEqDiff, decide_true, cond_true, Option.map_some, if_true, if_false, Nat.add_one_sub_one, Nat.succ_ne_zero, reduceCtorEq, OfNat.ofNat]; rfl)) ?_) | (with_reducible refine bda_of (by with_unfolding_all rfl) ?_) | (simp -dsimp only [↓cw_ops, ↓cw_seq, ↓seqK_normal, ↓getK_same, ↓getK_ne, ↓evK_tmp, ↓opsW_nil, ↓opsW_d, ↓opW_move, ↓ld1_some, ↓fldA_some, ↓evp_nil, ↓evp_cons, ↓fa_44_5, ↓ld_27, ↓bsl_25_1, ↓ap_25_25, ↓r33_6_w, ↓s33_7_w, cellAt_newE, newBlk_n, List.getElem?_cons_zero, List.getElem?_cons_succ, onV_some', ne_eq, Nat.reduceEqDiff, Nat.reduceAdd, not_false_eq_true, Addr.add_lit, ↓g4, bs_F, o.fb.isF]))
    have hb : (newBlk h' (.cells x.cells 44 true)).b.get h'.n = some (.cells x.cells 44 true) := newBlk_same _ _
    have X0 : ExtB h'.n h' (newBlk h' (.cells x.cells 44 true)) := ExtB.new _ (Nat.le_refl _)
    have n0 : (newBlk h' (.cells x.cells 44 true)).n = h'.n + 1 := rfl
    have r2 := r2.ext X0
    have r3 := r3.ext X0
    have hlen : ∀ {β : Type} (f : HadR → β), ((l.take k).map f).length = k * 1 := fun f => by rw [List.length_map, List.length_take]; omega
    change appK 27 1 w _ (newBlk (newBlk h' (.cells x.cells 44 true)) _) _
    generalize newBlk h' (.cells x.cells 44 true) = h1 at hb X0 n0 r2 r3 ⊢
    have XB := X.trans (X0.mono hn)
    refine app_row (new := [x.v]) r3 (by omega) (hlen _) (by omega) rfl (by simp only [List.all_cons, List.all_nil, oc, Bool.and_self]) (by decide) (by rw [← n0]) fun w2 h2 q3 X2 k2 n2 => ?_
    have hb2 := (k2 h'.n _ _ _ (by omega) hb (.inl (by decide))).trans hb
    have q2 := r2.keep X2.n fun j _ hj hg => k2 j _ _ _ hj hg (.inl (by decide))
    rw [← e2 HadR.v] at q3
    have XC := XB.trans X2
    obtain ⟨p0, p1, p2, p3, p4, p5, p6⟩ := had_cells (show h'.n < h2.n by omega) hb2
    have l1 := Lib.itoa_length_le x.i o.i.1 o.i.2
    have l2 := Lib.itoa_length_le x.s o.s.1 o.s.2
    have l3 := Lib.itoa_length_le x.c o.c.1 o.c.2
    have l4 := Lib.itoa_length_le x.r o.r.1 o.r.2
    have l5 := Lib.itoa_length_le x.t o.t.1 o.t.2
    have og := o.g
    have l6 := dec_le (u := x.g.toNat) (by omega)
    have l7 := textL_len o.fb
    have sF := same_fl o.v
    have ug : Value.int IntKind.u64 x.g = .int .u64 (x.g.toNat : Int) := by rw [Int.toNat_of_nonneg og.1]
    repeat' (first | done | ((with_reducible refine brK_yes ?_ ?_); (· omega)) | ((with_reducible refine brK_no ?_ ?_); (· omega)) | (with_reducible refine brK_both (fun _ => ?_) (fun _ => ?_)) | ((with_reducible refine And.intro (And.intro ?_ ?_) ?_); (· omega); (· omega)) | ((with_reducible refine And.intro ?_ ?_); (· omega)) | (with_reducible refine And.intro (show List.all _ oneCell = true from rfl) ?_) | ((with_reducible refine st_newM ?_ ?_); (· rfl)) | ((with_reducible refine bs_oneM ?_ ?_); (· rfl)) | (with_reducible refine bd_of (by with_unfolding_all (simp only [fillL_cons, fillL_nil, nth_eq, blt_eq, cond_beq, over, Value.cells, List.getElem?_cons_zero, List.getElem?_cons_succ, List.length_cons, List.length_nil, Nat.reduceAdd, Nat.reduceSub, Nat.reduceLT, Nat.reduceEqDiff, decide_true, cond_true, Option.map_some, if_true, if_false, Nat.add_one_sub_one, Nat.succ_ne_zero, reduceCtorEq, OfNat.ofNat]; rfl)) ?_) | (with_reducible refine bda_of (by with_unfolding_all rfl) ?_) | (simp -dsimp only [↓cw_plan, ↓seqK_normal, ↓getK_same, ↓getK_ne, ↓evK_tmp, ↓opsW_nil, ↓opsW_d, ↓planW_d, ↓agK_nil, ↓opW_move, ↓opW_assign, ↓ld1_some, ↓fldA_some, ↓evs_nil, ↓evs_cons, ↓opW_call, ↓fa_44_0, ↓fa_42_0, ↓ld_3, ↓fa_44_1, ↓fa_44_2, ↓fa_44_3, ↓fa_44_4, ↓ld_23, ↓fa_44_5, ↓ld_27, ↓fa_42_1, ↓p33_4_w, ↓s33_5_w, onV_some', Nat.le_refl, true_and, ne_eq, Nat.reduceEqDiff, Nat.reduceAdd, not_false_eq_true, Nat.add_zero, Addr.add_lit, ↓g3, p0, p1, p2, p3, p4, p5, p6]))
    refine num_ret o.i.1 o.i.2 fun h3 X3 => ?_
    unfold strV
    have n3 := X3.n
    have q2 := q2.ext X3
    have q3 := q3.ext X3
    have hb3 := (X3.get h'.n (by omega)).trans hb2
    have XC := XC.trans (X3.mono (by omega))
    obtain ⟨p0, p1, p2, p3, p4, p5, p6⟩ := had_cells (show h'.n < h3.n by omega) hb3
    repeat' (first | done | ((with_reducible refine brK_yes ?_ ?_); (· omega)) | ((with_reducible refine brK_no ?_ ?_); (· omega)) | (with_reducible refine brK_both (fun _ => ?_) (fun _ => ?_)) | ((with_reducible refine And.intro (And.intro ?_ ?_) ?_); (· omega); (· omega)) | ((with_reducible refine And.intro ?_ ?_); (· omega)) | (with_reducible refine And.intro (show List.all _ oneCell = true from rfl) ?_) | ((with_reducible refine st_newM ?_ ?_); (· rfl)) | ((with_reducible refine bs_oneM ?_ ?_); (· rfl)) | (with_reducible refine bd_of (by with_unfolding_all (simp only [fillL_cons, fillL_nil, nth_eq, blt_eq, cond_beq, over, Value.cells, List.getElem?_cons_zero, List.getElem?_cons_succ, List.length_cons, List.length_nil, Nat.reduceAdd, Nat.reduceSub, Nat.reduceLT, Nat.reduceEqDiff, decide_true, cond_true, Option.map_some, if_true, if_false, Nat.add_one_sub_one, Nat.succ_ne_zero, reduceCtorEq, OfNat.ofNat]; rfl)) ?_) | (with_reducible refine bda_of (by with_unfolding_all rfl) ?_) | (simp -dsimp only [↓getK_same, ↓getK_ne, ↓evK_tmp, ↓evK_string, ↓planW_d, ↓agK_nil, ↓opW_bin, ↓ld1_some, ↓evs_nil, ↓evs_cons, ↓opW_call, ↓agK_load, ↓agV_same, ↓agV_ne, ↓agl_23, ↓agl_3, ↓agl_27, List.length_cons, List.length_nil, onV_some', Nat.le_refl, true_and, and_true, ne_eq, Nat.reduceEqDiff, Nat.reduceAdd, not_false_eq_true, Nat.add_zero, Addr.add_lit, p1, p2, p3, p4, p5, p6, bin_addS, str_size, same_int, sF]))
    rw [ug]
    refine big_ret _ (Nat.le_refl _) (by omega) fun h4 X4 => ?_
    unfold strV
    have n4 := X4.n
    have q2 := q2.ext X4
    have q3 := q3.ext X4
    have hb4 := (X4.get h'.n (by omega)).trans hb3
    have XC := XC.trans (X4.mono (by omega))
    obtain ⟨p0, p1, p2, p3, p4, p5, p6⟩ := had_cells (show h'.n < h4.n by omega) hb4
    repeat' (first | done | ((with_reducible refine brK_yes ?_ ?_); (· omega)) | ((with_reducible refine brK_no ?_ ?_); (· omega)) | (with_reducible refine brK_both (fun _ => ?_) (fun _ => ?_)) | ((with_reducible refine And.intro (And.intro ?_ ?_) ?_); (· omega); (· omega)) | ((with_reducible refine And.intro ?_ ?_); (· omega)) | (with_reducible refine And.intro (show List.all _ oneCell = true from rfl) ?_) | ((with_reducible refine st_newM ?_ ?_); (· rfl)) | ((with_reducible refine bs_oneM ?_ ?_); (· rfl)) | (with_reducible refine bd_of (by with_unfolding_all (simp only [fillL_cons, fillL_nil, nth_eq, blt_eq, cond_beq, over, Value.cells, List.getElem?_cons_zero, List.getElem?_cons_succ, List.length_cons, List.length_nil, Nat.reduceAdd, Nat.reduceSub, Nat.reduceLT, Nat.reduceEqDiff, decide_true, cond_true, Option.map_some, if_true, if_false, Nat.add_one_sub_one, Nat.succ_ne_zero, reduceCtorEq, OfNat.ofNat]; rfl)) ?_) | (with_reducible refine bda_of (by with_unfolding_all rfl) ?_) | (simp -dsimp only [↓getK_same, ↓getK_ne, ↓evK_tmp, ↓evK_string, ↓planW_d, ↓agK_nil, ↓opW_bin, ↓ld1_some, ↓evs_nil, ↓evs_cons, ↓opW_call, ↓agK_load, ↓agV_same, ↓agV_ne, ↓agl_3, ↓agl_27, List.length_cons, List.length_nil, onV_some', Nat.le_refl, true_and, and_true, ne_eq, Nat.reduceEqDiff, Nat.reduceAdd, not_false_eq_true, Addr.add_lit, p2, p3, p4, p5, p6, bin_addS, app_str, str_size, List.length_append, same_int, sF]))
    refine num_ret o.s.1 o.s.2 fun h5 X5 => ?_
    unfold strV
    have n5 := X5.n
    have q2 := q2.ext X5
    have q3 := q3.ext X5
    have hb5 := (X5.get h'.n (by omega)).trans hb4
    have XC := XC.trans (X5.mono (by omega))
    obtain ⟨p0, p1, p2, p3, p4, p5, p6⟩ := had_cells (show h'.n < h5.n by omega) hb5
    repeat' (first | done | ((with_reducible refine brK_yes ?_ ?_); (· omega)) | ((with_reducible refine brK_no ?_ ?_); (· omega)) | (with_reducible refine brK_both (fun _ => ?_) (fun _ => ?_)) | ((with_reducible refine And.intro (And.intro ?_ ?_) ?_); (· omega); (· omega)) | ((with_reducible refine And.intro ?_ ?_); (· omega)) | (with_reducible refine And.intro (show List.all _ oneCell = true from rfl) ?_) | ((with_reducible refine st_newM ?_ ?_); (· rfl)) | ((with_reducible refine bs_oneM ?_ ?_); (· rfl)) | (with_reducible refine bd_of (by with_unfolding_all (simp only [fillL_cons, fillL_nil, nth_eq, blt_eq, cond_beq, over, Value.cells, List.getElem?_cons_zero, List.getElem?_cons_succ, List.length_cons, List.length_nil, Nat.reduceAdd, Nat.reduceSub, Nat.reduceLT, Nat.reduceEqDiff, decide_true, cond_true, Option.map_some, if_true, if_false, Nat.add_one_sub_one, Nat.succ_ne_zero, reduceCtorEq, OfNat.ofNat]; rfl)) ?_) | (with_reducible refine bda_of (by with_unfolding_all rfl) ?_) | (simp -dsimp only [↓getK_same, ↓getK_ne, ↓evK_tmp, ↓evK_string, ↓planW_d, ↓agK_nil, ↓opW_bin, ↓ld1_some, ↓evs_nil, ↓evs_cons, ↓opW_call, ↓agK_load, ↓agV_same, ↓agV_ne, ↓agl_3, ↓agl_27, List.length_cons, List.length_nil, onV_some', Nat.le_refl, true_and, and_true, ne_eq, Nat.reduceEqDiff, Nat.reduceAdd, not_false_eq_true, Addr.add_lit, p3, p4, p5, p6, bin_addS, app_str, str_size, List.length_append, same_int, sF]))
    refine num_ret o.c.1 o.c.2 fun h6 X6 => ?_
    unfold strV
    have n6 := X6.n
    have q2 := q2.ext X6
    have q3 := q3.ext X6
    have hb6 := (X6.get h'.n (by omega)).trans hb5
    have XC := XC.trans (X6.mono (by omega))
    obtain ⟨p0, p1, p2, p3, p4, p5, p6⟩ := had_cells (show h'.n < h6.n by omega) hb6
    repeat' (first | done | ((with_reducible refine brK_yes ?_ ?_); (· omega)) | ((with_reducible refine brK_no ?_ ?_); (· omega)) | (with_reducible refine brK_both (fun _ => ?_) (fun _ => ?_)) | ((with_reducible refine And.intro (And.intro ?_ ?_) ?_); (· omega); (· omega)) | ((with_reducible refine And.intro ?_ ?_); (· omega)) | (with_reducible refine And.intro (show List.all _ oneCell = true from rfl) ?_) | ((with_reducible refine st_newM ?_ ?_); (· rfl)) | ((with_reducible refine bs_oneM ?_ ?_); (· rfl)) | (with_reducible refine bd_of (by with_unfolding_all (simp only [fillL_cons, fillL_nil, nth_eq, blt_eq, cond_beq, over, Value.cells, List.getElem?_cons_zero, List.getElem?_cons_succ, List.length_cons, List.length_nil, Nat.reduceAdd, Nat.reduceSub, Nat.reduceLT, Nat.reduceEqDiff, decide_true, cond_true, Option.map_some, if_true, if_false, Nat.add_one_sub_one, Nat.succ_ne_zero, reduceCtorEq, OfNat.ofNat]; rfl)) ?_) | (with_reducible refine bda_of (by with_unfolding_all rfl) ?_) | (simp -dsimp only [↓getK_same, ↓getK_ne, ↓evK_tmp, ↓evK_string, ↓planW_d, ↓agK_nil, ↓opW_bin, ↓ld1_some, ↓evs_nil, ↓evs_cons, ↓opW_call, ↓agK_load, ↓agV_same, ↓agV_ne, ↓agl_3, ↓agl_27, List.length_cons, List.length_nil, onV_some', Nat.le_refl, true_and, and_true, ne_eq, Nat.reduceEqDiff, Nat.reduceAdd, not_false_eq_true, Addr.add_lit, p4, p5, p6, bin_addS, app_str, str_size, List.length_append, same_int, sF]))
    refine num_ret o.r.1 o.r.2 fun h7 X7 => ?_
    unfold strV
    have n7 := X7.n
    have q2 := q2.ext X7
    have q3 := q3.ext X7
    have hb7 := (X7.get h'.n (by omega)).trans hb6
    have XC := XC.trans (X7.mono (by omega))
    obtain ⟨p0, p1, p2, p3, p4, p5, p6⟩ := had_cells (show h'.n < h7.n by omega) hb7
    repeat' (first | done | ((with_reducible refine brK_yes ?_ ?_); (· omega)) | ((with_reducible refine brK_no ?_ ?_); (· omega)) | (with_reducible refine brK_both (fun _ => ?_) (fun _ => ?_)) | ((with_reducible refine And.intro (And.intro ?_ ?_) ?_); (· omega); (· omega)) | ((with_reducible refine And.intro ?_ ?_); (· omega)) | (with_reducible refine And.intro (show List.all _ oneCell = true from rfl) ?_) | ((with_reducible refine st_newM ?_ ?_); (· rfl)) | ((with_reducible refine bs_oneM ?_ ?_); (· rfl)) | (with_reducible refine bd_of (by with_unfolding_all (simp only [fillL_cons, fillL_nil, nth_eq, blt_eq, cond_beq, over, Value.cells, List.getElem?_cons_zero, List.getElem?_cons_succ, List.length_cons, List.length_nil, Nat.reduceAdd, Nat.reduceSub, Nat.reduceLT, Nat.reduceEqDiff, decide_true, cond_true, Option.map_some, if_true, if_false, Nat.add_one_sub_one, Nat.succ_ne_zero, reduceCtorEq, OfNat.ofNat]; rfl)) ?_) | (with_reducible refine bda_of (by with_unfolding_all rfl) ?_) | (simp -dsimp only [↓getK_same, ↓getK_ne, ↓evK_tmp, ↓evK_string, ↓planW_d, ↓agK_nil, ↓opW_bin, ↓ld1_some, ↓evs_nil, ↓evs_cons, ↓opW_call, ↓agK_load, ↓agV_same, ↓agV_ne, ↓agl_3, ↓agl_27, List.length_cons, List.length_nil, onV_some', Nat.le_refl, true_and, and_true, ne_eq, Nat.reduceEqDiff, Nat.reduceAdd, not_false_eq_true, Addr.add_lit, p5, p6, bin_addS, app_str, str_size, List.length_append, same_int, sF]))
    refine num_ret o.t.1 o.t.2 fun h8 X8 => ?_
    unfold strV
    have n8 := X8.n
    have q2 := q2.ext X8
    have q3 := q3.ext X8
    have hb8 := (X8.get h'.n (by omega)).trans hb7
    have XC := XC.trans (X8.mono (by omega))
    obtain ⟨p0, p1, p2, p3, p4, p5, p6⟩ := had_cells (show h'.n < h8.n by omega) hb8
    repeat' (first | done | ((with_reducible refine brK_yes ?_ ?_); (· omega)) | ((with_reducible refine brK_no ?_ ?_); (· omega)) | (with_reducible refine brK_both (fun _ => ?_) (fun _ => ?_)) | ((with_reducible refine And.intro (And.intro ?_ ?_) ?_); (· omega); (· omega)) | ((with_reducible refine And.intro ?_ ?_); (· omega)) | (with_reducible refine And.intro (show List.all _ oneCell = true from rfl) ?_) | ((with_reducible refine st_newM ?_ ?_); (· rfl)) | ((with_reducible refine bs_oneM ?_ ?_); (· rfl)) | (with_reducible refine bd_of (by with_unfolding_all (simp only [fillL_cons, fillL_nil, nth_eq, blt_eq, cond_beq, over, Value.cells, List.getElem?_cons_zero, List.getElem?_cons_succ, List.length_cons, List.length_nil, Nat.reduceAdd, Nat.reduceSub, Nat.reduceLT, Nat.reduceEqDiff, decide_true, cond_true, Option.map_some, if_true, if_false, Nat.add_one_sub_one, Nat.succ_ne_zero, reduceCtorEq, OfNat.ofNat]; rfl)) ?_) | (with_reducible refine bda_of (by with_unfolding_all rfl) ?_) | (simp -dsimp only [↓getK_same, ↓getK_ne, ↓evK_tmp, ↓evK_string, ↓planW_d, ↓agK_nil, ↓opW_bin, ↓ld1_some, ↓evs_nil, ↓evs_cons, ↓opW_call, ↓agK_load, ↓agV_same, ↓agV_ne, ↓agl_27, List.length_cons, List.length_nil, onV_some', Nat.le_refl, true_and, and_true, ne_eq, Nat.reduceEqDiff, Nat.reduceAdd, not_false_eq_true, Addr.add_lit, p6, bin_addS, app_str, str_size, List.length_append, sF]))
    refine refText_v o.fb fun h9 X9 => ?_
    unfold strV
    have n9 := X9.n
    have q2 := q2.ext X9
    have q3 := q3.ext X9
    have hb9 := (X9.get h'.n (by omega)).trans hb8
    have XC := XC.trans (X9.mono (by omega))
    obtain ⟨p0, p1, p2, p3, p4, p5, p6⟩ := had_cells (show h'.n < h9.n by omega) hb9
    repeat' (first | done | ((with_reducible refine brK_yes ?_ ?_); (· omega)) | ((with_reducible refine brK_no ?_ ?_); (· omega)) | (with_reducible refine brK_both (fun _ => ?_) (fun _ => ?_)) | ((with_reducible refine And.intro (And.intro ?_ ?_) ?_); (· omega); (· omega)) | ((with_reducible refine And.intro ?_ ?_); (· omega)) | (with_reducible refine And.intro (show List.all _ oneCell = true from rfl) ?_) | ((with_reducible refine st_newM ?_ ?_); (· rfl)) | ((with_reducible refine bs_oneM ?_ ?_); (· rfl)) | (with_reducible refine bd_of (by with_unfolding_all (simp only [fillL_cons, fillL_nil, nth_eq, blt_eq, cond_beq, over, Value.cells, List.getElem?_cons_zero, List.getElem?_cons_succ, List.length_cons, List.length_nil, Nat.reduceAdd, Nat.reduceSub, Nat.reduceLT, Nat.reduceEqDiff, decide_true, cond_true, Option.map_some, if_true, if_false, Nat.add_one_sub_one, Nat.succ_ne_zero, reduceCtorEq, OfNat.ofNat]; rfl)) ?_) | (with_reducible refine bda_of (by with_unfolding_all rfl) ?_) | (simp -dsimp only [↓getK_same, ↓getK_ne, ↓evK_tmp, ↓planW_d, ↓agK_nil, ↓opW_bin, ↓evp_nil, ↓evp_cons, ↓bsl_46_1, ↓ap_46_46, newBlk_n, List.length_cons, List.length_nil, Nat.le_refl, true_and, ne_eq, Nat.reduceEqDiff, Nat.reduceAdd, not_false_eq_true, bin_addS, app_str, str_size, List.length_append]))
    refine app_row (new := [strV (lineL x)]) q2 (by omega) (hlen _) (by omega) rfl rfl (by decide) rfl fun v2 hB r2' XB2 kB nB => ?_
    have q3' := q3.keep XB2.n fun j _ hj hg => kB j _ _ _ hj hg (.inl (by decide))
    rw [← e2 fun x => strV (lineL x)] at r2'
    repeat' (first | done | ((with_reducible refine brK_yes ?_ ?_); (· omega)) | ((with_reducible refine brK_no ?_ ?_); (· omega)) | (with_reducible refine brK_both (fun _ => ?_) (fun _ => ?_)) | ((with_reducible refine And.intro (And.intro ?_ ?_) ?_); (· omega); (· omega)) | ((with_reducible refine And.intro ?_ ?_); (· omega)) | (with_reducible refine And.intro (show List.all _ oneCell = true from rfl) ?_) | ((with_reducible refine st_newM ?_ ?_); (· rfl)) | ((with_reducible refine bs_oneM ?_ ?_); (· rfl)) | (with_reducible refine bd_of (by with_unfolding_all (simp only [fillL_cons, fillL_nil, nth_eq, blt_eq, cond_beq, over, Value.cells, List.getElem?_cons_zero, List.getElem?_cons_succ, List.length_cons, List.length_nil, Nat.reduceAdd, Nat.reduceSub, Nat.reduceLT, Nat.reduceEqDiff, decide_true, cond_true, Option.map_some, if_true, if_false, Nat.add_one_sub_one, Nat.succ_ne_zero, reduceCtorEq, OfNat.ofNat]; rfl)) ?_) | (with_reducible refine bda_of (by with_unfolding_all rfl) ?_) | (simp -dsimp only [↓cw_ops, ↓seqK_normal, ↓blockK_normal, ↓loopK_normal, ↓getK_same, ↓getK_ne, ↓evK_tmp, ↓evK_int, ↓opsW_nil, ↓opsW_d, ↓planW_nil, ↓planW_d, ↓agK_nil, ↓opW_move, ↓opW_assign, ↓opW_bin, ↓bin_add, ↓r33_2_w, ↓s33_3_w, newBlk_n, Nat.le_refl, true_and, ne_eq, Nat.reduceEqDiff, Nat.reduceAdd, not_false_eq_true, Nat.add_zero, Addr.add_lit, Int.toNat_natCast, ↓g5, app_str]))
    exact ⟨l.length - (k + 1), by omega, k + 1, by omega, rfl, by simp [T.get_set, wrap_succ (show k ≤ 4611686018427387904 by omega)], XC.trans XB2, v2, w2, by simp [T.get_set], by simp [T.get_set], r2', q3'⟩
  · have e : k = l.length := by omega
    subst e
    rw [List.take_length] at r2 r3
    have hfb : ∀ y ∈ l.map HadR.v, FB y := by
      intro y hy
      obtain ⟨x, hx, rfl⟩ := List.mem_map.1 hy
      exact (ok x hx).fb
    have r3 : RowG h.n h' 27 w (l.map HadR.v).length (l.map HadR.v) := by rw [List.length_map]; exact r3
    obtain ⟨a2, c2, rfl, fr2⟩ := row27 r3 hfb (by rw [List.length_map]; omega)
    have fj := jain_FB hfb
    have l7 := textL_len fj
    repeat' (first | done | ((with_reducible refine brK_yes ?_ ?_); (· omega)) | ((with_reducible refine brK_no ?_ ?_); (· omega)) | (with_reducible refine brK_both (fun _ => ?_) (fun _ => ?_)) | ((with_reducible refine And.intro (And.intro ?_ ?_) ?_); (· omega); (· omega)) | ((with_reducible refine And.intro ?_ ?_); (· omega)) | (with_reducible refine And.intro (show List.all _ oneCell = true from rfl) ?_) | ((with_reducible refine st_newM ?_ ?_); (· rfl)) | ((with_reducible refine bs_oneM ?_ ?_); (· rfl)) | (with_reducible refine bd_of (by with_unfolding_all (simp only [fillL_cons, fillL_nil, nth_eq, blt_eq, cond_beq, over, Value.cells, List.getElem?_cons_zero, List.getElem?_cons_succ, List.length_cons, List.length_nil, Nat.reduceAdd, Nat.reduceSub, Nat.reduceLT, Nat.reduceEqDiff, decide_true, cond_true, Option.map_some, if_true, if_false, Nat.add_one_sub_one, Nat.succ_ne_zero, reduceCtorEq, OfNat.ofNat]; rfl)) ?_) | (with_reducible refine bda_of (by with_unfolding_all rfl) ?_) | (simp -dsimp only [↓cw_ops, ↓cw_seq, ↓cw_exit, ↓cw_cond, ↓seqK_normal, ↓seqK_exit, ↓blockK_same, ↓loopK_exit, ↓getK_same, ↓getK_ne, ↓evK_tmp, ↓condV_var, ↓opsW_nil, ↓opsW_d, ↓opW_move, ↓opW_bin, ↓bin_lss, ↓evs_nil, ↓evs_cons, ↓opW_call, ↓lenS_some, ↓len_40, ↓r33_0_w, ↓s33_1_w, ↓s33_11_w, ↓r33_12_w, ↓s33_13_w, ↓s33_14_w, brK_false, ne_eq, Nat.reduceEqDiff, not_false_eq_true, Bool.false_eq_true,  ↓g5, ↓g3, ↓g4, ↓a0]))
    refine refJain_ret fr2 ?_
    repeat' (first | done | ((with_reducible refine brK_yes ?_ ?_); (· omega)) | ((with_reducible refine brK_no ?_ ?_); (· omega)) | (with_reducible refine brK_both (fun _ => ?_) (fun _ => ?_)) | ((with_reducible refine And.intro (And.intro ?_ ?_) ?_); (· omega); (· omega)) | ((with_reducible refine And.intro ?_ ?_); (· omega)) | (with_reducible refine And.intro (show List.all _ oneCell = true from rfl) ?_) | ((with_reducible refine st_newM ?_ ?_); (· rfl)) | ((with_reducible refine bs_oneM ?_ ?_); (· rfl)) | (with_reducible refine bd_of (by with_unfolding_all (simp only [fillL_cons, fillL_nil, nth_eq, blt_eq, cond_beq, over, Value.cells, List.getElem?_cons_zero, List.getElem?_cons_succ, List.length_cons, List.length_nil, Nat.reduceAdd, Nat.reduceSub, Nat.reduceLT, Nat.reduceEqDiff, decide_true, cond_true, Option.map_some, if_true, if_false, Nat.add_one_sub_one, Nat.succ_ne_zero, reduceCtorEq, OfNat.ofNat]; rfl)) ?_) | (with_reducible refine bda_of (by with_unfolding_all rfl) ?_) | (simp -dsimp only [↓getK_same, ↓evK_tmp, ↓opsW_d, ↓evs_nil, ↓evs_cons, ↓opW_call]))
    refine refText_v fj fun h3 X3 => ?_
    have n3 := X3.n
    have r2 := r2.ext X3
    have XC := X.trans (X3.mono (by omega))
    unfold strV
    repeat' (first | done | ((with_reducible refine brK_yes ?_ ?_); (· omega)) | ((with_reducible refine brK_no ?_ ?_); (· omega)) | (with_reducible refine brK_both (fun _ => ?_) (fun _ => ?_)) | ((with_reducible refine And.intro (And.intro ?_ ?_) ?_); (· omega); (· omega)) | ((with_reducible refine And.intro ?_ ?_); (· omega)) | (with_reducible refine And.intro (show List.all _ oneCell = true from rfl) ?_) | ((with_reducible refine st_newM ?_ ?_); (· rfl)) | ((with_reducible refine bs_oneM ?_ ?_); (· rfl)) | (with_reducible refine bd_of (by with_unfolding_all (simp only [fillL_cons, fillL_nil, nth_eq, blt_eq, cond_beq, over, Value.cells, List.getElem?_cons_zero, List.getElem?_cons_succ, List.length_cons, List.length_nil, Nat.reduceAdd, Nat.reduceSub, Nat.reduceLT, Nat.reduceEqDiff, decide_true, cond_true, Option.map_some, if_true, if_false, Nat.add_one_sub_one, Nat.succ_ne_zero, reduceCtorEq, OfNat.ofNat]; rfl)) ?_) | (with_reducible refine bda_of (by with_unfolding_all rfl) ?_) | (simp -dsimp only [↓getK_same, ↓getK_ne, ↓evK_tmp, ↓evK_string, ↓opsW_d, ↓opW_bin, ↓evp_nil, ↓evp_cons, ↓bsl_46_1, ↓ap_46_46, List.length_cons, List.length_nil, ne_eq, Nat.reduceEqDiff, Nat.reduceAdd, not_false_eq_true, bin_addS, app_str, str_size]))
    refine app_row (new := [strV (fairL (l.map HadR.v))]) r2 (by omega) (by rw [List.length_map]; omega) (by omega) rfl rfl (by decide) rfl fun v2 hB r2' XB2 kB nB => ?_
    repeat' (first | done | ((with_reducible refine brK_yes ?_ ?_); (· omega)) | ((with_reducible refine brK_no ?_ ?_); (· omega)) | (with_reducible refine brK_both (fun _ => ?_) (fun _ => ?_)) | ((with_reducible refine And.intro (And.intro ?_ ?_) ?_); (· omega); (· omega)) | ((with_reducible refine And.intro ?_ ?_); (· omega)) | (with_reducible refine And.intro (show List.all _ oneCell = true from rfl) ?_) | ((with_reducible refine st_newM ?_ ?_); (· rfl)) | ((with_reducible refine bs_oneM ?_ ?_); (· rfl)) | (with_reducible refine bd_of (by with_unfolding_all (simp only [fillL_cons, fillL_nil, nth_eq, blt_eq, cond_beq, over, Value.cells, List.getElem?_cons_zero, List.getElem?_cons_succ, List.length_cons, List.length_nil, Nat.reduceAdd, Nat.reduceSub, Nat.reduceLT, Nat.reduceEqDiff, decide_true, cond_true, Option.map_some, if_true, if_false, Nat.add_one_sub_one, Nat.succ_ne_zero, reduceCtorEq, OfNat.ofNat]; rfl)) ?_) | (with_reducible refine bda_of (by with_unfolding_all rfl) ?_) | (simp -dsimp only [↓cw_ret, ↓seqK_normal, ↓getK_same, ↓evK_tmp, ↓opsW_nil, ↓opsW_d, ↓opW_assign, ↓resK_one]))
    obtain ⟨a4, c4, e4, R4⟩ := rowS (L := linesL l) (by rw [linesL, List.length_append, List.length_map]; exact (show (l.map fun x => strV (lineL x)) ++ [strV (fairL (l.map HadR.v))] = (l.map lineL ++ [fairL (l.map HadR.v)]).map strV by simp [Function.comp_def]) ▸ r2')
    rw [e4]
    exact hK _ _ _ R4 (XC.trans XB2)
end Go.Proofs.YtjcmcoabckkjoaaDoor.Li

namespace Go.Proofs.YtjcmcoabckkjoaaDoor.Li
open Go.Ev
set_option maxRecDepth 100000
set_option maxHeartbeats 400000
structure URow (B : Nat) (h : Heap) (a : Option Addr) (l : List Int) : Prop where
  row : RowAt B h a 1 (l.map fun n => [.int .u64 n])
  u : ∀ n ∈ l, 0 ≤ n ∧ n ≤ 18446744073709551615
theorem URow.at {B : Nat} {h : Heap} {a : Option Addr} {l : List Int} (r : URow B h a l) {k : Nat} (hk : k < l.length) : ∃ b off, a = some ⟨b, off, none⟩ ∧ b < B ∧ cellAt h ⟨b, off + k * 1, none⟩ = some (.int .u64 l[k]) := by
  obtain ⟨b, off, e, hb, d⟩ := r.row k (by simpa using hk)
  have d := cellAt_of d (j := 0) (by simp only [List.getElem_map]; rfl)
  exact ⟨b, off, e, hb, d⟩
theorem URow.ext {B : Nat} {h h' : Heap} {a : Option Addr} {l : List Int} (r : URow B h a l) (e : ExtB B h h') : URow B h' a l := ⟨r.row.ext e, r.u⟩
theorem known_ret {h : Heap} {K : Value → Heap → Prop} (ht : tabsOk tabs h = true) (hK : K (.bool true) h) : Ret env (.func 8) [] h K := by
  refine Ret.ext (v := .bool true) ?_ hK
  show extTab tabs ext5 8 8 [] h = _
  simp only [extTab, Nat.beq_refl, cond_true, ht]
def hadF (l : List HadR) : List Value := (l.map HadR.cells).flatten
theorem had7 (l : List HadR) : ∀ r ∈ l.map HadR.cells, r.length = 7 := by intro r hr; obtain ⟨u, _, rfl⟩ := List.mem_map.1 hr; rfl
theorem hadF_len (l : List HadR) : (hadF l).length = l.length * 7 := by rw [hadF, flat_len _ (had7 l), List.length_map]
theorem hadF_one {l : List HadR} (ok : ∀ x ∈ l, x.OK) : (hadF l).all oneCell = true := by
  rw [List.all_eq_true]
  intro v hv
  obtain ⟨r, hr, hv⟩ := List.mem_flatten.1 hv
  obtain ⟨x, hx, rfl⟩ := List.mem_map.1 hr
  obtain ⟨n, _, e⟩ := (ok x hx).v
  simp only [HadR.cells, e, List.mem_cons, List.not_mem_nil, or_false] at hv
  rcases hv with rfl | rfl | rfl | rfl | rfl | rfl | rfl <;> rfl
theorem hadF_at {l : List HadR} {k : Nat} (hk : k < l.length) : hadF l = hadF (l.take k) ++ (l[k].cells ++ hadF (l.drop (k + 1))) := by
  have e : l = l.take k ++ (l[k] :: l.drop (k + 1)) := by rw [← List.drop_eq_getElem_cons hk, List.take_append_drop]
  exact (congrArg hadF e).trans (by simp only [hadF, List.map_append, List.map_cons, List.flatten_append, List.flatten_cons])
theorem hadF_set {l : List HadR} {k : Nat} (hk : k < l.length) (w : Value) : over (hadF l) (k * 7 + 6) [w] = some (hadF (l.set k { l[k] with v := w })) := by
  have e1 : hadF (l.set k { l[k] with v := w }) = hadF (l.take k) ++ (HadR.cells { l[k] with v := w } ++ hadF (l.drop (k + 1))) := by
    rw [List.set_eq_take_append_cons_drop, if_pos hk]
    simp only [hadF, List.map_append, List.map_cons, List.flatten_append, List.flatten_cons]
  have e2 : (hadF (l.take k)).length = k * 7 := by rw [hadF_len, List.length_take]; congr 1; omega
  rw [e1, hadF_at hk]
  have := over_mid [w] (hadF (l.take k) ++ [.int .i64 l[k].i, .int .u64 l[k].g, .int .i64 l[k].s, .int .i64 l[k].c, .int .i64 l[k].r, .int .i64 l[k].t]) [l[k].v] (hadF (l.drop (k + 1))) rfl
  rw [List.length_append, e2] at this
  simpa [HadR.cells] using this
theorem rowHad {B : Nat} {h : Heap} {v : Value} {n : Nat} {l : List HadR} (o : OwnS B h 44 v n (hadF l)) (hn : n = l.length) : ∃ a c, v = .slice a l.length c ∧ RowAt h.n h a 7 (l.map HadR.cells) := by
  have := OwnS.rowAt o (had7 l) (by simpa using hn)
  simpa using this
theorem firstHad {B : Nat} {h : Heap} {a : Option Addr} {c : Nat} {l : List HadR} (r : RowAt B h a 7 (l.map HadR.cells)) (hl : l.length ≠ 0) : firstCells h 7 l.length (.slice a l.length c) = some (hadF l) := by
  obtain ⟨b, off, rfl, _, hc⟩ := r.cells (had7 l) (by decide) (by intro he; simp at he; subst he; exact hl rfl)
  rw [List.length_map] at hc
  exact hc
theorem law_ret {B : Nat} {a b : Option Addr} {c d : Nat} {l : List HadR} {q : List Int} {h : Heap} (ra : RowAt B h a 7 (l.map HadR.cells)) (ok : ∀ x ∈ l, x.OK) (r : URow B h b q) (hB : B ≤ h.n) (h1 : 2 < B) (ht : tabsOk tabs h = true) :
    Ret env (.func 5) [.slice a l.length c, .slice b q.length d] h fun v _ => v = .bool true := by
  refine F5 rfl ?_
  by_cases hl : 40 < l.length
  · repeat' (first | done | ((with_reducible refine brK_yes ?_ ?_); (· omega)) | ((with_reducible refine brK_no ?_ ?_); (· omega)) | (with_reducible refine brK_both (fun _ => ?_) (fun _ => ?_)) | ((with_reducible refine And.intro (And.intro ?_ ?_) ?_); (· omega); (· omega)) | ((with_reducible refine And.intro ?_ ?_); (· omega)) | (with_reducible refine And.intro (show List.all _ oneCell = true from rfl) ?_) | ((with_reducible refine st_newM ?_ ?_); (· rfl)) | ((with_reducible refine bs_oneM ?_ ?_); (· rfl)) | (with_reducible refine bd_of (by with_unfolding_all (simp only [fillL_cons, fillL_nil, nth_eq, blt_eq, cond_beq, over, Value.cells, List.getElem?_cons_zero, List.getElem?_cons_succ, List.length_cons, List.length_nil, Nat.reduceAdd, Nat.reduceSub, Nat.reduceLT, Nat.reduceEqDiff, decide_true, cond_true, Option.map_some, if_true, if_false, Nat.add_one_sub_one, Nat.succ_ne_zero, reduceCtorEq, OfNat.ofNat]; rfl)) ?_) | (with_reducible refine bda_of (by with_unfolding_all rfl) ?_) | (simp -dsimp only [↓cw_ops, ↓cw_seq, ↓cw_cond, ↓seqK_normal, ↓getK_same, ↓getK_ne, ↓evK_tmp, ↓evK_int, ↓evK_bool, ↓condV_var, ↓gdV_var, ↓opsW_nil, ↓opsW_d, ↓opsW_gd, ↓opW_move, ↓opW_assign, ↓opW_pick, ↓opW_bin, ↓bin_gtr, ↓evs_nil, ↓opW_call, ↓lenS_some, ↓setAll_cons, ↓setAll_nil, ↓len_40, ↓r5_24_w, ↓s5_25_w, ↓s5_26_w, ↓r5_27_w, ↓s5_28_w, ↓s5_29_w, ↓r5_30_w, ↓s5_31_w, brK_true, brK_false, ne_eq, Nat.reduceEqDiff, Nat.reduceAdd, not_false_eq_true, Nat.one_ne_zero, Bool.true_eq_false]))
    refine known_ret ht ?_
    repeat' (first | done | ((with_reducible refine brK_yes ?_ ?_); (· omega)) | ((with_reducible refine brK_no ?_ ?_); (· omega)) | (with_reducible refine brK_both (fun _ => ?_) (fun _ => ?_)) | ((with_reducible refine And.intro (And.intro ?_ ?_) ?_); (· omega); (· omega)) | ((with_reducible refine And.intro ?_ ?_); (· omega)) | (with_reducible refine And.intro (show List.all _ oneCell = true from rfl) ?_) | ((with_reducible refine st_newM ?_ ?_); (· rfl)) | ((with_reducible refine bs_oneM ?_ ?_); (· rfl)) | (with_reducible refine bd_of (by with_unfolding_all (simp only [fillL_cons, fillL_nil, nth_eq, blt_eq, cond_beq, over, Value.cells, List.getElem?_cons_zero, List.getElem?_cons_succ, List.length_cons, List.length_nil, Nat.reduceAdd, Nat.reduceSub, Nat.reduceLT, Nat.reduceEqDiff, decide_true, cond_true, Option.map_some, if_true, if_false, Nat.add_one_sub_one, Nat.succ_ne_zero, reduceCtorEq, OfNat.ofNat]; rfl)) ?_) | (with_reducible refine bda_of (by with_unfolding_all rfl) ?_) | (simp -dsimp only [↓cw_ret, ↓seqK_normal, ↓seqK_ret, ↓getK_same, ↓evK_tmp, ↓opsW_nil, ↓opsW_d, ↓opW_assign, ↓resK_one]))
  by_cases hq : q.length < l.length
  · repeat' (first | done | ((with_reducible refine brK_yes ?_ ?_); (· omega)) | ((with_reducible refine brK_no ?_ ?_); (· omega)) | (with_reducible refine brK_both (fun _ => ?_) (fun _ => ?_)) | ((with_reducible refine And.intro (And.intro ?_ ?_) ?_); (· omega); (· omega)) | ((with_reducible refine And.intro ?_ ?_); (· omega)) | (with_reducible refine And.intro (show List.all _ oneCell = true from rfl) ?_) | ((with_reducible refine st_newM ?_ ?_); (· rfl)) | ((with_reducible refine bs_oneM ?_ ?_); (· rfl)) | (with_reducible refine bd_of (by with_unfolding_all (simp only [fillL_cons, fillL_nil, nth_eq, blt_eq, cond_beq, over, Value.cells, List.getElem?_cons_zero, List.getElem?_cons_succ, List.length_cons, List.length_nil, Nat.reduceAdd, Nat.reduceSub, Nat.reduceLT, Nat.reduceEqDiff, decide_true, cond_true, Option.map_some, if_true, if_false, Nat.add_one_sub_one, Nat.succ_ne_zero, reduceCtorEq, OfNat.ofNat]; rfl)) ?_) | (with_reducible refine bda_of (by with_unfolding_all rfl) ?_) | (simp -dsimp only [↓cw_ops, ↓cw_seq, ↓cw_cond, ↓seqK_normal, ↓getK_same, ↓getK_ne, ↓evK_tmp, ↓evK_int, ↓evK_bool, ↓condV_var, ↓gdV_var, ↓opsW_nil, ↓opsW_d, ↓opsW_gd, ↓opW_move, ↓opW_assign, ↓opW_pick, ↓opW_bin, ↓bin_lss, ↓bin_gtr, ↓evs_nil, ↓opW_call, ↓lenS_some, ↓setAll_cons, ↓setAll_nil, ↓len_40, ↓len_22, ↓r5_24_w, ↓s5_25_w, ↓s5_26_w, ↓r5_27_w, ↓s5_28_w, ↓s5_29_w, ↓r5_30_w, ↓s5_31_w, brK_true, brK_false, ne_eq, Nat.reduceEqDiff, Nat.reduceAdd, not_false_eq_true, Nat.one_ne_zero, Bool.false_eq_true]))
    refine known_ret ht ?_
    repeat' (first | done | ((with_reducible refine brK_yes ?_ ?_); (· omega)) | ((with_reducible refine brK_no ?_ ?_); (· omega)) | (with_reducible refine brK_both (fun _ => ?_) (fun _ => ?_)) | ((with_reducible refine And.intro (And.intro ?_ ?_) ?_); (· omega); (· omega)) | ((with_reducible refine And.intro ?_ ?_); (· omega)) | (with_reducible refine And.intro (show List.all _ oneCell = true from rfl) ?_) | ((with_reducible refine st_newM ?_ ?_); (· rfl)) | ((with_reducible refine bs_oneM ?_ ?_); (· rfl)) | (with_reducible refine bd_of (by with_unfolding_all (simp only [fillL_cons, fillL_nil, nth_eq, blt_eq, cond_beq, over, Value.cells, List.getElem?_cons_zero, List.getElem?_cons_succ, List.length_cons, List.length_nil, Nat.reduceAdd, Nat.reduceSub, Nat.reduceLT, Nat.reduceEqDiff, decide_true, cond_true, Option.map_some, if_true, if_false, Nat.add_one_sub_one, Nat.succ_ne_zero, reduceCtorEq, OfNat.ofNat]; rfl)) ?_) | (with_reducible refine bda_of (by with_unfolding_all rfl) ?_) | (simp -dsimp only [↓cw_ret, ↓seqK_normal, ↓seqK_ret, ↓getK_same, ↓evK_tmp, ↓opsW_nil, ↓opsW_d, ↓opW_assign, ↓resK_one]))
  repeat' (first | done | ((with_reducible refine brK_yes ?_ ?_); (· omega)) | ((with_reducible refine brK_no ?_ ?_); (· omega)) | (with_reducible refine brK_both (fun _ => ?_) (fun _ => ?_)) | ((with_reducible refine And.intro (And.intro ?_ ?_) ?_); (· omega); (· omega)) | ((with_reducible refine And.intro ?_ ?_); (· omega)) | (with_reducible refine And.intro (show List.all _ oneCell = true from rfl) ?_) | ((with_reducible refine st_newM ?_ ?_); (· rfl)) | ((with_reducible refine bs_oneM ?_ ?_); (· rfl)) | (with_reducible refine bd_of (by with_unfolding_all (simp only [fillL_cons, fillL_nil, nth_eq, blt_eq, cond_beq, over, Value.cells, List.getElem?_cons_zero, List.getElem?_cons_succ, List.length_cons, List.length_nil, Nat.reduceAdd, Nat.reduceSub, Nat.reduceLT, Nat.reduceEqDiff, decide_true, cond_true, Option.map_some, if_true, if_false, Nat.add_one_sub_one, Nat.succ_ne_zero, reduceCtorEq, OfNat.ofNat]; rfl)) ?_) | (with_reducible refine bda_of (by with_unfolding_all rfl) ?_) | (simp -dsimp only [↓cw_skip, ↓cw_ops, ↓cw_seq, ↓cw_cond, ↓seqK_normal, ↓getK_same, ↓getK_ne, ↓evK_tmp, ↓evK_int, ↓evK_bool, ↓evK_nilslice, ↓condV_var, ↓gdV_var, ↓opsW_nil, ↓opsW_d, ↓opsW_gd, ↓opW_move, ↓opW_assign, ↓opW_pick, ↓opW_bin, ↓bin_lss, ↓bin_gtr, ↓lenS_some, ↓setAll_cons, ↓setAll_nil, ↓len_40, ↓len_22, ↓ap_40_40, ↓r5_22_w, ↓s5_23_w, ↓s5_26_w, ↓r5_27_w, ↓s5_28_w, ↓s5_29_w, ↓r5_30_w, ↓s5_31_w, brK_true, brK_false, ne_eq, Nat.reduceEqDiff, Nat.reduceAdd, not_false_eq_true, Nat.one_ne_zero, Bool.false_eq_true]))
  refine app_ownG (B := h.n) (n := 0) (cs := []) (new := hadF l) .nil (Nat.le_refl _) rfl rfl (by omega) (fun h0 => firstHad ra h0) (hadF_len l) (hadF_one ok) (by decide) fun v h2 o2 X2 => ?_
  rw [Nat.zero_add, List.nil_append] at o2
  have n2 := X2.n
  have r := r.ext (X2.mono hB)
  have ht2 := tabs_ext h1 (X2.mono hB) ht
  repeat' (first | done | ((with_reducible refine brK_yes ?_ ?_); (· omega)) | ((with_reducible refine brK_no ?_ ?_); (· omega)) | (with_reducible refine brK_both (fun _ => ?_) (fun _ => ?_)) | ((with_reducible refine And.intro (And.intro ?_ ?_) ?_); (· omega); (· omega)) | ((with_reducible refine And.intro ?_ ?_); (· omega)) | (with_reducible refine And.intro (show List.all _ oneCell = true from rfl) ?_) | ((with_reducible refine st_newM ?_ ?_); (· rfl)) | ((with_reducible refine bs_oneM ?_ ?_); (· rfl)) | (with_reducible refine bd_of (by with_unfolding_all (simp only [fillL_cons, fillL_nil, nth_eq, blt_eq, cond_beq, over, Value.cells, List.getElem?_cons_zero, List.getElem?_cons_succ, List.length_cons, List.length_nil, Nat.reduceAdd, Nat.reduceSub, Nat.reduceLT, Nat.reduceEqDiff, decide_true, cond_true, Option.map_some, if_true, if_false, Nat.add_one_sub_one, Nat.succ_ne_zero, reduceCtorEq, OfNat.ofNat]; rfl)) ?_) | (with_reducible refine bda_of (by with_unfolding_all rfl) ?_) | (simp -dsimp only [↓cw_ops, ↓cw_seq, ↓cw_block, ↓seqK_normal, ↓getK_same, ↓evK_tmp, ↓evK_int, ↓opsW_nil, ↓opsW_d, ↓opW_assign, ↓setAll_cons, ↓setAll_nil, ↓s5_17_w, ↓s5_18_w, ↓r5_19_w, ↓s5_20_w, ↓s5_21_w, Nat.reduceAdd]))
  refine cw_loopI (fun n fr h' => ∃ k : Nat, k ≤ l.length ∧ n = l.length - k ∧ fr.get 6 = some (.int .i64 k) ∧ ExtB h.n h2 h' ∧ ∃ v L, fr.get 5 = some v ∧ L.length = l.length ∧ (∀ x ∈ L, x.OK) ∧ OwnS h.n h' 44 v l.length (hadF L)) l.length ?_ (by omega) ?_
  · exact ⟨0, by omega, by omega, by simp [T.get_set], ExtB.refl _ _, v, l, by simp [T.get_set], rfl, ok, o2⟩
  rintro n fr h' ⟨k, hk, rfl, g6, X, v, L, g5, hL, okL, o⟩ hag
  have g6 := getK_of g6
  have g5 := getK_of g5
  have a0 := getK_eq (hag 0 rfl)
  have a1 := getK_eq (hag 1 rfl)
  have hn := X.n
  obtain ⟨a2, c2, rfl, R⟩ := rowHad o hL.symm
  by_cases hlt : k < l.length
  · have hrow : ∃ i, Value.slice a2 L.length c2 = .slice (some ⟨i, 0, none⟩) L.length UNK ∧ h.n ≤ i ∧ i < h'.n ∧ h'.b.get i = some (.cells (hadF L) 44 false) := by
      rw [← hL] at o hlt
      generalize Value.slice a2 L.length c2 = v at o ⊢
      generalize hm : L.length = m at o hlt ⊢
      generalize hadF L = cs at o ⊢
      cases o with
      | nil => omega
      | emp => omega
      | row i n cs h1 h2 h3 => exact ⟨i, rfl, h1, h2, h3⟩
    obtain ⟨i, e, hi1, hi2, hbi⟩ := hrow
    cases e
    rw [hL] at g5
    have hkL : k < L.length := by omega
    obtain ⟨b1, o1, rfl, hb1, d2⟩ := (r.ext (X.mono hB)).at (k := k) (by omega)
    have oK := okL _ (List.getElem_mem hkL)
    obtain ⟨b3, o3, e3, hb3, d3⟩ := R k (by simpa using hkL)
    cases e3
    rw [List.getElem_map] at d3
    have hp : ∀ (j : Nat) (v : Value), L[k].cells[j]? = some v → cellAt h' ⟨i, 0 + k * 7 + j, none⟩ = some v := fun j v hv => cellAt_of d3 hv
    have p0 : cellAt h' ⟨i, 0 + k * 7, none⟩ = some (.int .i64 L[k].i) := hp 0 _ rfl
    have p2 := hp 2 _ rfl
    have p3 := hp 3 _ rfl
    have p4 := hp 4 _ rfl
    have p5 := hp 5 _ rfl
    have ht3 := tabs_ext h1 ((X2.trans X).mono hB) ht
    obtain ⟨u1, u2⟩ := r.u _ (List.getElem_mem (show k < q.length by omega))
    repeat' (first | done | ((with_reducible refine brK_yes ?_ ?_); (· omega)) | ((with_reducible refine brK_no ?_ ?_); (· omega)) | (with_reducible refine brK_both (fun _ => ?_) (fun _ => ?_)) | ((with_reducible refine And.intro (And.intro ?_ ?_) ?_); (· omega); (· omega)) | ((with_reducible refine And.intro ?_ ?_); (· omega)) | (with_reducible refine And.intro (show List.all _ oneCell = true from rfl) ?_) | ((with_reducible refine st_newM ?_ ?_); (· rfl)) | ((with_reducible refine bs_oneM ?_ ?_); (· rfl)) | (with_reducible refine bd_of (by with_unfolding_all (simp only [fillL_cons, fillL_nil, nth_eq, blt_eq, cond_beq, over, Value.cells, List.getElem?_cons_zero, List.getElem?_cons_succ, List.length_cons, List.length_nil, Nat.reduceAdd, Nat.reduceSub, Nat.reduceLT, Nat.reduceEqDiff, decide_true, cond_true, Option.map_some, if_true, if_false, Nat.add_one_sub_one, Nat.succ_ne_zero, reduceCtorEq, OfNat.ofNat]; rfl)) ?_) | (with_reducible refine bda_of (by with_unfolding_all rfl) ?_) | (simp -dsimp only [↓cw_skip, ↓cw_ops, ↓cw_seq, ↓cw_block, ↓cw_cond, ↓seqK_normal, ↓getK_same, ↓getK_ne, ↓evK_tmp, ↓evK_int, ↓evK_bool, ↓condV_var, ↓gdV_var, ↓opsW_nil, ↓opsW_d, ↓opsW_gd, ↓opW_move, ↓opW_pick, ↓opW_bin, ↓bin_lss, ↓ld1_some, ↓fldA_some, ↓idxS_some, ↓evs_nil, ↓evs_cons, ↓opW_call, ↓lenS_some, ↓len_40, ↓ia_40, ↓fa_44_0, ↓fa_42_0, ↓ld_3, ↓fa_44_1, ↓fa_44_2, ↓fa_44_3, ↓fa_44_4, ↓ia_22, ↓ld_23, ↓r5_4_w, ↓s5_5_w, ↓r5_6_w, ↓s5_7_w, ↓s5_8_w, ↓r5_9_w, ↓s5_10_w, ↓s5_11_w, ↓s5_12_w, ↓s5_13_w, ↓r5_14_w, ↓s5_15_w, ↓s5_16_w, onV_some', brK_true, brK_false, ne_eq, Nat.reduceEqDiff, not_false_eq_true, Nat.add_zero, Addr.add_lit, Int.toNat_natCast, Bool.true_eq_false, Bool.false_eq_true,  ↓g6, ↓g5, ↓a1, p0, p2, p3, p4, p5, d2]))
    all_goals first
      | (refine known_ret ht3 ?_
         repeat' (first | done | ((with_reducible refine brK_yes ?_ ?_); (· omega)) | ((with_reducible refine brK_no ?_ ?_); (· omega)) | (with_reducible refine brK_both (fun _ => ?_) (fun _ => ?_)) | ((with_reducible refine And.intro (And.intro ?_ ?_) ?_); (· omega); (· omega)) | ((with_reducible refine And.intro ?_ ?_); (· omega)) | (with_reducible refine And.intro (show List.all _ oneCell = true from rfl) ?_) | ((with_reducible refine st_newM ?_ ?_); (· rfl)) | ((with_reducible refine bs_oneM ?_ ?_); (· rfl)) | (with_reducible refine bd_of (by with_unfolding_all (simp only [fillL_cons, fillL_nil, nth_eq, blt_eq, cond_beq, over, Value.cells, List.getElem?_cons_zero, List.getElem?_cons_succ, List.length_cons, List.length_nil, Nat.reduceAdd, Nat.reduceSub, Nat.reduceLT, Nat.reduceEqDiff, decide_true, cond_true, Option.map_some, if_true, if_false, Nat.add_one_sub_one, Nat.succ_ne_zero, reduceCtorEq, OfNat.ofNat]; rfl)) ?_) | (with_reducible refine bda_of (by with_unfolding_all rfl) ?_) | (simp -dsimp only [↓cw_ret, ↓seqK_normal, ↓seqK_ret, ↓blockK_ret, ↓loopK_ret, ↓getK_same, ↓evK_tmp, ↓opsW_nil, ↓opsW_d, ↓opW_assign, ↓resK_one])))
      | skip
    refine from_u ?_
    repeat' (first | done | ((with_reducible refine brK_yes ?_ ?_); (· omega)) | ((with_reducible refine brK_no ?_ ?_); (· omega)) | (with_reducible refine brK_both (fun _ => ?_) (fun _ => ?_)) | ((with_reducible refine And.intro (And.intro ?_ ?_) ?_); (· omega); (· omega)) | ((with_reducible refine And.intro ?_ ?_); (· omega)) | (with_reducible refine And.intro (show List.all _ oneCell = true from rfl) ?_) | ((with_reducible refine st_newM ?_ ?_); (· rfl)) | ((with_reducible refine bs_oneM ?_ ?_); (· rfl)) | (with_reducible refine bd_of (by with_unfolding_all (simp only [fillL_cons, fillL_nil, nth_eq, blt_eq, cond_beq, over, Value.cells, List.getElem?_cons_zero, List.getElem?_cons_succ, List.length_cons, List.length_nil, Nat.reduceAdd, Nat.reduceSub, Nat.reduceLT, Nat.reduceEqDiff, decide_true, cond_true, Option.map_some, if_true, if_false, Nat.add_one_sub_one, Nat.succ_ne_zero, reduceCtorEq, OfNat.ofNat]; rfl)) ?_) | (with_reducible refine bda_of (by with_unfolding_all rfl) ?_) | (simp -dsimp only [↓getK_same, ↓getK_ne, ↓evK_tmp, ↓opsW_d, ↓opsW_n, ↓fldA_some, ↓idxS_some, ↓ia_40, ↓fa_44_5, ↓st_27, ne_eq, Nat.reduceEqDiff, not_false_eq_true, Addr.add_lit, Int.toNat_natCast]))
    refine st_at (off := 0 + k * 7 + 6) (l := [.float .f64 q[k].toNat]) (cs' := hadF (L.set k { L[k] with v := .float .f64 q[k].toNat })) hbi rfl rfl (by rw [Nat.zero_add]; exact hadF_set hkL _) rfl (by decide) ?_
    repeat' (first | done | ((with_reducible refine brK_yes ?_ ?_); (· omega)) | ((with_reducible refine brK_no ?_ ?_); (· omega)) | (with_reducible refine brK_both (fun _ => ?_) (fun _ => ?_)) | ((with_reducible refine And.intro (And.intro ?_ ?_) ?_); (· omega); (· omega)) | ((with_reducible refine And.intro ?_ ?_); (· omega)) | (with_reducible refine And.intro (show List.all _ oneCell = true from rfl) ?_) | ((with_reducible refine st_newM ?_ ?_); (· rfl)) | ((with_reducible refine bs_oneM ?_ ?_); (· rfl)) | (with_reducible refine bd_of (by with_unfolding_all (simp only [fillL_cons, fillL_nil, nth_eq, blt_eq, cond_beq, over, Value.cells, List.getElem?_cons_zero, List.getElem?_cons_succ, List.length_cons, List.length_nil, Nat.reduceAdd, Nat.reduceSub, Nat.reduceLT, Nat.reduceEqDiff, decide_true, cond_true, Option.map_some, if_true, if_false, Nat.add_one_sub_one, Nat.succ_ne_zero, reduceCtorEq, OfNat.ofNat]; rfl)) ?_) | (with_reducible refine bda_of (by with_unfolding_all rfl) ?_) | (simp -dsimp only [↓cw_ops, ↓seqK_normal, ↓blockK_normal, ↓loopK_normal, ↓getK_same, ↓getK_ne, ↓evK_tmp, ↓evK_int, ↓opsW_nil, ↓opsW_d, ↓opW_move, ↓opW_assign, ↓opW_bin, ↓bin_add, ↓r5_2_w, ↓s5_3_w, ne_eq, Nat.reduceEqDiff, not_false_eq_true, Nat.add_zero, Addr.add_lit, Int.toNat_natCast, ↓g6]))
    refine ⟨l.length - (k + 1), by omega, k + 1, by omega, rfl, by simp [T.get_set, wrap_succ (show k ≤ 4611686018427387904 by omega)], X.trans (ExtB.set _ hi1), .slice (some ⟨i, 0, none⟩) l.length UNK, L.set k { L[k] with v := .float .f64 q[k].toNat }, ?_, by simpa using hL, ?_, ?_⟩
    · simp only [T.get_set]; have := g5; simp_all
    · intro x hx
      rcases List.mem_or_eq_of_mem_set hx with hx | rfl
      · exact okL x hx
      · exact ⟨oK.i, oK.g, oK.s, oK.c, oK.r, oK.t, ⟨_, by omega, rfl⟩⟩
    · exact .row i _ _ hi1 hi2 (by simp [T.get_set])
  · have ht3 := tabs_ext h1 ((X2.trans X).mono hB) ht
    have hL2 := hL
    repeat' (first | done | ((with_reducible refine brK_yes ?_ ?_); (· omega)) | ((with_reducible refine brK_no ?_ ?_); (· omega)) | (with_reducible refine brK_both (fun _ => ?_) (fun _ => ?_)) | ((with_reducible refine And.intro (And.intro ?_ ?_) ?_); (· omega); (· omega)) | ((with_reducible refine And.intro ?_ ?_); (· omega)) | (with_reducible refine And.intro (show List.all _ oneCell = true from rfl) ?_) | ((with_reducible refine st_newM ?_ ?_); (· rfl)) | ((with_reducible refine bs_oneM ?_ ?_); (· rfl)) | (with_reducible refine bd_of (by with_unfolding_all (simp only [fillL_cons, fillL_nil, nth_eq, blt_eq, cond_beq, over, Value.cells, List.getElem?_cons_zero, List.getElem?_cons_succ, List.length_cons, List.length_nil, Nat.reduceAdd, Nat.reduceSub, Nat.reduceLT, Nat.reduceEqDiff, decide_true, cond_true, Option.map_some, if_true, if_false, Nat.add_one_sub_one, Nat.succ_ne_zero, reduceCtorEq, OfNat.ofNat]; rfl)) ?_) | (with_reducible refine bda_of (by with_unfolding_all rfl) ?_) | (simp -dsimp only [↓cw_ops, ↓cw_seq, ↓cw_exit, ↓cw_cond, ↓seqK_normal, ↓seqK_exit, ↓blockK_same, ↓loopK_exit, ↓getK_same, ↓getK_ne, ↓evK_tmp, ↓condV_var, ↓opsW_nil, ↓opsW_d, ↓opW_move, ↓opW_bin, ↓bin_lss, ↓evs_nil, ↓evs_cons, ↓opW_call, ↓lenS_some, ↓len_40, ↓r5_0_w, ↓s5_1_w, ↓s5_13_w, ↓r5_14_w, ↓s5_15_w, ↓s5_16_w, brK_false, ne_eq, Nat.reduceEqDiff, not_false_eq_true, Bool.false_eq_true,  ↓g6, ↓g5]))
    refine lines_ret R okL ht3 (by omega) (by omega) fun a4 c4 h4 R4 X4 => ?_
    have n4 := X4.n
    repeat' (first | done | ((with_reducible refine brK_yes ?_ ?_); (· omega)) | ((with_reducible refine brK_no ?_ ?_); (· omega)) | (with_reducible refine brK_both (fun _ => ?_) (fun _ => ?_)) | ((with_reducible refine And.intro (And.intro ?_ ?_) ?_); (· omega); (· omega)) | ((with_reducible refine And.intro ?_ ?_); (· omega)) | (with_reducible refine And.intro (show List.all _ oneCell = true from rfl) ?_) | ((with_reducible refine st_newM ?_ ?_); (· rfl)) | ((with_reducible refine bs_oneM ?_ ?_); (· rfl)) | (with_reducible refine bd_of (by with_unfolding_all (simp only [fillL_cons, fillL_nil, nth_eq, blt_eq, cond_beq, over, Value.cells, List.getElem?_cons_zero, List.getElem?_cons_succ, List.length_cons, List.length_nil, Nat.reduceAdd, Nat.reduceSub, Nat.reduceLT, Nat.reduceEqDiff, decide_true, cond_true, Option.map_some, if_true, if_false, Nat.add_one_sub_one, Nat.succ_ne_zero, reduceCtorEq, OfNat.ofNat]; rfl)) ?_) | (with_reducible refine bda_of (by with_unfolding_all rfl) ?_) | (simp -dsimp only [↓getK_same, ↓getK_ne, ↓evK_tmp, ↓opsW_d, ↓opW_move, ↓evs_nil, ↓evs_cons, ↓opW_call, ne_eq, Nat.reduceEqDiff, not_false_eq_true, ↓g5]))
    refine refLines_ret ((R.ext X4).mono n4) okL (by omega) fun a5 c5 h5 R5 X5 => ?_
    have n5 := X5.n
    repeat' (first | done | ((with_reducible refine brK_yes ?_ ?_); (· omega)) | ((with_reducible refine brK_no ?_ ?_); (· omega)) | (with_reducible refine brK_both (fun _ => ?_) (fun _ => ?_)) | ((with_reducible refine And.intro (And.intro ?_ ?_) ?_); (· omega); (· omega)) | ((with_reducible refine And.intro ?_ ?_); (· omega)) | (with_reducible refine And.intro (show List.all _ oneCell = true from rfl) ?_) | ((with_reducible refine st_newM ?_ ?_); (· rfl)) | ((with_reducible refine bs_oneM ?_ ?_); (· rfl)) | (with_reducible refine bd_of (by with_unfolding_all (simp only [fillL_cons, fillL_nil, nth_eq, blt_eq, cond_beq, over, Value.cells, List.getElem?_cons_zero, List.getElem?_cons_succ, List.length_cons, List.length_nil, Nat.reduceAdd, Nat.reduceSub, Nat.reduceLT, Nat.reduceEqDiff, decide_true, cond_true, Option.map_some, if_true, if_false, Nat.add_one_sub_one, Nat.succ_ne_zero, reduceCtorEq, OfNat.ofNat]; rfl)) ?_) | (with_reducible refine bda_of (by with_unfolding_all rfl) ?_) | (simp -dsimp only [↓getK_same, ↓getK_ne, ↓evK_tmp, ↓opsW_d, ↓evs_nil, ↓evs_cons, ↓opW_call, ne_eq, Nat.reduceEqDiff, not_false_eq_true]))
    refine sameLines_ret (R4.ext X5) R5 (by rw [linesL, List.length_append, List.length_map, List.length_singleton]; omega) ?_
    repeat' (first | done | ((with_reducible refine brK_yes ?_ ?_); (· omega)) | ((with_reducible refine brK_no ?_ ?_); (· omega)) | (with_reducible refine brK_both (fun _ => ?_) (fun _ => ?_)) | ((with_reducible refine And.intro (And.intro ?_ ?_) ?_); (· omega); (· omega)) | ((with_reducible refine And.intro ?_ ?_); (· omega)) | (with_reducible refine And.intro (show List.all _ oneCell = true from rfl) ?_) | ((with_reducible refine st_newM ?_ ?_); (· rfl)) | ((with_reducible refine bs_oneM ?_ ?_); (· rfl)) | (with_reducible refine bd_of (by with_unfolding_all (simp only [fillL_cons, fillL_nil, nth_eq, blt_eq, cond_beq, over, Value.cells, List.getElem?_cons_zero, List.getElem?_cons_succ, List.length_cons, List.length_nil, Nat.reduceAdd, Nat.reduceSub, Nat.reduceLT, Nat.reduceEqDiff, decide_true, cond_true, Option.map_some, if_true, if_false, Nat.add_one_sub_one, Nat.succ_ne_zero, reduceCtorEq, OfNat.ofNat]; rfl)) ?_) | (with_reducible refine bda_of (by with_unfolding_all rfl) ?_) | (simp -dsimp only [↓getK_same, ↓evK_tmp, ↓gdV_var, ↓opsW_d, ↓opsW_gd, ↓opW_move, ↓evs_nil, ↓opW_call, brK_true]))
    refine known_ret (tabs_ext (by omega) X5 (tabs_ext (by omega) X4 ht3)) ?_
    repeat' (first | done | ((with_reducible refine brK_yes ?_ ?_); (· omega)) | ((with_reducible refine brK_no ?_ ?_); (· omega)) | (with_reducible refine brK_both (fun _ => ?_) (fun _ => ?_)) | ((with_reducible refine And.intro (And.intro ?_ ?_) ?_); (· omega); (· omega)) | ((with_reducible refine And.intro ?_ ?_); (· omega)) | (with_reducible refine And.intro (show List.all _ oneCell = true from rfl) ?_) | ((with_reducible refine st_newM ?_ ?_); (· rfl)) | ((with_reducible refine bs_oneM ?_ ?_); (· rfl)) | (with_reducible refine bd_of (by with_unfolding_all (simp only [fillL_cons, fillL_nil, nth_eq, blt_eq, cond_beq, over, Value.cells, List.getElem?_cons_zero, List.getElem?_cons_succ, List.length_cons, List.length_nil, Nat.reduceAdd, Nat.reduceSub, Nat.reduceLT, Nat.reduceEqDiff, decide_true, cond_true, Option.map_some, if_true, if_false, Nat.add_one_sub_one, Nat.succ_ne_zero, reduceCtorEq, OfNat.ofNat]; rfl)) ?_) | (with_reducible refine bda_of (by with_unfolding_all rfl) ?_) | (simp -dsimp only [↓cw_ret, ↓seqK_normal, ↓getK_same, ↓getK_ne, ↓evK_tmp, ↓condV_var, ↓opsW_nil, ↓opsW_d, ↓opW_assign, ↓opW_pick, ↓resK_one, brK_true, ne_eq, Nat.reduceEqDiff, not_false_eq_true]))
end Go.Proofs.YtjcmcoabckkjoaaDoor.Li

