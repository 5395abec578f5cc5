/- 'once': which views are tried. Conditions: each theorem's own. -/
import Derived.Test.YtdjnedamphifcaaWC
set_option linter.unusedSimpArgs false
set_option linter.unusedVariables false
namespace Go.Proofs.Ytdjnedamphifcaa
open Go.Ev
set_option maxRecDepth 100000
set_option maxHeartbeats 400000
def lensUp (d : ViewD) (k : Nat) : Nat := ((d.rings.take k).map (·.l.length)).sum
theorem lensUp_succ {d : ViewD} {k : Nat} (h : k < d.rings.length) : lensUp d (k + 1) = lensUp d k + d.rings[k].l.length := by
  unfold lensUp
  rw [List.take_succ_eq_append_getElem h]
  simp only [List.map_append, List.sum_append, List.map_cons, List.map_nil, List.sum_cons, List.sum_nil, Nat.add_zero]
theorem lensUp_le {d : ViewD} (hr : Ranges d) : ∀ k, lensUp d k ≤ k * 281474976710656
  | 0 => by simp [lensUp]
  | k + 1 => by
    by_cases h : k < d.rings.length
    · rw [lensUp_succ h]
      have := lensUp_le hr k
      have := hr.ring _ (List.getElem_mem h)
      omega
    · have := lensUp_le hr k
      have e : lensUp d (k + 1) = lensUp d k := by
        unfold lensUp
        rw [List.take_of_length_le (by omega), List.take_of_length_le (by omega)]
      omega
theorem once_ret {B : Nat} {a : VA} {d : ViewD} {h : Heap} {K : Value → Heap → Prop} (hr : Ranges d) (hB : B ≤ h.n) (hv : VOK B h a d)
    (hK : ∀ b h', (b = true → OnceP d) → ExtB h.n h h' → K (.bool b) h') : Ret env (.func 12) [.agg ⟨vcells a d⟩] h K := by
  obtain ⟨l1, l2, l3, l4, l5, l6⟩ := hr.len
  refine F12 rfl ?_
  simp -dsimp only [↓cw_ops, ↓cw_seq, ↓cw_block, ↓seqK_normal, ↓getK_same, ↓evK_tmp, ↓evK_int, ↓evK_bool, ↓opsW_nil, ↓opsW_d, ↓opW_assign, ↓setAll_cons, ↓setAll_nil, ↓opW_box, ↓box_agg, ↓s12_47_w, ↓s12_48_w, ↓r12_49_w, ↓s12_50_w, ↓s12_51_w, ↓r12_52_w, ↓s12_53_w, true_and, vcells_one a d]
  have V := VBox.new h a d 45
  have X : ExtB h.n h (newBlk h (.cells (vcells a d) 45 true)) := ExtB.new _ (Nat.le_refl _)
  generalize newBlk h (.cells (vcells a d) 45 true) = h1 at V X ⊢
  have hv := hv.ext (X.mono hB)
  have d1 := V.get 1 _ rfl
  have d5 := V.get 5 _ rfl
  have d6 := V.get 6 _ rfl
  have d7 := V.get 7 _ rfl
  have d10 := V.get 10 _ rfl
  have d11 := V.get 11 _ rfl
  have no : ∀ h', ExtB h.n h h' → K (.bool false) h' := fun h' x => hK false h' (fun e => by cases e) x
  refine cw_loopI (fun n fr h' => h1 = h' ∧ ∃ k : Nat, k ≤ d.tasks.length ∧ k ≤ 21 ∧ n = 21 - k ∧ fr.get 3 = some (.int .i64 k) ∧ (∀ i (hi : i < d.tasks.length), i < k → 0 ≤ d.tasks[i].idx) ∧
    (∀ i (hi : i < d.tasks.length) j (hj : j < d.tasks.length), i < j → j < k → d.tasks[i].idx ≠ d.tasks[j].idx)) 21 ?_ (by omega) ?_
  · exact ⟨rfl, 0, by omega, by omega, by omega, by simp [T.get_set], fun i _ h => by omega, fun i _ j _ _ h => by omega⟩
  rintro n fr h' ⟨rfl, k, hk, hk1, rfl, g3, hpos, hne⟩ hag
  have e3 := getK_of g3
  have a1 := getK_eq (hag 1 rfl)
  by_cases hlt : k < d.tasks.length ∧ k ≤ 20
  · obtain ⟨b0, off, hra, hb, dd⟩ := hv.tasks k (by simpa using hlt.1)
    simp only [List.getElem_map, TaskD.cells] at dd
    have d0 := cellAt_of dd (j := 0) rfl
    simp only [Nat.add_zero] at d0
    have d1' := d1
    rw [hra] at d1'
    repeat' (first | done | ((with_reducible refine brK_yes ?_ ?_); (· omega)) | ((with_reducible refine brK_no ?_ ?_); (· omega)) | (with_reducible refine brK_both (fun _ => ?_) (fun _ => ?_)) | ((with_reducible refine And.intro (And.intro ?_ ?_) ?_); (· omega); (· omega)) | ((with_reducible refine And.intro ?_ ?_); (· omega)) | ((with_reducible refine st_newM ?_ ?_); (· rfl)) | ((with_reducible refine bs_oneM ?_ ?_); (· rfl)) | (with_reducible refine bd_of (by with_unfolding_all (simp only [fillL_cons, fillL_nil, nth_eq, blt_eq, cond_beq, over, Value.cells, List.getElem?_cons_zero, List.getElem?_cons_succ, List.length_cons, List.length_nil, Nat.reduceAdd, Nat.reduceSub, Nat.reduceLT, Nat.reduceEqDiff, decide_true, cond_true, Option.map_some, if_true, if_false, Nat.add_one_sub_one, Nat.succ_ne_zero, reduceCtorEq, OfNat.ofNat]; rfl)) ?_) | (with_reducible refine bda_of (by with_unfolding_all rfl) ?_) | (simp -dsimp only [↓cw_skip, ↓cw_ops, ↓cw_seq, ↓cw_block, ↓cw_ret, ↓cw_cond, ↓seqK_normal, ↓seqK_ret, ↓blockK_ret, ↓loopK_ret, ↓getK_same, ↓getK_ne, ↓evK_tmp, ↓evK_int, ↓evK_bool, ↓condV_var, ↓gdV_var, ↓opsW_nil, ↓opsW_d, ↓opsW_gd, ↓opW_move, ↓opW_assign, ↓opW_pick, ↓opW_bin, ↓bin_lss, ↓bin_leq, ↓ld1_some, ↓fldA_some, ↓idxS_some, ↓lenS_some, ↓resK_one, ↓fa_45_1, ↓ld_34, ↓len_34, ↓ia_34, ↓fa_66_0, ↓fa_59_0, ↓ld_3, ↓s12_32_w, ↓s12_33_w, ↓r12_34_w, ↓s12_35_w, ↓r12_36_w, ↓s12_37_w, ↓s12_38_w, ↓r12_39_w, ↓s12_40_w, ↓s12_41_w, ↓s12_42_w, ↓s12_43_w, ↓r12_44_w, ↓s12_45_w, ↓s12_46_w, onV_some', brK_true, brK_false, ne_eq, Nat.reduceEqDiff, Nat.reduceAdd, not_false_eq_true, Nat.add_zero, Addr.add_lit, Int.toNat_natCast, Bool.false_eq_true,  ↓e3, ↓a1, ↓d1', d0]))
    · exact no _ X
    · rename_i hp
      refine cw_loopI (fun n fr h' => h1 = h' ∧ ∃ m : Nat, m ≤ k ∧ n = k - m ∧ fr.get 4 = some (.int .i64 m) ∧ (∀ i (hi : i < d.tasks.length), i < m → d.tasks[i].idx ≠ (d.tasks[k]'hlt.1).idx)) k ?_ (by omega) ?_
      · exact ⟨rfl, 0, by omega, by omega, by simp [T.get_set], fun i _ h => by omega⟩
      rintro n fr2 h' ⟨rfl, m, hm, rfl, g4, hne2⟩ hag2
      have e4 := getK_of g4
      have b1 := getK_eq (hag2 1 rfl)
      have b3 := getK_eq (hag2 3 rfl)
      by_cases hlt2 : m < k
      · obtain ⟨b2', off2, hra2, hb2, dd2⟩ := hv.tasks m (by simp; omega)
        simp only [List.getElem_map, TaskD.cells] at dd2
        rw [hra] at hra2
        cases hra2
        have d0' := cellAt_of dd2 (j := 0) rfl
        simp only [Nat.add_zero] at d0'
        repeat' (first | done | ((with_reducible refine brK_yes ?_ ?_); (· omega)) | ((with_reducible refine brK_no ?_ ?_); (· omega)) | (with_reducible refine brK_both (fun _ => ?_) (fun _ => ?_)) | ((with_reducible refine And.intro (And.intro ?_ ?_) ?_); (· omega); (· omega)) | ((with_reducible refine And.intro ?_ ?_); (· omega)) | ((with_reducible refine st_newM ?_ ?_); (· rfl)) | ((with_reducible refine bs_oneM ?_ ?_); (· rfl)) | (with_reducible refine bd_of (by with_unfolding_all (simp only [fillL_cons, fillL_nil, nth_eq, blt_eq, cond_beq, over, Value.cells, List.getElem?_cons_zero, List.getElem?_cons_succ, List.length_cons, List.length_nil, Nat.reduceAdd, Nat.reduceSub, Nat.reduceLT, Nat.reduceEqDiff, decide_true, cond_true, Option.map_some, if_true, if_false, Nat.add_one_sub_one, Nat.succ_ne_zero, reduceCtorEq, OfNat.ofNat]; rfl)) ?_) | (with_reducible refine bda_of (by with_unfolding_all rfl) ?_) | (simp -dsimp only [↓cw_skip, ↓cw_ops, ↓cw_plan, ↓cw_seq, ↓cw_block, ↓cw_ret, ↓cw_cond, ↓seqK_normal, ↓seqK_ret, ↓blockK_normal, ↓blockK_ret, ↓loopK_normal, ↓loopK_ret, ↓getK_same, ↓getK_ne, ↓evK_tmp, ↓evK_int, ↓evK_bool, ↓condV_var, ↓opsW_nil, ↓opsW_d, ↓planW_nil, ↓planW_d, ↓agK_nil, ↓opW_move, ↓opW_assign, ↓opW_bin, ↓bin_add, ↓bin_eql, ↓bin_lss, ↓ld1_some, ↓fldA_some, ↓idxS_some, ↓resK_one, ↓fa_45_1, ↓ld_34, ↓ia_34, ↓fa_66_0, ↓fa_59_0, ↓ld_3, ↓r12_20_w, ↓s12_21_w, ↓r12_22_w, ↓s12_23_w, ↓s12_24_w, ↓p12_25_w, ↓s12_26_w, ↓s12_27_w, ↓s12_28_w, ↓r12_29_w, ↓s12_30_w, ↓s12_31_w, onV_some', brK_true, brK_false, Nat.le_refl, true_and, ne_eq, Nat.reduceEqDiff, Nat.reduceAdd, not_false_eq_true, Nat.add_zero, Addr.add_lit, Int.toNat_natCast, Bool.false_eq_true,  ↓e3, ↓e4, ↓b1, ↓b3, ↓a1, ↓d1', d0, d0']))
        · exact no _ X
        · rename_i hn
          refine ⟨k - (m + 1), by omega, m + 1, by omega, rfl, by simp [T.get_set, wrap_succ (show m ≤ 4611686018427387904 by omega)], fun i hi him => ?_⟩
          by_cases hi' : i < m
          · exact hne2 i hi hi'
          · have : i = m := by omega
            subst this
            exact fun e => hn e.symm
      · have e : m = k := by omega
        subst e
        repeat' (first | done | ((with_reducible refine brK_yes ?_ ?_); (· omega)) | ((with_reducible refine brK_no ?_ ?_); (· omega)) | (with_reducible refine brK_both (fun _ => ?_) (fun _ => ?_)) | ((with_reducible refine And.intro (And.intro ?_ ?_) ?_); (· omega); (· omega)) | ((with_reducible refine And.intro ?_ ?_); (· omega)) | ((with_reducible refine st_newM ?_ ?_); (· rfl)) | ((with_reducible refine bs_oneM ?_ ?_); (· rfl)) | (with_reducible refine bd_of (by with_unfolding_all (simp only [fillL_cons, fillL_nil, nth_eq, blt_eq, cond_beq, over, Value.cells, List.getElem?_cons_zero, List.getElem?_cons_succ, List.length_cons, List.length_nil, Nat.reduceAdd, Nat.reduceSub, Nat.reduceLT, Nat.reduceEqDiff, decide_true, cond_true, Option.map_some, if_true, if_false, Nat.add_one_sub_one, Nat.succ_ne_zero, reduceCtorEq, OfNat.ofNat]; rfl)) ?_) | (with_reducible refine bda_of (by with_unfolding_all rfl) ?_) | (simp -dsimp only [↓cw_ops, ↓cw_seq, ↓cw_exit, ↓cw_cond, ↓seqK_normal, ↓seqK_exit, ↓blockK_normal, ↓blockK_same, ↓loopK_normal, ↓loopK_exit, ↓getK_same, ↓getK_ne, ↓evK_tmp, ↓evK_int, ↓condV_var, ↓opsW_nil, ↓opsW_d, ↓opW_move, ↓opW_assign, ↓opW_bin, ↓bin_add, ↓bin_lss, ↓r12_18_w, ↓s12_19_w, ↓s12_28_w, ↓r12_29_w, ↓s12_30_w, ↓s12_31_w, brK_false, true_and, ne_eq, Nat.reduceEqDiff, not_false_eq_true, Bool.false_eq_true,  ↓e3, ↓e4, ↓b3]))
        refine ⟨21 - (m + 1), by omega, m + 1, by omega, by omega, rfl, by simp [T.get_set, wrap_succ (show m ≤ 4611686018427387904 by omega)], fun i hi him => ?_, fun i hi j hj hij hjm => ?_⟩
        · by_cases hi' : i < m
          · exact hpos i hi hi'
          · have : i = m := by omega
            subst this
            omega
        · by_cases hj' : j < m
          · exact hne i hi j hj hij hj'
          · have : j = m := by omega
            subst this
            exact hne2 i hi hij
  have hA : d.tasks.length ≤ 20 → (∀ x ∈ d.tasks, 0 ≤ x.idx) ∧ (d.tasks.map TaskD.idx).Nodup := by
    intro h20
    have : k = d.tasks.length := by omega
    subst this
    refine ⟨fun x hx => ?_, ?_⟩
    · obtain ⟨i, hi, rfl⟩ := List.getElem_of_mem hx
      exact hpos i hi hi
    · rw [List.nodup_iff_pairwise_ne, List.pairwise_iff_getElem]
      intro i j hi hj hij
      simp only [List.length_map] at hi hj
      simp only [List.getElem_map]
      exact hne i hi j hj hij hj
  have tail : ∀ fr2 : Fr, (∀ K, getK fr2 1 K = K (.pointer (some ⟨h.n, 0, none⟩))) → s12_17.wp env 104 none fr2 h1 (resK env [.tmp 2] K) := by
    intro fr2 f1
    repeat' (first | done | ((with_reducible refine brK_yes ?_ ?_); (· omega)) | ((with_reducible refine brK_no ?_ ?_); (· omega)) | (with_reducible refine brK_both (fun _ => ?_) (fun _ => ?_)) | ((with_reducible refine And.intro (And.intro ?_ ?_) ?_); (· omega); (· omega)) | ((with_reducible refine And.intro ?_ ?_); (· omega)) | ((with_reducible refine st_newM ?_ ?_); (· rfl)) | ((with_reducible refine bs_oneM ?_ ?_); (· rfl)) | (with_reducible refine bd_of (by with_unfolding_all (simp only [fillL_cons, fillL_nil, nth_eq, blt_eq, cond_beq, over, Value.cells, List.getElem?_cons_zero, List.getElem?_cons_succ, List.length_cons, List.length_nil, Nat.reduceAdd, Nat.reduceSub, Nat.reduceLT, Nat.reduceEqDiff, decide_true, cond_true, Option.map_some, if_true, if_false, Nat.add_one_sub_one, Nat.succ_ne_zero, reduceCtorEq, OfNat.ofNat]; rfl)) ?_) | (with_reducible refine bda_of (by with_unfolding_all rfl) ?_) | (simp -dsimp only [↓cw_ops, ↓cw_seq, ↓cw_block, ↓seqK_normal, ↓getK_same, ↓getK_ne, ↓evK_tmp, ↓evK_int, ↓opsW_nil, ↓opsW_d, ↓opW_assign, ↓opW_bin, ↓bin_add, ↓ld1_some, ↓fldA_some, ↓lenS_some, ↓fa_45_5, ↓fa_42_5, ↓ld_38, ↓len_38, ↓fa_45_6, ↓ld_43, ↓len_43, ↓s12_11_w, ↓s12_12_w, ↓r12_13_w, ↓s12_14_w, ↓s12_15_w, ↓r12_16_w, ↓s12_17_w, onV_some', ne_eq, Nat.reduceEqDiff, Nat.reduceAdd, not_false_eq_true, Addr.add_lit, ↓f1, ↓d10, ↓d11]))
    have hw0 : IntKind.wrap .i64 ((d.global.length : Int) + (d.timers.length : Int)) = ((d.global.length + d.timers.length + lensUp d 0 : Nat) : Int) := by
      rw [wrap_i64 (by omega) (by omega)]; simp [lensUp]
    rw [hw0]
    refine cw_loopI (fun n fr h' => h1 = h' ∧ ∃ k : Nat, k ≤ d.rings.length ∧ k ≤ 9 ∧ n = 9 - k ∧ fr.get 6 = some (.int .i64 k) ∧ fr.get 5 = some (.int .i64 ((d.global.length + d.timers.length + lensUp d k : Nat) : Int))) 9 ?_ (by omega) ?_
    · exact ⟨rfl, 0, by omega, by omega, by omega, by simp [T.get_set], by simp [T.get_set]⟩
    rintro n fr3 h' ⟨rfl, k, hk, hk1, rfl, g6, g5⟩ hag2
    have e6 := getK_of g6
    have e5 := getK_of g5
    have b1 := getK_eq (hag2 1 rfl)
    have hlu := lensUp_le hr k
    have fin : ∀ fr3 : Fr, (d.rings.length ≤ 8 → k = d.rings.length) → (∀ K, getK fr3 1 K = K (.pointer (some ⟨h.n, 0, none⟩))) → (∀ K, getK fr3 5 K = K (.int .i64 ((d.global.length + d.timers.length + lensUp d k : Nat) : Int))) → s12_1.wp env 104 none fr3 h1 (resK env [.tmp 2] K) := by
      intro fr3 hk8 f1 f5
      repeat' (first | done | ((with_reducible refine brK_yes ?_ ?_); (· omega)) | ((with_reducible refine brK_no ?_ ?_); (· omega)) | (with_reducible refine brK_both (fun _ => ?_) (fun _ => ?_)) | ((with_reducible refine And.intro (And.intro ?_ ?_) ?_); (· omega); (· omega)) | ((with_reducible refine And.intro ?_ ?_); (· omega)) | ((with_reducible refine st_newM ?_ ?_); (· rfl)) | ((with_reducible refine bs_oneM ?_ ?_); (· rfl)) | (with_reducible refine bd_of (by with_unfolding_all (simp only [fillL_cons, fillL_nil, nth_eq, blt_eq, cond_beq, over, Value.cells, List.getElem?_cons_zero, List.getElem?_cons_succ, List.length_cons, List.length_nil, Nat.reduceAdd, Nat.reduceSub, Nat.reduceLT, Nat.reduceEqDiff, decide_true, cond_true, Option.map_some, if_true, if_false, Nat.add_one_sub_one, Nat.succ_ne_zero, reduceCtorEq, OfNat.ofNat]; rfl)) ?_) | (with_reducible refine bda_of (by with_unfolding_all rfl) ?_) | (simp -dsimp only [↓cw_ops, ↓cw_seq, ↓cw_ret, ↓seqK_normal, ↓getK_same, ↓getK_ne, ↓evK_tmp, ↓evK_int, ↓evK_bool, ↓condV_var, ↓gdV_var, ↓opsW_nil, ↓opsW_d, ↓opsW_gd, ↓opW_move, ↓opW_assign, ↓opW_pick, ↓opW_bin, ↓bin_leq, ↓ld1_some, ↓fldA_some, ↓lenS_some, ↓resK_one, ↓fa_45_1, ↓ld_34, ↓len_34, ↓fa_45_5, ↓ld_38, ↓len_38, ↓fa_42_2, ↓ld_39, ↓len_39, ↓fa_42_0, ↓fa_42_1, ↓r12_0_w, ↓s12_1_w, onV_some', brK_true, brK_false, ne_eq, Nat.reduceEqDiff, Nat.reduceAdd, not_false_eq_true, Nat.add_zero, Addr.add_lit, Bool.false_eq_true,  ↓f1, ↓f5, ↓d1, ↓d5, ↓d6, ↓d7]))
      all_goals first | exact no _ X | skip
      rename_i c1 c2 c3 c4 c5
      refine hK _ _ (fun _ => ?_) X
      obtain ⟨p1, p2⟩ := hA (by omega)
      have := hk8 (by omega)
      subst this
      have hs : (d.rings.map (·.l.length)).sum = lensUp d d.rings.length := by unfold lensUp; rw [List.take_length]
      exact ⟨by omega, p1, p2, by omega, by omega, by omega, by rw [hs]; omega⟩
    by_cases hlt : k < d.rings.length ∧ k ≤ 8
    · obtain ⟨b0, off, hra, hb, dd⟩ := hv.rings k (by simpa using hlt.1)
      simp only [List.getElem_map, RingD.cells] at dd
      have d0 := cellAt_of dd (j := 0) rfl
      simp only [Nat.add_zero] at d0
      have d7' := d7
      rw [hra] at d7'
      have hsu := lensUp_succ hlt.1
      have hrl := hr.ring _ (List.getElem_mem hlt.1)
      repeat' (first | done | ((with_reducible refine brK_yes ?_ ?_); (· omega)) | ((with_reducible refine brK_no ?_ ?_); (· omega)) | (with_reducible refine brK_both (fun _ => ?_) (fun _ => ?_)) | ((with_reducible refine And.intro (And.intro ?_ ?_) ?_); (· omega); (· omega)) | ((with_reducible refine And.intro ?_ ?_); (· omega)) | ((with_reducible refine st_newM ?_ ?_); (· rfl)) | ((with_reducible refine bs_oneM ?_ ?_); (· rfl)) | (with_reducible refine bd_of (by with_unfolding_all (simp only [fillL_cons, fillL_nil, nth_eq, blt_eq, cond_beq, over, Value.cells, List.getElem?_cons_zero, List.getElem?_cons_succ, List.length_cons, List.length_nil, Nat.reduceAdd, Nat.reduceSub, Nat.reduceLT, Nat.reduceEqDiff, decide_true, cond_true, Option.map_some, if_true, if_false, Nat.add_one_sub_one, Nat.succ_ne_zero, reduceCtorEq, OfNat.ofNat]; rfl)) ?_) | (with_reducible refine bda_of (by with_unfolding_all rfl) ?_) | (simp -dsimp only [↓cw_skip, ↓cw_ops, ↓cw_seq, ↓cw_block, ↓cw_cond, ↓seqK_normal, ↓blockK_normal, ↓loopK_normal, ↓getK_same, ↓getK_ne, ↓evK_tmp, ↓evK_int, ↓condV_var, ↓gdV_var, ↓opsW_nil, ↓opsW_d, ↓opsW_gd, ↓opW_move, ↓opW_assign, ↓opW_pick, ↓opW_bin, ↓bin_add, ↓bin_lss, ↓bin_leq, ↓ld1_some, ↓fldA_some, ↓idxS_some, ↓lenS_some, ↓fa_45_5, ↓ld_38, ↓len_38, ↓fa_42_2, ↓ld_39, ↓len_39, ↓ia_39, ↓r12_2_w, ↓s12_3_w, ↓r12_4_w, ↓s12_5_w, ↓s12_6_w, ↓s12_7_w, ↓r12_8_w, ↓s12_9_w, ↓s12_10_w, onV_some', brK_true, true_and, ne_eq, Nat.reduceEqDiff, Nat.reduceAdd, not_false_eq_true, Addr.add_lit, Int.toNat_natCast, ↓e6, ↓e5, ↓b1, ↓f1, ↓d7', d0]))
      refine ⟨9 - (k + 1), by omega, k + 1, by omega, by omega, rfl, by simp [T.get_set, wrap_succ (show k ≤ 4611686018427387904 by omega)], ?_⟩
      simp only [T.get_set]
      simp
      rw [wrap_i64 (by omega) (by omega), hsu]
      omega
    · by_cases hk2 : k < d.rings.length
      · repeat' (first | done | ((with_reducible refine brK_yes ?_ ?_); (· omega)) | ((with_reducible refine brK_no ?_ ?_); (· omega)) | (with_reducible refine brK_both (fun _ => ?_) (fun _ => ?_)) | ((with_reducible refine And.intro (And.intro ?_ ?_) ?_); (· omega); (· omega)) | ((with_reducible refine And.intro ?_ ?_); (· omega)) | ((with_reducible refine st_newM ?_ ?_); (· rfl)) | ((with_reducible refine bs_oneM ?_ ?_); (· rfl)) | (with_reducible refine bd_of (by with_unfolding_all (simp only [fillL_cons, fillL_nil, nth_eq, blt_eq, cond_beq, over, Value.cells, List.getElem?_cons_zero, List.getElem?_cons_succ, List.length_cons, List.length_nil, Nat.reduceAdd, Nat.reduceSub, Nat.reduceLT, Nat.reduceEqDiff, decide_true, cond_true, Option.map_some, if_true, if_false, Nat.add_one_sub_one, Nat.succ_ne_zero, reduceCtorEq, OfNat.ofNat]; rfl)) ?_) | (with_reducible refine bda_of (by with_unfolding_all rfl) ?_) | (simp -dsimp only [↓cw_ops, ↓cw_seq, ↓cw_exit, ↓cw_cond, ↓seqK_normal, ↓seqK_exit, ↓blockK_same, ↓loopK_exit, ↓getK_same, ↓getK_ne, ↓evK_tmp, ↓evK_int, ↓condV_var, ↓gdV_var, ↓opsW_nil, ↓opsW_d, ↓opsW_gd, ↓opW_move, ↓opW_pick, ↓opW_bin, ↓bin_lss, ↓bin_leq, ↓ld1_some, ↓fldA_some, ↓lenS_some, ↓fa_45_5, ↓fa_42_2, ↓ld_39, ↓len_39, ↓s12_7_w, ↓r12_8_w, ↓s12_9_w, ↓s12_10_w, onV_some', brK_true, brK_false, ne_eq, Nat.reduceEqDiff, Nat.reduceAdd, not_false_eq_true, Addr.add_lit, Bool.false_eq_true,  ↓e6, ↓b1, ↓f1, ↓d7]))
        refine fin _ (fun _ => by omega) ?_ ?_
        · intro K; simp -dsimp only [getK_ne, ne_eq, Nat.reduceEqDiff, not_false_eq_true, ↓b1, ↓f1]
        · intro K; simp -dsimp only [getK_ne, ne_eq, Nat.reduceEqDiff, not_false_eq_true, ↓e5]
      · repeat' (first | done | ((with_reducible refine brK_yes ?_ ?_); (· omega)) | ((with_reducible refine brK_no ?_ ?_); (· omega)) | (with_reducible refine brK_both (fun _ => ?_) (fun _ => ?_)) | ((with_reducible refine And.intro (And.intro ?_ ?_) ?_); (· omega); (· omega)) | ((with_reducible refine And.intro ?_ ?_); (· omega)) | ((with_reducible refine st_newM ?_ ?_); (· rfl)) | ((with_reducible refine bs_oneM ?_ ?_); (· rfl)) | (with_reducible refine bd_of (by with_unfolding_all (simp only [fillL_cons, fillL_nil, nth_eq, blt_eq, cond_beq, over, Value.cells, List.getElem?_cons_zero, List.getElem?_cons_succ, List.length_cons, List.length_nil, Nat.reduceAdd, Nat.reduceSub, Nat.reduceLT, Nat.reduceEqDiff, decide_true, cond_true, Option.map_some, if_true, if_false, Nat.add_one_sub_one, Nat.succ_ne_zero, reduceCtorEq, OfNat.ofNat]; rfl)) ?_) | (with_reducible refine bda_of (by with_unfolding_all rfl) ?_) | (simp -dsimp only [↓cw_ops, ↓cw_seq, ↓cw_exit, ↓cw_cond, ↓seqK_normal, ↓seqK_exit, ↓blockK_same, ↓loopK_exit, ↓getK_same, ↓getK_ne, ↓evK_tmp, ↓evK_bool, ↓condV_var, ↓gdV_var, ↓opsW_nil, ↓opsW_d, ↓opsW_gd, ↓opW_move, ↓opW_pick, ↓opW_bin, ↓bin_lss, ↓ld1_some, ↓fldA_some, ↓lenS_some, ↓fa_45_5, ↓fa_42_2, ↓ld_39, ↓len_39, ↓s12_7_w, ↓r12_8_w, ↓s12_9_w, ↓s12_10_w, onV_some', brK_false, ne_eq, Nat.reduceEqDiff, Nat.reduceAdd, not_false_eq_true, Addr.add_lit, Bool.false_eq_true,  ↓e6, ↓b1, ↓f1, ↓d7]))
        refine fin _ (fun _ => by omega) ?_ ?_
        · intro K; simp -dsimp only [getK_ne, ne_eq, Nat.reduceEqDiff, not_false_eq_true, ↓b1, ↓f1]
        · intro K; simp -dsimp only [getK_ne, ne_eq, Nat.reduceEqDiff, not_false_eq_true, ↓e5]
  by_cases hk2 : k < d.tasks.length
  · repeat' (first | done | ((with_reducible refine brK_yes ?_ ?_); (· omega)) | ((with_reducible refine brK_no ?_ ?_); (· omega)) | (with_reducible refine brK_both (fun _ => ?_) (fun _ => ?_)) | ((with_reducible refine And.intro (And.intro ?_ ?_) ?_); (· omega); (· omega)) | ((with_reducible refine And.intro ?_ ?_); (· omega)) | ((with_reducible refine st_newM ?_ ?_); (· rfl)) | ((with_reducible refine bs_oneM ?_ ?_); (· rfl)) | (with_reducible refine bd_of (by with_unfolding_all (simp only [fillL_cons, fillL_nil, nth_eq, blt_eq, cond_beq, over, Value.cells, List.getElem?_cons_zero, List.getElem?_cons_succ, List.length_cons, List.length_nil, Nat.reduceAdd, Nat.reduceSub, Nat.reduceLT, Nat.reduceEqDiff, decide_true, cond_true, Option.map_some, if_true, if_false, Nat.add_one_sub_one, Nat.succ_ne_zero, reduceCtorEq, OfNat.ofNat]; rfl)) ?_) | (with_reducible refine bda_of (by with_unfolding_all rfl) ?_) | (simp -dsimp only [↓cw_ops, ↓cw_seq, ↓cw_exit, ↓cw_cond, ↓seqK_normal, ↓seqK_exit, ↓blockK_same, ↓loopK_exit, ↓getK_same, ↓getK_ne, ↓evK_tmp, ↓evK_int, ↓condV_var, ↓gdV_var, ↓opsW_nil, ↓opsW_d, ↓opsW_gd, ↓opW_move, ↓opW_pick, ↓opW_bin, ↓bin_lss, ↓bin_leq, ↓ld1_some, ↓fldA_some, ↓lenS_some, ↓fa_45_1, ↓ld_34, ↓len_34, ↓s12_43_w, ↓r12_44_w, ↓s12_45_w, ↓s12_46_w, onV_some', brK_true, brK_false, ne_eq, Nat.reduceEqDiff, Nat.reduceAdd, not_false_eq_true, Addr.add_lit, Bool.false_eq_true,  ↓e3, ↓a1, ↓d1]))
    refine tail _ ?_
    intro K; simp -dsimp only [getK_ne, getK_same, ne_eq, Nat.reduceEqDiff, not_false_eq_true, ↓a1]
  · repeat' (first | done | ((with_reducible refine brK_yes ?_ ?_); (· omega)) | ((with_reducible refine brK_no ?_ ?_); (· omega)) | (with_reducible refine brK_both (fun _ => ?_) (fun _ => ?_)) | ((with_reducible refine And.intro (And.intro ?_ ?_) ?_); (· omega); (· omega)) | ((with_reducible refine And.intro ?_ ?_); (· omega)) | ((with_reducible refine st_newM ?_ ?_); (· rfl)) | ((with_reducible refine bs_oneM ?_ ?_); (· rfl)) | (with_reducible refine bd_of (by with_unfolding_all (simp only [fillL_cons, fillL_nil, nth_eq, blt_eq, cond_beq, over, Value.cells, List.getElem?_cons_zero, List.getElem?_cons_succ, List.length_cons, List.length_nil, Nat.reduceAdd, Nat.reduceSub, Nat.reduceLT, Nat.reduceEqDiff, decide_true, cond_true, Option.map_some, if_true, if_false, Nat.add_one_sub_one, Nat.succ_ne_zero, reduceCtorEq, OfNat.ofNat]; rfl)) ?_) | (with_reducible refine bda_of (by with_unfolding_all rfl) ?_) | (simp -dsimp only [↓cw_ops, ↓cw_seq, ↓cw_exit, ↓cw_cond, ↓seqK_normal, ↓seqK_exit, ↓blockK_same, ↓loopK_exit, ↓getK_same, ↓getK_ne, ↓evK_tmp, ↓evK_bool, ↓condV_var, ↓gdV_var, ↓opsW_nil, ↓opsW_d, ↓opsW_gd, ↓opW_move, ↓opW_pick, ↓opW_bin, ↓bin_lss, ↓ld1_some, ↓fldA_some, ↓lenS_some, ↓fa_45_1, ↓ld_34, ↓len_34, ↓s12_43_w, ↓r12_44_w, ↓s12_45_w, ↓s12_46_w, onV_some', brK_false, ne_eq, Nat.reduceEqDiff, Nat.reduceAdd, not_false_eq_true, Addr.add_lit, Bool.false_eq_true,  ↓e3, ↓a1, ↓d1]))
    refine tail _ ?_
    intro K; simp -dsimp only [getK_ne, getK_same, ne_eq, Nat.reduceEqDiff, not_false_eq_true, ↓a1]
end Go.Proofs.Ytdjnedamphifcaa
