/- 'counted': the timers. Conditions: each theorem's own. -/
import Derived.Test.YtdjnedamphifcaaWJ
set_option linter.unusedSimpArgs false
set_option linter.unusedVariables false
namespace Go.Proofs.Ytdjnedamphifcaa
open Go.Ev
set_option maxRecDepth 100000
set_option maxHeartbeats 400000
theorem same_int {k : IntKind} {n : Int} : (sameV 50 (.int k n) (.int k n) = true) = True := by simp [sameV]
theorem timers_phase2 {B i c r : Nat} {h : Heap} {a : VA} {d : ViewD} {Q R : List Int} {b : Bool} {fr : Fr} {K : Value → Heap → Prop} (ho : OnceP d) (x : CI B i c r h a d Q R []) (cf : CF fr i c) (f3 : fr.get 3 = some (.bool b)) (hQ : Q.length ≤ 500) (hR : R.length ≤ 8)
    (hK : ∀ h', MapAt kvI h' r (CMf Q R (d.timers.map TimerD.id)) → ExtB c h h' → K (.tuple #[.map (some r), .bool (b && allUp (fineTim d) d.timers.length)]) h') : s21_19.wp env 102 none fr h (resK env [.cell 2 67, .tmp 3] K) := by
  have hl : d.timers.length ≤ 200 := by have := ho.sum; omega
  have f1 := getK_of cf.f1
  have d11 := x.V.get 11 _ rfl
  repeat' (first | done | ((with_reducible refine brK_yes ?_ ?_); (· omega)) | ((with_reducible refine brK_no ?_ ?_); (· omega)) | (with_reducible refine brK_both (fun _ => ?_) (fun _ => ?_)) | ((with_reducible refine And.intro (And.intro ?_ ?_) ?_); (· omega); (· omega)) | ((with_reducible refine And.intro ?_ ?_); (· omega)) | ((with_reducible refine st_newM ?_ ?_); (· rfl)) | ((with_reducible refine bs_oneM ?_ ?_); (· rfl)) | (with_reducible refine bd_of (by with_unfolding_all (simp only [fillL_cons, fillL_nil, nth_eq, blt_eq, cond_beq, over, Value.cells, List.getElem?_cons_zero, List.getElem?_cons_succ, List.length_cons, List.length_nil, Nat.reduceAdd, Nat.reduceSub, Nat.reduceLT, Nat.reduceEqDiff, decide_true, cond_true, Option.map_some, if_true, if_false, Nat.add_one_sub_one, Nat.succ_ne_zero, reduceCtorEq, OfNat.ofNat]; rfl)) ?_) | (with_reducible refine bda_of (by with_unfolding_all rfl) ?_) | (simp -dsimp only [↓cw_ops, ↓cw_seq, ↓cw_block, ↓seqK_normal, ↓getK_same, ↓evK_tmp, ↓evK_int, ↓opsW_nil, ↓opsW_d, ↓opW_move, ↓ld1_some, ↓fldA_some, ↓lenS_some, ↓fa_45_6, ↓ld_43, ↓len_43, ↓s21_15_w, ↓s21_16_w, ↓r21_17_w, ↓s21_18_w, ↓s21_19_w, onV_some', Nat.reduceAdd, Addr.add_lit, ↓f1, d11]))
  refine cw_loopI (fun n fr' h' => ∃ k : Nat, k ≤ d.timers.length ∧ n = d.timers.length - k ∧ fr'.get 80 = some (.int .i64 k) ∧ fr'.get 3 = some (.bool (b && allUp (fineTim d) k)) ∧ CI B i c r h' a d Q R ((d.timers.map TimerD.id).take k) ∧ ExtB r h h') d.timers.length ?_ (by omega) ?_
  · exact ⟨0, by omega, by omega, by simp [T.get_set], by simpa [T.get_set, allUp] using f3, by simpa using x, ExtB.refl _ _⟩
  rintro n fr2 h' ⟨k, hk, rfl, gk, g3, x, X⟩ hag
  have ek := getK_of gk
  have e3 := getK_of g3
  have gt : ∀ t, s21_14.wr t = false → t < 70 → fr2.get t = fr.get t := fun t ht hlt => (hag t ht).trans (by simp only [T.get_set]; repeat' (first | rfl | (rw [if_neg (by omega)])))
  have a1 := getK_of ((gt 1 rfl (by decide)).trans cf.f1)
  have a2 := getK_of ((gt 2 rfl (by decide)).trans cf.f2)
  have a4 := getK_of ((gt 4 rfl (by decide)).trans cf.f4)
  have a6 := getK_of ((gt 6 rfl (by decide)).trans cf.f6)
  have a78 := getK_eq (hag 78 rfl)
  have a79 := getK_eq (hag 79 rfl)
  have hu := allUp_succ (fineTim d) k
  by_cases hlt : k < d.timers.length
  · obtain ⟨b0, off, hra, hb, dd⟩ := x.ok.timers k (by simpa using hlt)
    simp only [List.getElem_map, TimerD.cells] at dd
    have hk? : d.timers[k]? = some d.timers[k] := List.getElem?_eq_getElem hlt
    have hfk : fineTim d k = decide ((taskOf d.tasks d.timers[k].id).untl = d.timers[k].at_) := by unfold fineTim; rw [hk?]
    have hs : (d.timers.map TimerD.id).take (k + 1) = (d.timers.map TimerD.id).take k ++ [d.timers[k].id] := by
      rw [List.take_succ_eq_append_getElem (by simpa using hlt)]; simp only [List.getElem_map]
    have hb' : b0 < h'.n := by have := x.m.1; have := x.hB; omega
    rw [hra] at a78
    repeat' (first | done | ((with_reducible refine brK_yes ?_ ?_); (· omega)) | ((with_reducible refine brK_no ?_ ?_); (· omega)) | (with_reducible refine brK_both (fun _ => ?_) (fun _ => ?_)) | ((with_reducible refine And.intro (And.intro ?_ ?_) ?_); (· omega); (· omega)) | ((with_reducible refine And.intro ?_ ?_); (· omega)) | ((with_reducible refine st_newM ?_ ?_); (· rfl)) | ((with_reducible refine bs_oneM ?_ ?_); (· rfl)) | (with_reducible refine bd_of (by with_unfolding_all (simp only [fillL_cons, fillL_nil, nth_eq, blt_eq, cond_beq, over, Value.cells, List.getElem?_cons_zero, List.getElem?_cons_succ, List.length_cons, List.length_nil, Nat.reduceAdd, Nat.reduceSub, Nat.reduceLT, Nat.reduceEqDiff, decide_true, cond_true, Option.map_some, if_true, if_false, Nat.add_one_sub_one, Nat.succ_ne_zero, reduceCtorEq, OfNat.ofNat]; rfl)) ?_) | (with_reducible refine bda_of (by with_unfolding_all rfl) ?_) | (simp -dsimp only [↓cw_skip, ↓cw_ops, ↓cw_seq, ↓cw_block, ↓cw_cond, ↓seqK_normal, ↓getK_same, ↓getK_ne, ↓evK_tmp, ↓evK_func, ↓condV_var, ↓opsW_nil, ↓opsW_d, ↓opsW_n, ↓opW_move, ↓opW_bin, ↓bin_lss, ↓ld1_some, ↓ldN_some, ↓fldA_some, ↓idxS_some, ↓evs_nil, ↓evs_cons, ↓opW_callV, ↓callV_some, ↓ld_3, ↓ia_43, ↓fa_78_1, ↓ld_78, ↓al_78, ↓st_78, ↓r21_6_w, ↓s21_7_w, ↓r21_8_w, ↓s21_9_w, ↓s21_10_w, ↓s21_11_w, ↓s21_12_w, ↓r21_13_w, ↓s21_14_w, cellAt_newE, List.getElem?_cons_zero, List.getElem?_cons_succ, onV_some', brK_true, ne_eq, Nat.reduceEqDiff, Nat.reduceAdd, not_false_eq_true, Addr.add_lit, Int.toNat_natCast, ↓ek, ↓a4, ↓a78, ↓a79, dd]))
    have x1 := x.ext (ExtB.new (.cells [.int .u64 d.timers[k].at_, .int .i64 d.timers[k].id] 78 true) (Nat.le_refl _))
    have hrn := x.m.1
    refine add_ret inc52 x1.m (Nat.lt_trans x1.hc x1.m.1) x1.cm (by have := x.hc; omega) (by omega) (by omega) (by simp; omega) fun v h2 m2 hn2 hf2 => ?_
    have m3 := m2.congr (CMf_t _ _ _ _)
    rw [← hs] at m3
    obtain ⟨x2, e2⟩ := x1.upd hn2 hf2 m3
    have hb2 : h2.b.get h'.n = some (.cells [.int .u64 d.timers[k].at_, .int .i64 d.timers[k].id] 78 true) := by
      rw [hf2 _ (by simp [newBlk]) (by omega)]; exact newBlk_same _ _
    have hlt2 : h'.n < h2.n := by simp only [newBlk_n] at hn2; omega
    have t0 := cellAt_blk (off := 0) hlt2 hb2 rfl
    have t1 := cellAt_blk (off := 1) hlt2 hb2 rfl
    have e2' : ExtB r h' h2 := (ExtB.new _ (Nat.le_of_lt hrn)).trans e2
    cases hfb : (b && allUp (fineTim d) k) with
    | false =>
      rw [hfb] at e3
      repeat' (first | done | ((with_reducible refine brK_yes ?_ ?_); (· omega)) | ((with_reducible refine brK_no ?_ ?_); (· omega)) | (with_reducible refine brK_both (fun _ => ?_) (fun _ => ?_)) | ((with_reducible refine And.intro (And.intro ?_ ?_) ?_); (· omega); (· omega)) | ((with_reducible refine And.intro ?_ ?_); (· omega)) | ((with_reducible refine st_newM ?_ ?_); (· rfl)) | ((with_reducible refine bs_oneM ?_ ?_); (· rfl)) | (with_reducible refine bd_of (by with_unfolding_all (simp only [fillL_cons, fillL_nil, nth_eq, blt_eq, cond_beq, over, Value.cells, List.getElem?_cons_zero, List.getElem?_cons_succ, List.length_cons, List.length_nil, Nat.reduceAdd, Nat.reduceSub, Nat.reduceLT, Nat.reduceEqDiff, decide_true, cond_true, Option.map_some, if_true, if_false, Nat.add_one_sub_one, Nat.succ_ne_zero, reduceCtorEq, OfNat.ofNat]; rfl)) ?_) | (with_reducible refine bda_of (by with_unfolding_all rfl) ?_) | (simp -dsimp only [↓cw_ops, ↓cw_plan, ↓seqK_normal, ↓blockK_normal, ↓loopK_normal, ↓getK_same, ↓getK_ne, ↓evK_tmp, ↓evK_int, ↓evK_bool, ↓condV_var, ↓gdV_var, ↓opsW_nil, ↓opsW_d, ↓planW_nil, ↓planW_d, ↓planW_gd, ↓agK_nil, ↓opW_move, ↓opW_assign, ↓opW_pick, ↓opW_bin, ↓bin_add, ↓agK_loadG, ↓r21_2_w, ↓s21_3_w, ↓p21_4_w, ↓s21_5_w, brK_false, Nat.le_refl, true_and, and_true, ne_eq, Nat.reduceEqDiff, Nat.reduceAdd, not_false_eq_true, Addr.add_lit, Int.toNat_natCast, Bool.false_eq_true,  ↓ek, ↓e3]))
      exact ⟨d.timers.length - (k + 1), by omega, k + 1, by omega, rfl, by simp [T.get_set, wrap_succ (show k ≤ 4611686018427387904 by omega)], by simp only [T.get_set, hu, ← Bool.and_assoc, hfb]; simp, x2, X.trans e2'⟩
    | true =>
      rw [hfb] at e3
      repeat' (first | done | ((with_reducible refine brK_yes ?_ ?_); (· omega)) | ((with_reducible refine brK_no ?_ ?_); (· omega)) | (with_reducible refine brK_both (fun _ => ?_) (fun _ => ?_)) | ((with_reducible refine And.intro (And.intro ?_ ?_) ?_); (· omega); (· omega)) | ((with_reducible refine And.intro ?_ ?_); (· omega)) | ((with_reducible refine st_newM ?_ ?_); (· rfl)) | ((with_reducible refine bs_oneM ?_ ?_); (· rfl)) | (with_reducible refine bd_of (by with_unfolding_all (simp only [fillL_cons, fillL_nil, nth_eq, blt_eq, cond_beq, over, Value.cells, List.getElem?_cons_zero, List.getElem?_cons_succ, List.length_cons, List.length_nil, Nat.reduceAdd, Nat.reduceSub, Nat.reduceLT, Nat.reduceEqDiff, decide_true, cond_true, Option.map_some, if_true, if_false, Nat.add_one_sub_one, Nat.succ_ne_zero, reduceCtorEq, OfNat.ofNat]; rfl)) ?_) | (with_reducible refine bda_of (by with_unfolding_all rfl) ?_) | (simp -dsimp only [↓cw_plan, ↓seqK_normal, ↓getK_same, ↓getK_ne, ↓evK_tmp, ↓gdV_var, ↓opsW_nil, ↓planW_d, ↓planW_gd, ↓agK_nil, ↓opW_move, ↓ld1_some, ↓fldA_some, ↓evs_nil, ↓evs_cons, ↓opW_callV, ↓callV_some, ↓ld_3, ↓ld_22, ↓fa_78_1, ↓fa_78_0, ↓p21_4_w, ↓s21_5_w, onV_some', brK_true, Nat.le_refl, true_and, ne_eq, Nat.reduceEqDiff, Nat.reduceAdd, not_false_eq_true, Nat.add_zero, Addr.add_lit, ↓e3, ↓a6, t0, t1]))
      refine task_ret (B := B) ho (by have := x2.m.1; have := x2.hB; omega) x2.V x2.ok fun h3 y hy x3 => ?_
      have hy := task_is ho.nodup hy
      subst hy
      have t0' := cellAt_ext x3 hlt2 t0
      have hn3 := x3.n
      simp only [TaskD.g]
      repeat' (first | done | ((with_reducible refine brK_yes ?_ ?_); (· omega)) | ((with_reducible refine brK_no ?_ ?_); (· omega)) | (with_reducible refine brK_both (fun _ => ?_) (fun _ => ?_)) | ((with_reducible refine And.intro (And.intro ?_ ?_) ?_); (· omega); (· omega)) | ((with_reducible refine And.intro ?_ ?_); (· omega)) | ((with_reducible refine st_newM ?_ ?_); (· rfl)) | ((with_reducible refine bs_oneM ?_ ?_); (· rfl)) | (with_reducible refine bd_of (by with_unfolding_all (simp only [fillL_cons, fillL_nil, nth_eq, blt_eq, cond_beq, over, Value.cells, List.getElem?_cons_zero, List.getElem?_cons_succ, List.length_cons, List.length_nil, Nat.reduceAdd, Nat.reduceSub, Nat.reduceLT, Nat.reduceEqDiff, decide_true, cond_true, Option.map_some, if_true, if_false, Nat.add_one_sub_one, Nat.succ_ne_zero, reduceCtorEq, OfNat.ofNat]; rfl)) ?_) | (with_reducible refine bda_of (by with_unfolding_all rfl) ?_) | (simp -dsimp only [↓cw_ops, ↓seqK_normal, ↓blockK_normal, ↓loopK_normal, ↓getK_same, ↓getK_ne, ↓evK_tmp, ↓evK_int, ↓condV_var, ↓gdV_var, ↓opsW_nil, ↓opsW_d, ↓planW_nil, ↓planW_d, ↓planW_gd, ↓agK_nil, ↓opW_move, ↓opW_assign, ↓opW_pick, ↓opW_bin, ↓bin_add, ↓bin_eql, ↓ld1_some, ↓part_one, ↓agK_loadG, ↓agV_same, ↓agV_ne, ↓agl_22, ↓fd_64_9, ↓r21_2_w, ↓s21_3_w, List.getElem?_cons_zero, List.getElem?_cons_succ, onV_some', brK_true, Nat.le_refl, true_and, and_true, ne_eq, Nat.reduceEqDiff, Nat.reduceAdd, not_false_eq_true, Nat.add_zero, Addr.add_lit, Int.toNat_natCast, ↓ek, t0', same_int]))
      · rename_i he
        exact ⟨d.timers.length - (k + 1), by omega, k + 1, by omega, rfl, by simp [T.get_set, wrap_succ (show k ≤ 4611686018427387904 by omega)], by simp only [T.get_set, hu, ← Bool.and_assoc, hfb, hfk, he, decide_true]; simp, x2.ext x3, X.trans (e2'.trans (x3.mono (Nat.le_of_lt x2.m.1)))⟩
      · rename_i he
        exact ⟨d.timers.length - (k + 1), by omega, k + 1, by omega, rfl, by simp [T.get_set, wrap_succ (show k ≤ 4611686018427387904 by omega)], by simp only [T.get_set, hu, ← Bool.and_assoc, hfb, hfk, decide_eq_false he]; simp, x2.ext x3, X.trans (e2'.trans (x3.mono (Nat.le_of_lt x2.m.1)))⟩
  · have e : k = d.timers.length := by omega
    subst e
    rw [List.take_of_length_le (by simp)] at x
    have hcm := x.cm
    have hrn := x.m.1
    have hcr := x.hc
    repeat' (first | done | ((with_reducible refine brK_yes ?_ ?_); (· omega)) | ((with_reducible refine brK_no ?_ ?_); (· omega)) | (with_reducible refine brK_both (fun _ => ?_) (fun _ => ?_)) | ((with_reducible refine And.intro (And.intro ?_ ?_) ?_); (· omega); (· omega)) | ((with_reducible refine And.intro ?_ ?_); (· omega)) | ((with_reducible refine st_newM ?_ ?_); (· rfl)) | ((with_reducible refine bs_oneM ?_ ?_); (· rfl)) | (with_reducible refine bd_of (by with_unfolding_all (simp only [fillL_cons, fillL_nil, nth_eq, blt_eq, cond_beq, over, Value.cells, List.getElem?_cons_zero, List.getElem?_cons_succ, List.length_cons, List.length_nil, Nat.reduceAdd, Nat.reduceSub, Nat.reduceLT, Nat.reduceEqDiff, decide_true, cond_true, Option.map_some, if_true, if_false, Nat.add_one_sub_one, Nat.succ_ne_zero, reduceCtorEq, OfNat.ofNat]; rfl)) ?_) | (with_reducible refine bda_of (by with_unfolding_all rfl) ?_) | (simp -dsimp only [↓cw_ops, ↓cw_seq, ↓cw_exit, ↓cw_cond, ↓seqK_normal, ↓seqK_exit, ↓blockK_same, ↓loopK_exit, ↓getK_same, ↓getK_ne, ↓evK_tmp, ↓condV_var, ↓opsW_nil, ↓opsW_d, ↓opsW_n, ↓opW_move, ↓opW_bin, ↓bin_lss, ↓ld1_some, ↓st_67, ↓ld_67, ↓r21_0_w, ↓s21_1_w, ↓s21_11_w, ↓s21_12_w, ↓r21_13_w, ↓s21_14_w, onV_some', brK_false, ne_eq, Nat.reduceEqDiff, not_false_eq_true, Bool.false_eq_true,  ↓ek, ↓e3, ↓a2, ↓a79, hcm]))
    refine st_at (off := 0) (cs' := [.map (some r)]) x.cb rfl rfl rfl rfl (by decide) ?_
    have hb2 : ({ h' with b := h'.b.set c (.cells [.map (some r)] 67 true) } : Heap).b.get c = some (.cells [.map (some r)] 67 true) := by simp [T.get_set]
    have m2 : MapAt kvI { h' with b := h'.b.set c (.cells [.map (some r)] 67 true) } r (CMf Q R (d.timers.map TimerD.id)) := x.m.ext (Nat.le_refl _) (T.get_set_ne _ _ (by omega))
    have X2 : ExtB c h { h' with b := h'.b.set c (.cells [.map (some r)] 67 true) } := (X.mono (Nat.le_of_lt hcr)).trans (ExtB.set _ (Nat.le_refl _))
    have hn2 : ({ h' with b := h'.b.set c (.cells [.map (some r)] 67 true) } : Heap).n = h'.n := rfl
    generalize ({ h' with b := h'.b.set c (.cells [.map (some r)] 67 true) } : Heap) = h2 at hb2 m2 X2 hn2 ⊢
    have dr := cellAt_blk (off := 0) (show c < h2.n by omega) hb2 rfl
    repeat' (first | done | ((with_reducible refine brK_yes ?_ ?_); (· omega)) | ((with_reducible refine brK_no ?_ ?_); (· omega)) | (with_reducible refine brK_both (fun _ => ?_) (fun _ => ?_)) | ((with_reducible refine And.intro (And.intro ?_ ?_) ?_); (· omega); (· omega)) | ((with_reducible refine And.intro ?_ ?_); (· omega)) | ((with_reducible refine st_newM ?_ ?_); (· rfl)) | ((with_reducible refine bs_oneM ?_ ?_); (· rfl)) | (with_reducible refine bd_of (by with_unfolding_all (simp only [fillL_cons, fillL_nil, nth_eq, blt_eq, cond_beq, over, Value.cells, List.getElem?_cons_zero, List.getElem?_cons_succ, List.length_cons, List.length_nil, Nat.reduceAdd, Nat.reduceSub, Nat.reduceLT, Nat.reduceEqDiff, decide_true, cond_true, Option.map_some, if_true, if_false, Nat.add_one_sub_one, Nat.succ_ne_zero, reduceCtorEq, OfNat.ofNat]; rfl)) ?_) | (with_reducible refine bda_of (by with_unfolding_all rfl) ?_) | (simp -dsimp only [↓cw_ret, ↓seqK_normal, ↓getK_same, ↓getK_ne, ↓evK_tmp, ↓opsW_nil, ↓opsW_d, ↓opW_assign, ↓ld1_some, ↓resK_ct, ↓agl_67, onV_some', ne_eq, Nat.reduceEqDiff, not_false_eq_true, ↓a2, dr]))
    exact hK h2 m2 X2
end Go.Proofs.Ytdjnedamphifcaa
