/- The reference's Whole: true where RefSpec holds. Conditions: each theorem's own. -/
import Derived.Test.YtdjnedamphifcaaWE
set_option linter.unusedSimpArgs false
set_option linter.unusedVariables false
namespace Go.Proofs.Ytdjnedamphifcaa
open Go.Ev
set_option maxRecDepth 100000
set_option maxHeartbeats 400000
structure TBox (h : Heap) (j : Nat) (x : TaskD) : Prop where
  lt : j < h.n
  get : ∀ o v, x.cells[o]? = some v → cellAt h ⟨j, o, none⟩ = some v
theorem TBox.ext {B : Nat} {h h' : Heap} {j : Nat} {x : TaskD} (t : TBox h j x) (e : ExtB B h h') (hj : j < B) : TBox h' j x :=
  ⟨Nat.lt_of_lt_of_le t.lt e.n, fun o v hv => cellAt_ext e hj (t.get o v hv)⟩
theorem TBox.of {h h' : Heap} {x : TaskD} {t : TypeId} (hn : h.n < h'.n) (hg : h'.b.get h.n = (newBlk h (.cells x.cells t true)).b.get h.n) : TBox h' h.n x :=
  ⟨hn, fun o v hv => cellAt_blk hn (by rw [hg]; exact newBlk_same _ _) hv⟩
theorem VBox.all {h : Heap} {i : Nat} {a : VA} {d : ViewD} (v : VBox h i a d) : cellsAt h ⟨i, 0, none⟩ 12 = some (vcells a d) :=
  cellsAt_pts (vcells a d) (by simp [vcells]) fun j x hj => by rw [Nat.zero_add]; exact v.get j x hj
def want0 (s : Int) : Int := if s = 1 then 1 else 0
def want1 (s : Int) : Int := if s = 2 then 1 else 0
def want2 (s : Int) : Int := if s = 4 then 1 else 0
def cntQ (d : ViewD) (g : Int) : Nat := d.next.count g + (ringsOf d).count g + d.global.count g
structure OkT (d : ViewD) (x : TaskD) : Prop where
  q : want0 x.state = cntQ d x.idx
  r : want1 x.state = d.runs.count x.idx
  t : want2 x.state = (d.timers.map TimerD.id).count x.idx
  fr : allUp (fineR d.runs x.idx x.aff) d.runs.length = true
  ft : allUp (fineT d.timers x.idx x.untl) d.timers.length = true
def allIn (d : ViewD) : List Int := d.runs.filter (0 ≤ ·) ++ (d.next.filter (0 ≤ ·) ++ (ringsOf d ++ (d.global ++ d.timers.map TimerD.id)))
def RefSpec (d : ViewD) : Prop := (∀ x ∈ d.tasks, OkT d x) ∧ ∀ y ∈ allIn d, y ∈ d.tasks.map TaskD.idx
theorem refWhole_ret {B : Nat} {a : VA} {d : ViewD} {h : Heap} {K : Value → Heap → Prop} (ho : OnceP d) (hr : Ranges d) (hB : B ≤ h.n) (hv : VOK B h a d)
    (hK : ∀ b h', (b = true ↔ RefSpec d) → ExtB h.n h h' → K (.bool b) h') : Ret env (.func 14) [.agg ⟨vcells a d⟩] h K := by
  have ht := ho.t
  refine F14 rfl ?_
  simp -dsimp only [↓cw_ops, ↓cw_seq, ↓seqK_normal, ↓getK_same, ↓evK_tmp, ↓evK_bool, ↓opsW_nil, ↓opsW_d, ↓opW_assign, ↓setAll_cons, ↓setAll_nil, ↓opW_box, ↓box_agg, ↓evp_nil, ↓bsl_38_0, ↓r14_135_w, ↓s14_136_w, ↓r14_137_w, ↓s14_138_w, true_and, vcells_one a d]
  have V := VBox.new h a d 45
  have X : ExtB h.n h (newBlk h (.cells (vcells a d) 45 true)) := ExtB.new _ (Nat.le_refl _)
  have hn1 : (newBlk h (.cells (vcells a d) 45 true)).n = h.n + 1 := rfl
  generalize newBlk h (.cells (vcells a d) 45 true) = h1 at V X hn1 ⊢
  have hv := hv.ext (X.mono hB)
  refine bs_nil ?_
  simp -dsimp only [↓cw_ops, ↓cw_seq, ↓cw_block, ↓seqK_normal, ↓getK_same, ↓evK_tmp, ↓evK_int, ↓opsW_nil, ↓opsW_d, ↓opW_assign, ↓setAll_cons, ↓setAll_nil, ↓s14_130_w, ↓s14_131_w, ↓r14_132_w, ↓s14_133_w, ↓s14_134_w]
  have X0 : ExtB h1.n h1 (newBlk h1 (.cells [] 3 true)) := ExtB.new _ (Nat.le_refl _)
  refine cw_loopI (fun n fr h' => ∃ k : Nat, k ≤ d.tasks.length ∧ n = d.tasks.length - k ∧ fr.get 4 = some (.int .i64 k) ∧ (∃ v, fr.get 3 = some v ∧ OwnS h1.n h' 3 v k (ints ((d.tasks.map TaskD.idx).take k))) ∧ ExtB h1.n h1 h' ∧ ∀ i (hi : i < d.tasks.length), i < k → OkT d d.tasks[i]) d.tasks.length ?_ (by omega) ?_
  · exact ⟨0, by omega, by omega, by simp [T.get_set], ⟨_, by simp [T.get_set]; rfl, .emp _ (by simp [newBlk])⟩, X0, fun i _ h => by omega⟩
  rintro n fr h' ⟨k, hk, rfl, g4, ⟨v3, g3, own⟩, X1, hok⟩ hag
  have e4 := getK_of g4
  have e3 := getK_of g3
  have a1 := getK_eq (hag 1 rfl)
  have hi1 : h.n < h1.n := by omega
  have V1 := V.ext X1 hi1
  have hv1 := hv.ext (X1.mono (by omega))
  have d1 := V1.get 1 _ rfl
  have hin := V1.lt
  by_cases hlt : k < d.tasks.length
  · obtain ⟨b0, off, hra, hb, dd⟩ := hv1.tasks k (by simpa using hlt)
    simp only [List.getElem_map, TaskD.cells] at dd
    have d1' := d1
    rw [hra] at d1'
    have hb' : b0 < h'.n := by have := X1.n; omega
    repeat' (first | done | ((with_reducible refine brK_yes ?_ ?_); (· omega)) | ((with_reducible refine brK_no ?_ ?_); (· omega)) | (with_reducible refine brK_both (fun _ => ?_) (fun _ => ?_)) | ((with_reducible refine And.intro (And.intro ?_ ?_) ?_); (· omega); (· omega)) | ((with_reducible refine And.intro ?_ ?_); (· omega)) | ((with_reducible refine st_newM ?_ ?_); (· rfl)) | ((with_reducible refine bs_oneM ?_ ?_); (· rfl)) | (with_reducible refine bd_of (by with_unfolding_all (simp only [fillL_cons, fillL_nil, nth_eq, blt_eq, cond_beq, over, Value.cells, List.getElem?_cons_zero, List.getElem?_cons_succ, List.length_cons, List.length_nil, Nat.reduceAdd, Nat.reduceSub, Nat.reduceLT, Nat.reduceEqDiff, decide_true, cond_true, Option.map_some, if_true, if_false, Nat.add_one_sub_one, Nat.succ_ne_zero, reduceCtorEq, OfNat.ofNat]; rfl)) ?_) | (with_reducible refine bda_of (by with_unfolding_all rfl) ?_) | (simp -dsimp only [↓cw_skip, ↓cw_ops, ↓cw_seq, ↓cw_block, ↓cw_cond, ↓seqK_normal, ↓getK_same, ↓getK_ne, ↓evK_tmp, ↓condV_var, ↓opsW_nil, ↓opsW_d, ↓opsW_n, ↓opW_move, ↓opW_assign, ↓opW_bin, ↓bin_lss, ↓ld1_some, ↓ldN_some, ↓fldA_some, ↓idxS_some, ↓lenS_some, ↓evp_nil, ↓evp_cons, ↓fa_45_1, ↓ld_34, ↓len_34, ↓ia_34, ↓fa_66_0, ↓fa_59_0, ↓ld_3, ↓ld_66, ↓al_66, ↓st_66, ↓bsl_38_1, ↓ap_38_38, ↓r14_119_w, ↓s14_120_w, ↓r14_121_w, ↓s14_122_w, ↓r14_123_w, ↓s14_124_w, ↓s14_125_w, ↓s14_126_w, ↓r14_127_w, ↓s14_128_w, ↓s14_129_w, cellAt_newE, newBlk_n, List.getElem?_cons_zero, onV_some', brK_true, ne_eq, Nat.reduceEqDiff, Nat.reduceAdd, not_false_eq_true, Nat.add_zero, Addr.add_lit, Int.toNat_natCast, ↓e4, ↓e3, ↓a1, ↓d1', dd]))
    have hlen : (ints ((d.tasks.map TaskD.idx).take k)).length = k * 1 := by rw [ints_len, List.length_take, List.length_map]; omega
    refine app_oneF (own.new _) (Nat.le_trans X1.n (Nat.le_succ _)) hlen (by omega) rfl rfl (by decide) rfl fun v' h2 o2 x2 f2 => ?_
    have hn2 : h'.n < h2.n := by have := x2.n; simp only [newBlk_n] at this; omega
    have TB : TBox h2 h'.n d.tasks[k] := .of hn2 (f2 _ (by simp [newBlk]) (own.notIn (Nat.le_refl _)))
    have X2 : ExtB h1.n h1 h2 := X1.trans ((ExtB.new _ X1.n).trans x2)
    clear f2
    have V2 := V.ext X2 hi1
    have hv2 := hv.ext (X2.mono (by omega))
    have dv := V2.all
    have n2 := X2.n
    repeat' (first | done | ((with_reducible refine brK_yes ?_ ?_); (· omega)) | ((with_reducible refine brK_no ?_ ?_); (· omega)) | (with_reducible refine brK_both (fun _ => ?_) (fun _ => ?_)) | ((with_reducible refine And.intro (And.intro ?_ ?_) ?_); (· omega); (· omega)) | ((with_reducible refine And.intro ?_ ?_); (· omega)) | ((with_reducible refine st_newM ?_ ?_); (· rfl)) | ((with_reducible refine bs_oneM ?_ ?_); (· rfl)) | (with_reducible refine bd_of (by with_unfolding_all (simp only [fillL_cons, fillL_nil, nth_eq, blt_eq, cond_beq, over, Value.cells, List.getElem?_cons_zero, List.getElem?_cons_succ, List.length_cons, List.length_nil, Nat.reduceAdd, Nat.reduceSub, Nat.reduceLT, Nat.reduceEqDiff, decide_true, cond_true, Option.map_some, if_true, if_false, Nat.add_one_sub_one, Nat.succ_ne_zero, reduceCtorEq, OfNat.ofNat]; rfl)) ?_) | (with_reducible refine bda_of (by with_unfolding_all rfl) ?_) | (simp -dsimp only [↓cw_ops, ↓cw_seq, ↓seqK_normal, ↓getK_same, ↓getK_ne, ↓evK_tmp, ↓opsW_nil, ↓opsW_d, ↓opW_move, ↓opW_assign, ↓ldN_some, ↓evs_nil, ↓evs_cons, ↓opW_call, ↓ld_45, ↓r14_117_w, ↓s14_118_w, onV_some', ne_eq, Nat.reduceEqDiff, not_false_eq_true, ↓a1, dv]))
    refine queues_ret ho (by omega) hv2 fun h3 x3 => ?_
    have X3 : ExtB h1.n h1 h3 := X2.trans (x3.mono n2)
    have n3 := x3.n
    have V3 := V.ext X3 hi1
    have hv3 := hv.ext (X3.mono (by omega))
    have dv3 := V3.all
    have TB3 := TB.ext x3 hn2
    have t8 := TB3.get 8 _ rfl
    repeat' (first | done | ((with_reducible refine brK_yes ?_ ?_); (· omega)) | ((with_reducible refine brK_no ?_ ?_); (· omega)) | (with_reducible refine brK_both (fun _ => ?_) (fun _ => ?_)) | ((with_reducible refine And.intro (And.intro ?_ ?_) ?_); (· omega); (· omega)) | ((with_reducible refine And.intro ?_ ?_); (· omega)) | ((with_reducible refine st_newM ?_ ?_); (· rfl)) | ((with_reducible refine bs_oneM ?_ ?_); (· rfl)) | (with_reducible refine bd_of (by with_unfolding_all (simp only [fillL_cons, fillL_nil, nth_eq, blt_eq, cond_beq, over, Value.cells, List.getElem?_cons_zero, List.getElem?_cons_succ, List.length_cons, List.length_nil, Nat.reduceAdd, Nat.reduceSub, Nat.reduceLT, Nat.reduceEqDiff, decide_true, cond_true, Option.map_some, if_true, if_false, Nat.add_one_sub_one, Nat.succ_ne_zero, reduceCtorEq, OfNat.ofNat]; rfl)) ?_) | (with_reducible refine bda_of (by with_unfolding_all rfl) ?_) | (simp -dsimp only [↓cw_ops, ↓cw_seq, ↓seqK_normal, ↓getK_same, ↓getK_ne, ↓evK_tmp, ↓opsW_nil, ↓opsW_d, ↓opW_move, ↓opW_assign, ↓ld1_some, ↓ldN_some, ↓fldA_some, ↓evs_nil, ↓evs_cons, ↓opW_call, ↓ld_45, ↓fa_66_1, ↓fa_64_4, ↓ld_5, ↓r14_115_w, ↓s14_116_w, onV_some', ne_eq, Nat.reduceEqDiff, Nat.reduceAdd, not_false_eq_true, Addr.add_lit, ↓a1, dv3, t8]))
    refine runs_ret ho (by omega) hv3 (hr.aff _ (List.getElem_mem hlt)) fun h4 x4 => ?_
    have X4 : ExtB h1.n h1 h4 := X3.trans (x4.mono (by omega))
    have n4 := x4.n
    have V4 := V.ext X4 hi1
    have hv4 := hv.ext (X4.mono (by omega))
    have dv4 := V4.all
    have TB4 := TB3.ext x4 (by omega)
    have t20 := TB4.get 20 _ rfl
    repeat' (first | done | ((with_reducible refine brK_yes ?_ ?_); (· omega)) | ((with_reducible refine brK_no ?_ ?_); (· omega)) | (with_reducible refine brK_both (fun _ => ?_) (fun _ => ?_)) | ((with_reducible refine And.intro (And.intro ?_ ?_) ?_); (· omega); (· omega)) | ((with_reducible refine And.intro ?_ ?_); (· omega)) | ((with_reducible refine st_newM ?_ ?_); (· rfl)) | ((with_reducible refine bs_oneM ?_ ?_); (· rfl)) | (with_reducible refine bd_of (by with_unfolding_all (simp only [fillL_cons, fillL_nil, nth_eq, blt_eq, cond_beq, over, Value.cells, List.getElem?_cons_zero, List.getElem?_cons_succ, List.length_cons, List.length_nil, Nat.reduceAdd, Nat.reduceSub, Nat.reduceLT, Nat.reduceEqDiff, decide_true, cond_true, Option.map_some, if_true, if_false, Nat.add_one_sub_one, Nat.succ_ne_zero, reduceCtorEq, OfNat.ofNat]; rfl)) ?_) | (with_reducible refine bda_of (by with_unfolding_all rfl) ?_) | (simp -dsimp only [↓cw_ops, ↓cw_seq, ↓seqK_normal, ↓getK_same, ↓getK_ne, ↓evK_tmp, ↓opsW_nil, ↓opsW_d, ↓opW_move, ↓opW_assign, ↓ld1_some, ↓ldN_some, ↓fldA_some, ↓evs_nil, ↓evs_cons, ↓opW_call, ↓opW_extract, ↓ext_tuple, ↓ld_45, ↓fa_66_1, ↓fa_64_9, ↓ld_22, ↓r14_113_w, ↓s14_114_w, List.getElem?_cons_zero, List.getElem?_cons_succ, onV_some', ne_eq, Nat.reduceEqDiff, Nat.reduceAdd, not_false_eq_true, Addr.add_lit, ↓a1, dv4, t20]))
    refine timers_ret ho (by omega) hv4 fun h5 x5 => ?_
    have X5 : ExtB h1.n h1 h5 := X4.trans (x5.mono (by omega))
    have n5 := x5.n
    have TB5 := TB4.ext x5 (by omega)
    have t2 := TB5.get 2 _ rfl
    have hw : h'.n < h5.n := by omega
    have no : ¬ OkT d d.tasks[k] → ∀ h6, ExtB h5.n h5 h6 → K (.bool false) h6 := fun hno h6 x6 => hK false h6 ⟨fun e => (by cases e), fun hs => absurd (hs.1 _ (List.getElem_mem hlt)) hno⟩ (X.trans ((X5.trans (x6.mono (by omega))).mono (by omega)))
    have hs : (d.tasks.map TaskD.idx).take (k + 1) = (d.tasks.map TaskD.idx).take k ++ [d.tasks[k].idx] := by
      rw [List.take_succ_eq_append_getElem (by simpa using hlt)]; simp only [List.getElem_map]
    have own5 : OwnS h1.n h5 3 v' (k + 1) (ints ((d.tasks.map TaskD.idx).take (k + 1))) := by
      rw [hs, ← ints_append]
      exact ((o2.ext x3 (Nat.le_refl _)).ext x4 (Nat.le_refl _)).ext x5 (Nat.le_refl _)
    have yes : OkT d d.tasks[k] → ∀ (fr' : Fr) (h6 : Heap), ExtB h5.n h5 h6 → fr'.get 4 = some (.int .i64 ((k + 1 : Nat) : Int)) → fr'.get 3 = some v' → ∃ m, m < d.tasks.length - k ∧ ∃ k, k ≤ d.tasks.length ∧ m = d.tasks.length - k ∧ fr'.get 4 = some (.int .i64 k) ∧ (∃ v, fr'.get 3 = some v ∧ OwnS h1.n h6 3 v k (ints ((d.tasks.map TaskD.idx).take k))) ∧ ExtB h1.n h1 h6 ∧ ∀ i (hi : i < d.tasks.length), i < k → OkT d d.tasks[i] := by
      intro hyes fr' h6 x6 e4' e3'
      refine ⟨d.tasks.length - (k + 1), by omega, k + 1, by omega, rfl, e4', ⟨v', e3', own5.ext x6 (Nat.le_refl _)⟩, X5.trans (x6.mono (by omega)), fun i hi hik => ?_⟩
      by_cases hi' : i < k
      · exact hok i hi hi'
      · have : i = k := by omega
        subst this; exact hyes
    by_cases s1 : d.tasks[k].state = 1
    · skip
      have w0 : want0 d.tasks[k].state = 1 := by simp [want0, s1]
      have w1 : want1 d.tasks[k].state = 0 := by simp [want1, s1]
      have w2 : want2 d.tasks[k].state = 0 := by simp [want2, s1]
      cases hfr : allUp (fineR d.runs d.tasks[k].idx d.tasks[k].aff) d.runs.length <;> cases hft : allUp (fineT d.timers d.tasks[k].idx d.tasks[k].untl) d.timers.length
      all_goals repeat' (first | done | ((with_reducible refine brK_yes ?_ ?_); (· omega)) | ((with_reducible refine brK_no ?_ ?_); (· omega)) | (with_reducible refine brK_both (fun _ => ?_) (fun _ => ?_)) | ((with_reducible refine And.intro (And.intro ?_ ?_) ?_); (· omega); (· omega)) | ((with_reducible refine And.intro ?_ ?_); (· omega)) | ((with_reducible refine st_newM ?_ ?_); (· rfl)) | ((with_reducible refine bs_oneM ?_ ?_); (· rfl)) | (with_reducible refine bd_of (by with_unfolding_all (simp only [fillL_cons, fillL_nil, nth_eq, blt_eq, cond_beq, over, Value.cells, List.getElem?_cons_zero, List.getElem?_cons_succ, List.length_cons, List.length_nil, Nat.reduceAdd, Nat.reduceSub, Nat.reduceLT, Nat.reduceEqDiff, decide_true, cond_true, Option.map_some, if_true, if_false, Nat.add_one_sub_one, Nat.succ_ne_zero, reduceCtorEq, OfNat.ofNat]; rfl)) ?_) | (with_reducible refine bda_of (by with_unfolding_all rfl) ?_) | (simp -dsimp only [↓cw_ops, ↓cw_seq, ↓cw_block, ↓cw_cond, ↓seqK_normal, ↓getK_same, ↓getK_ne, ↓evK_tmp, ↓evK_int, ↓condV_var, ↓opsW_nil, ↓opsW_d, ↓opsW_n, ↓opW_move, ↓opW_assign, ↓opW_bin, ↓bin_eql, ↓ld1_some, ↓fldA_some, ↓evp_nil, ↓evp_cons, ↓idxA_some, ↓opW_extract, ↓ext_tuple, ↓fa_66_1, ↓fa_64_0, ↓ld_60, ↓st_3, ↓bd_76, ↓al_76, ↓st_76, ↓ia_76, ↓r14_92_w, ↓s14_93_w, ↓s14_104_w, ↓r14_105_w, ↓s14_106_w, ↓s14_107_w, ↓r14_108_w, ↓s14_109_w, ↓s14_110_w, ↓r14_111_w, ↓s14_112_w, cellAt_newO, List.getElem?_cons_zero, List.getElem?_cons_succ, onV_some', brK_true, ne_eq, Nat.reduceEqDiff, Nat.reduceAdd, not_false_eq_true, Nat.add_zero, Addr.add_lit, t2, hw]))
      all_goals refine st_newP (off := 0) (cs' := [.int .i64 1, .int .i64 0, .int .i64 0]) rfl rfl ?_
      all_goals repeat' (first | done | ((with_reducible refine brK_yes ?_ ?_); (· omega)) | ((with_reducible refine brK_no ?_ ?_); (· omega)) | (with_reducible refine brK_both (fun _ => ?_) (fun _ => ?_)) | ((with_reducible refine And.intro (And.intro ?_ ?_) ?_); (· omega); (· omega)) | ((with_reducible refine And.intro ?_ ?_); (· omega)) | ((with_reducible refine st_newM ?_ ?_); (· rfl)) | ((with_reducible refine bs_oneM ?_ ?_); (· rfl)) | (with_reducible refine bd_of (by with_unfolding_all (simp only [fillL_cons, fillL_nil, nth_eq, blt_eq, cond_beq, over, Value.cells, List.getElem?_cons_zero, List.getElem?_cons_succ, List.length_cons, List.length_nil, Nat.reduceAdd, Nat.reduceSub, Nat.reduceLT, Nat.reduceEqDiff, decide_true, cond_true, Option.map_some, if_true, if_false, Nat.add_one_sub_one, Nat.succ_ne_zero, reduceCtorEq, OfNat.ofNat]; rfl)) ?_) | (with_reducible refine bda_of (by with_unfolding_all rfl) ?_) | (simp -dsimp only [↓cw_skip, ↓cw_ops, ↓cw_seq, ↓cw_ret, ↓cw_cond, ↓seqK_normal, ↓seqK_ret, ↓blockK_normal, ↓blockK_ret, ↓loopK_normal, ↓loopK_ret, ↓getK_same, ↓getK_ne, ↓evK_tmp, ↓evK_int, ↓evK_bool, ↓condV_var, ↓gdV_var, ↓opsW_nil, ↓opsW_d, ↓opsW_gd, ↓opW_move, ↓opW_assign, ↓opW_pick, ↓opW_bin, ↓bin_add, ↓ldN_some, ↓resK_one, ↓evp_nil, ↓evp_cons, ↓opW_un, ↓un_not, ↓bd_76, ↓ld_76, ↓neqA_76, ↓r14_85_w, ↓s14_86_w, ↓r14_87_w, ↓s14_88_w, ↓s14_89_w, ↓r14_90_w, ↓s14_91_w, cellsAt_newE, newBlk_n, List.length_cons, List.length_nil, onV_some', brK_true, brK_false, and_true, ne_eq, Nat.reduceEqDiff, Nat.reduceAdd, not_false_eq_true, Nat.add_zero, Addr.add_lit, Int.toNat_natCast, Bool.true_eq_false, Bool.false_eq_true,  ↓e4, Bool.not_true, Bool.not_false]))
      all_goals first
        | (exact no (fun hh => Bool.false_ne_true (hfr.symm.trans hh.fr)) _ (ExtB.new _ (Nat.le_refl _)))
        | (exact no (fun hh => Bool.false_ne_true (hft.symm.trans hh.ft)) _ (ExtB.new _ (Nat.le_refl _)))
        | (rename_i he; exact no (fun hh => he ⟨w0.symm.trans hh.q, w1.symm.trans hh.r, w2.symm.trans hh.t⟩) _ (ExtB.new _ (Nat.le_refl _)))
        | (rename_i he; exact yes ⟨w0.trans he.1, w1.trans he.2.1, w2.trans he.2.2, hfr, hft⟩ _ _ (ExtB.new _ (Nat.le_refl _)) (by simp [T.get_set, wrap_succ (show k ≤ 4611686018427387904 by omega)]) (by simp [T.get_set]))
    by_cases s2 : d.tasks[k].state = 2
    · skip
      have w0 : want0 d.tasks[k].state = 0 := by simp [want0, s2]
      have w1 : want1 d.tasks[k].state = 1 := by simp [want1, s2]
      have w2 : want2 d.tasks[k].state = 0 := by simp [want2, s2]
      cases hfr : allUp (fineR d.runs d.tasks[k].idx d.tasks[k].aff) d.runs.length <;> cases hft : allUp (fineT d.timers d.tasks[k].idx d.tasks[k].untl) d.timers.length
      all_goals repeat' (first | done | ((with_reducible refine brK_yes ?_ ?_); (· omega)) | ((with_reducible refine brK_no ?_ ?_); (· omega)) | (with_reducible refine brK_both (fun _ => ?_) (fun _ => ?_)) | ((with_reducible refine And.intro (And.intro ?_ ?_) ?_); (· omega); (· omega)) | ((with_reducible refine And.intro ?_ ?_); (· omega)) | ((with_reducible refine st_newM ?_ ?_); (· rfl)) | ((with_reducible refine bs_oneM ?_ ?_); (· rfl)) | (with_reducible refine bd_of (by with_unfolding_all (simp only [fillL_cons, fillL_nil, nth_eq, blt_eq, cond_beq, over, Value.cells, List.getElem?_cons_zero, List.getElem?_cons_succ, List.length_cons, List.length_nil, Nat.reduceAdd, Nat.reduceSub, Nat.reduceLT, Nat.reduceEqDiff, decide_true, cond_true, Option.map_some, if_true, if_false, Nat.add_one_sub_one, Nat.succ_ne_zero, reduceCtorEq, OfNat.ofNat]; rfl)) ?_) | (with_reducible refine bda_of (by with_unfolding_all rfl) ?_) | (simp -dsimp only [↓cw_ops, ↓cw_seq, ↓cw_block, ↓cw_cond, ↓seqK_normal, ↓getK_same, ↓getK_ne, ↓evK_tmp, ↓evK_int, ↓condV_var, ↓opsW_nil, ↓opsW_d, ↓opsW_n, ↓opW_move, ↓opW_assign, ↓opW_bin, ↓bin_eql, ↓ld1_some, ↓fldA_some, ↓evp_nil, ↓evp_cons, ↓idxA_some, ↓opW_extract, ↓ext_tuple, ↓fa_66_1, ↓fa_64_0, ↓ld_60, ↓st_3, ↓bd_76, ↓al_76, ↓st_76, ↓ia_76, ↓r14_94_w, ↓s14_95_w, ↓s14_101_w, ↓r14_102_w, ↓s14_103_w, ↓s14_104_w, ↓r14_105_w, ↓s14_106_w, ↓s14_107_w, ↓r14_108_w, ↓s14_109_w, ↓s14_110_w, ↓r14_111_w, ↓s14_112_w, cellAt_newO, List.getElem?_cons_zero, List.getElem?_cons_succ, onV_some', brK_true, brK_false, ne_eq, Nat.reduceEqDiff, Nat.reduceAdd, not_false_eq_true, Nat.add_zero, Addr.add_lit, Bool.false_eq_true,  t2, hw]))
      all_goals refine st_newP (off := 1) (cs' := [.int .i64 0, .int .i64 1, .int .i64 0]) rfl rfl ?_
      all_goals repeat' (first | done | ((with_reducible refine brK_yes ?_ ?_); (· omega)) | ((with_reducible refine brK_no ?_ ?_); (· omega)) | (with_reducible refine brK_both (fun _ => ?_) (fun _ => ?_)) | ((with_reducible refine And.intro (And.intro ?_ ?_) ?_); (· omega); (· omega)) | ((with_reducible refine And.intro ?_ ?_); (· omega)) | ((with_reducible refine st_newM ?_ ?_); (· rfl)) | ((with_reducible refine bs_oneM ?_ ?_); (· rfl)) | (with_reducible refine bd_of (by with_unfolding_all (simp only [fillL_cons, fillL_nil, nth_eq, blt_eq, cond_beq, over, Value.cells, List.getElem?_cons_zero, List.getElem?_cons_succ, List.length_cons, List.length_nil, Nat.reduceAdd, Nat.reduceSub, Nat.reduceLT, Nat.reduceEqDiff, decide_true, cond_true, Option.map_some, if_true, if_false, Nat.add_one_sub_one, Nat.succ_ne_zero, reduceCtorEq, OfNat.ofNat]; rfl)) ?_) | (with_reducible refine bda_of (by with_unfolding_all rfl) ?_) | (simp -dsimp only [↓cw_skip, ↓cw_ops, ↓cw_seq, ↓cw_ret, ↓cw_cond, ↓seqK_normal, ↓seqK_ret, ↓blockK_normal, ↓blockK_ret, ↓loopK_normal, ↓loopK_ret, ↓getK_same, ↓getK_ne, ↓evK_tmp, ↓evK_int, ↓evK_bool, ↓condV_var, ↓gdV_var, ↓opsW_nil, ↓opsW_d, ↓opsW_gd, ↓opW_move, ↓opW_assign, ↓opW_pick, ↓opW_bin, ↓bin_add, ↓ldN_some, ↓resK_one, ↓evp_nil, ↓evp_cons, ↓opW_un, ↓un_not, ↓bd_76, ↓ld_76, ↓neqA_76, ↓r14_85_w, ↓s14_86_w, ↓r14_87_w, ↓s14_88_w, ↓s14_89_w, ↓r14_90_w, ↓s14_91_w, cellsAt_newE, newBlk_n, List.length_cons, List.length_nil, onV_some', brK_true, brK_false, and_true, ne_eq, Nat.reduceEqDiff, Nat.reduceAdd, not_false_eq_true, Nat.add_zero, Addr.add_lit, Int.toNat_natCast, Bool.true_eq_false, Bool.false_eq_true,  ↓e4, Bool.not_true, Bool.not_false]))
      all_goals first
        | (exact no (fun hh => Bool.false_ne_true (hfr.symm.trans hh.fr)) _ (ExtB.new _ (Nat.le_refl _)))
        | (exact no (fun hh => Bool.false_ne_true (hft.symm.trans hh.ft)) _ (ExtB.new _ (Nat.le_refl _)))
        | (rename_i he; exact no (fun hh => he ⟨w0.symm.trans hh.q, w1.symm.trans hh.r, w2.symm.trans hh.t⟩) _ (ExtB.new _ (Nat.le_refl _)))
        | (rename_i he; exact yes ⟨w0.trans he.1, w1.trans he.2.1, w2.trans he.2.2, hfr, hft⟩ _ _ (ExtB.new _ (Nat.le_refl _)) (by simp [T.get_set, wrap_succ (show k ≤ 4611686018427387904 by omega)]) (by simp [T.get_set]))
    by_cases s4 : d.tasks[k].state = 4
    · skip
      have w0 : want0 d.tasks[k].state = 0 := by simp [want0, s4]
      have w1 : want1 d.tasks[k].state = 0 := by simp [want1, s4]
      have w2 : want2 d.tasks[k].state = 1 := by simp [want2, s4]
      cases hfr : allUp (fineR d.runs d.tasks[k].idx d.tasks[k].aff) d.runs.length <;> cases hft : allUp (fineT d.timers d.tasks[k].idx d.tasks[k].untl) d.timers.length
      all_goals repeat' (first | done | ((with_reducible refine brK_yes ?_ ?_); (· omega)) | ((with_reducible refine brK_no ?_ ?_); (· omega)) | (with_reducible refine brK_both (fun _ => ?_) (fun _ => ?_)) | ((with_reducible refine And.intro (And.intro ?_ ?_) ?_); (· omega); (· omega)) | ((with_reducible refine And.intro ?_ ?_); (· omega)) | ((with_reducible refine st_newM ?_ ?_); (· rfl)) | ((with_reducible refine bs_oneM ?_ ?_); (· rfl)) | (with_reducible refine bd_of (by with_unfolding_all (simp only [fillL_cons, fillL_nil, nth_eq, blt_eq, cond_beq, over, Value.cells, List.getElem?_cons_zero, List.getElem?_cons_succ, List.length_cons, List.length_nil, Nat.reduceAdd, Nat.reduceSub, Nat.reduceLT, Nat.reduceEqDiff, decide_true, cond_true, Option.map_some, if_true, if_false, Nat.add_one_sub_one, Nat.succ_ne_zero, reduceCtorEq, OfNat.ofNat]; rfl)) ?_) | (with_reducible refine bda_of (by with_unfolding_all rfl) ?_) | (simp -dsimp only [↓cw_ops, ↓cw_seq, ↓cw_block, ↓cw_cond, ↓seqK_normal, ↓getK_same, ↓getK_ne, ↓evK_tmp, ↓evK_int, ↓condV_var, ↓opsW_nil, ↓opsW_d, ↓opsW_n, ↓opW_move, ↓opW_assign, ↓opW_bin, ↓bin_eql, ↓ld1_some, ↓fldA_some, ↓evp_nil, ↓evp_cons, ↓idxA_some, ↓opW_extract, ↓ext_tuple, ↓fa_66_1, ↓fa_64_0, ↓ld_60, ↓st_3, ↓bd_76, ↓al_76, ↓st_76, ↓ia_76, ↓r14_96_w, ↓s14_97_w, ↓s14_98_w, ↓r14_99_w, ↓s14_100_w, ↓s14_101_w, ↓r14_102_w, ↓s14_103_w, ↓s14_104_w, ↓r14_105_w, ↓s14_106_w, ↓s14_107_w, ↓r14_108_w, ↓s14_109_w, ↓s14_110_w, ↓r14_111_w, ↓s14_112_w, cellAt_newO, List.getElem?_cons_zero, List.getElem?_cons_succ, onV_some', brK_true, brK_false, ne_eq, Nat.reduceEqDiff, Nat.reduceAdd, not_false_eq_true, Nat.add_zero, Addr.add_lit, Bool.false_eq_true,  t2, hw]))
      all_goals refine st_newP (off := 2) (cs' := [.int .i64 0, .int .i64 0, .int .i64 1]) rfl rfl ?_
      all_goals repeat' (first | done | ((with_reducible refine brK_yes ?_ ?_); (· omega)) | ((with_reducible refine brK_no ?_ ?_); (· omega)) | (with_reducible refine brK_both (fun _ => ?_) (fun _ => ?_)) | ((with_reducible refine And.intro (And.intro ?_ ?_) ?_); (· omega); (· omega)) | ((with_reducible refine And.intro ?_ ?_); (· omega)) | ((with_reducible refine st_newM ?_ ?_); (· rfl)) | ((with_reducible refine bs_oneM ?_ ?_); (· rfl)) | (with_reducible refine bd_of (by with_unfolding_all (simp only [fillL_cons, fillL_nil, nth_eq, blt_eq, cond_beq, over, Value.cells, List.getElem?_cons_zero, List.getElem?_cons_succ, List.length_cons, List.length_nil, Nat.reduceAdd, Nat.reduceSub, Nat.reduceLT, Nat.reduceEqDiff, decide_true, cond_true, Option.map_some, if_true, if_false, Nat.add_one_sub_one, Nat.succ_ne_zero, reduceCtorEq, OfNat.ofNat]; rfl)) ?_) | (with_reducible refine bda_of (by with_unfolding_all rfl) ?_) | (simp -dsimp only [↓cw_skip, ↓cw_ops, ↓cw_seq, ↓cw_ret, ↓cw_cond, ↓seqK_normal, ↓seqK_ret, ↓blockK_normal, ↓blockK_ret, ↓loopK_normal, ↓loopK_ret, ↓getK_same, ↓getK_ne, ↓evK_tmp, ↓evK_int, ↓evK_bool, ↓condV_var, ↓gdV_var, ↓opsW_nil, ↓opsW_d, ↓opsW_gd, ↓opW_move, ↓opW_assign, ↓opW_pick, ↓opW_bin, ↓bin_add, ↓ldN_some, ↓resK_one, ↓evp_nil, ↓evp_cons, ↓opW_un, ↓un_not, ↓bd_76, ↓ld_76, ↓neqA_76, ↓r14_85_w, ↓s14_86_w, ↓r14_87_w, ↓s14_88_w, ↓s14_89_w, ↓r14_90_w, ↓s14_91_w, cellsAt_newE, newBlk_n, List.length_cons, List.length_nil, onV_some', brK_true, brK_false, and_true, ne_eq, Nat.reduceEqDiff, Nat.reduceAdd, not_false_eq_true, Nat.add_zero, Addr.add_lit, Int.toNat_natCast, Bool.true_eq_false, Bool.false_eq_true,  ↓e4, Bool.not_true, Bool.not_false]))
      all_goals first
        | (exact no (fun hh => Bool.false_ne_true (hfr.symm.trans hh.fr)) _ (ExtB.new _ (Nat.le_refl _)))
        | (exact no (fun hh => Bool.false_ne_true (hft.symm.trans hh.ft)) _ (ExtB.new _ (Nat.le_refl _)))
        | (rename_i he; exact no (fun hh => he ⟨w0.symm.trans hh.q, w1.symm.trans hh.r, w2.symm.trans hh.t⟩) _ (ExtB.new _ (Nat.le_refl _)))
        | (rename_i he; exact yes ⟨w0.trans he.1, w1.trans he.2.1, w2.trans he.2.2, hfr, hft⟩ _ _ (ExtB.new _ (Nat.le_refl _)) (by simp [T.get_set, wrap_succ (show k ≤ 4611686018427387904 by omega)]) (by simp [T.get_set]))
    · skip
      have w0 : want0 d.tasks[k].state = 0 := by simp [want0, s1]
      have w1 : want1 d.tasks[k].state = 0 := by simp [want1, s2]
      have w2 : want2 d.tasks[k].state = 0 := by simp [want2, s4]
      cases hfr : allUp (fineR d.runs d.tasks[k].idx d.tasks[k].aff) d.runs.length <;> cases hft : allUp (fineT d.timers d.tasks[k].idx d.tasks[k].untl) d.timers.length
      all_goals repeat' (first | done | ((with_reducible refine brK_yes ?_ ?_); (· omega)) | ((with_reducible refine brK_no ?_ ?_); (· omega)) | (with_reducible refine brK_both (fun _ => ?_) (fun _ => ?_)) | ((with_reducible refine And.intro (And.intro ?_ ?_) ?_); (· omega); (· omega)) | ((with_reducible refine And.intro ?_ ?_); (· omega)) | ((with_reducible refine st_newM ?_ ?_); (· rfl)) | ((with_reducible refine bs_oneM ?_ ?_); (· rfl)) | (with_reducible refine bd_of (by with_unfolding_all (simp only [fillL_cons, fillL_nil, nth_eq, blt_eq, cond_beq, over, Value.cells, List.getElem?_cons_zero, List.getElem?_cons_succ, List.length_cons, List.length_nil, Nat.reduceAdd, Nat.reduceSub, Nat.reduceLT, Nat.reduceEqDiff, decide_true, cond_true, Option.map_some, if_true, if_false, Nat.add_one_sub_one, Nat.succ_ne_zero, reduceCtorEq, OfNat.ofNat]; rfl)) ?_) | (with_reducible refine bda_of (by with_unfolding_all rfl) ?_) | (simp -dsimp only [↓cw_skip, ↓cw_ops, ↓cw_seq, ↓cw_block, ↓cw_ret, ↓cw_cond, ↓seqK_normal, ↓seqK_ret, ↓blockK_normal, ↓blockK_ret, ↓loopK_normal, ↓loopK_ret, ↓getK_same, ↓getK_ne, ↓evK_tmp, ↓evK_int, ↓evK_bool, ↓condV_var, ↓gdV_var, ↓opsW_nil, ↓opsW_d, ↓opsW_n, ↓opsW_gd, ↓opW_move, ↓opW_assign, ↓opW_pick, ↓opW_bin, ↓bin_add, ↓bin_eql, ↓ld1_some, ↓ldN_some, ↓fldA_some, ↓resK_one, ↓evp_nil, ↓evp_cons, ↓opW_un, ↓un_not, ↓opW_extract, ↓ext_tuple, ↓fa_66_1, ↓fa_64_0, ↓ld_60, ↓bd_76, ↓al_76, ↓st_76, ↓ld_76, ↓neqA_76, ↓r14_85_w, ↓s14_86_w, ↓r14_87_w, ↓s14_88_w, ↓s14_89_w, ↓r14_90_w, ↓s14_91_w, ↓s14_98_w, ↓r14_99_w, ↓s14_100_w, ↓s14_101_w, ↓r14_102_w, ↓s14_103_w, ↓s14_104_w, ↓r14_105_w, ↓s14_106_w, ↓s14_107_w, ↓r14_108_w, ↓s14_109_w, ↓s14_110_w, ↓r14_111_w, ↓s14_112_w, cellAt_newO, cellsAt_newE, newBlk_n, List.getElem?_cons_zero, List.getElem?_cons_succ, List.length_cons, List.length_nil, onV_some', brK_true, brK_false, and_true, ne_eq, Nat.reduceEqDiff, Nat.reduceAdd, not_false_eq_true, Nat.add_zero, Addr.add_lit, Int.toNat_natCast, Bool.true_eq_false, Bool.false_eq_true,  ↓e4, t2, hw, Bool.not_true, Bool.not_false]))
      all_goals first
        | (exact no (fun hh => Bool.false_ne_true (hfr.symm.trans hh.fr)) _ (ExtB.new _ (Nat.le_refl _)))
        | (exact no (fun hh => Bool.false_ne_true (hft.symm.trans hh.ft)) _ (ExtB.new _ (Nat.le_refl _)))
        | (rename_i he; exact no (fun hh => he ⟨w0.symm.trans hh.q, w1.symm.trans hh.r, w2.symm.trans hh.t⟩) _ (ExtB.new _ (Nat.le_refl _)))
        | (rename_i he; exact yes ⟨w0.trans he.1, w1.trans he.2.1, w2.trans he.2.2, hfr, hft⟩ _ _ (ExtB.new _ (Nat.le_refl _)) (by simp [T.get_set, wrap_succ (show k ≤ 4611686018427387904 by omega)]) (by simp [T.get_set]))
  · have e : k = d.tasks.length := by omega
    subst e
    rw [List.take_of_length_le (by simp)] at own
    obtain ⟨at_, ct, rfl, rt⟩ := own_rows own (by simp)
    repeat' (first | done | ((with_reducible refine brK_yes ?_ ?_); (· omega)) | ((with_reducible refine brK_no ?_ ?_); (· omega)) | (with_reducible refine brK_both (fun _ => ?_) (fun _ => ?_)) | ((with_reducible refine And.intro (And.intro ?_ ?_) ?_); (· omega); (· omega)) | ((with_reducible refine And.intro ?_ ?_); (· omega)) | ((with_reducible refine st_newM ?_ ?_); (· rfl)) | ((with_reducible refine bs_oneM ?_ ?_); (· rfl)) | (with_reducible refine bd_of (by with_unfolding_all (simp only [fillL_cons, fillL_nil, nth_eq, blt_eq, cond_beq, over, Value.cells, List.getElem?_cons_zero, List.getElem?_cons_succ, List.length_cons, List.length_nil, Nat.reduceAdd, Nat.reduceSub, Nat.reduceLT, Nat.reduceEqDiff, decide_true, cond_true, Option.map_some, if_true, if_false, Nat.add_one_sub_one, Nat.succ_ne_zero, reduceCtorEq, OfNat.ofNat]; rfl)) ?_) | (with_reducible refine bda_of (by with_unfolding_all rfl) ?_) | (simp -dsimp only [↓cw_ops, ↓cw_seq, ↓cw_exit, ↓cw_cond, ↓seqK_normal, ↓seqK_exit, ↓blockK_same, ↓loopK_exit, ↓getK_same, ↓getK_ne, ↓evK_tmp, ↓evK_nilslice, ↓condV_var, ↓opsW_nil, ↓opsW_d, ↓opW_move, ↓opW_assign, ↓opW_bin, ↓bin_lss, ↓ld1_some, ↓fldA_some, ↓lenS_some, ↓fa_45_1, ↓ld_34, ↓len_34, ↓r14_83_w, ↓s14_84_w, ↓s14_126_w, ↓r14_127_w, ↓s14_128_w, ↓s14_129_w, onV_some', brK_false, ne_eq, Nat.reduceEqDiff, Nat.reduceAdd, not_false_eq_true, Addr.add_lit, Bool.false_eq_true,  ↓e4, ↓a1, ↓d1]))
    have c : Ctx B h.n h'.n h' a d at_ (d.tasks.map TaskD.idx) := ⟨V1, V1.lt, by have := X1.n; omega, Nat.le_refl _, hv1, rt⟩
    refine runs_phase (ct := ct) (v := .slice none 0 0) (L := []) ho c (by simp; omega) (by simp) ?_ ?_ (by simp [T.get_set]) .nil fun b h2 hb hx => hK b h2 ?_ (X.trans ((X1.mono (by omega)).trans (hx.mono (by have := X1.n; omega))))
    · intro K; simp -dsimp only [getK_ne, getK_same, ne_eq, Nat.reduceEqDiff, not_false_eq_true, ↓a1]
    · intro K; simp -dsimp only [getK_ne, ne_eq, Nat.reduceEqDiff, not_false_eq_true, ↓e3, List.length_map]
    · rw [hb, List.nil_append]
      constructor
      · intro hh
        refine ⟨fun x hx => ?_, hh⟩
        obtain ⟨i, hi, rfl⟩ := List.getElem_of_mem hx
        exact hok i hi hi
      · intro hh; exact hh.2
end Go.Proofs.Ytdjnedamphifcaa
