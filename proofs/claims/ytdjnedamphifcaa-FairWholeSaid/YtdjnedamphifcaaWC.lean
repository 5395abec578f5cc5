/- The reference's Find, runs, timers, queues. Conditions: each theorem's own. -/
import Derived.Test.YtdjnedamphifcaaWB
set_option linter.unusedSimpArgs false
set_option linter.unusedVariables false
namespace Go.Proofs.Ytdjnedamphifcaa
open Go.Ev
set_option maxRecDepth 100000
set_option maxHeartbeats 400000
def allUp (f : Nat → Bool) (k : Nat) : Bool := (List.range k).all f
theorem allUp_succ (f : Nat → Bool) (k : Nat) : allUp f (k + 1) = (allUp f k && f k) := by simp [allUp, List.range_succ]
theorem allUp_iff (f : Nat → Bool) (k : Nat) : allUp f k = true ↔ ∀ i, i < k → f i = true := by simp [allUp]
theorem count_succ {l : List Int} {g : Int} {k : Nat} (h : k < l.length) : (l.take (k + 1)).count g = (l.take k).count g + if l[k] = g then 1 else 0 := by
  rw [List.take_succ_eq_append_getElem h, List.count_append, List.count_singleton]
  by_cases hk : l[k] = g <;> simp [hk]
theorem count_le {l : List Int} {g : Int} {k : Nat} : (l.take k).count g ≤ l.length := Nat.le_trans List.count_le_length (List.length_take_le' ..)

/-! find -/
theorem find_ret {B : Nat} {a : Option Addr} {c : Nat} {l : List Int} {x : Int} {h : Heap} {K : Value → Heap → Prop} (hl : l.length ≤ 1000) (ra : RowAt B h a 1 (l.map intCells))
    (hK : ∀ r : Int, (r < 0 ↔ x ∉ l) → K (.int .i64 r) h) : Ret env (.func 25) [.slice a l.length c, .int .i64 x] h K := by
  refine F25 rfl ?_
  repeat' (first | done | ((with_reducible refine brK_yes ?_ ?_); (· omega)) | ((with_reducible refine brK_no ?_ ?_); (· omega)) | (with_reducible refine brK_both (fun _ => ?_) (fun _ => ?_)) | ((with_reducible refine And.intro (And.intro ?_ ?_) ?_); (· omega); (· omega)) | ((with_reducible refine And.intro ?_ ?_); (· omega)) | ((with_reducible refine st_newM ?_ ?_); (· rfl)) | ((with_reducible refine bs_oneM ?_ ?_); (· rfl)) | (with_reducible refine bd_of (by with_unfolding_all (simp only [fillL_cons, fillL_nil, nth_eq, blt_eq, cond_beq, over, Value.cells, List.getElem?_cons_zero, List.getElem?_cons_succ, List.length_cons, List.length_nil, Nat.reduceAdd, Nat.reduceSub, Nat.reduceLT, Nat.reduceEqDiff, decide_true, cond_true, Option.map_some, if_true, if_false, Nat.add_one_sub_one, Nat.succ_ne_zero, reduceCtorEq, OfNat.ofNat]; rfl)) ?_) | (with_reducible refine bda_of (by with_unfolding_all rfl) ?_) | (simp -dsimp only [↓cw_ops, ↓cw_seq, ↓cw_block, ↓seqK_normal, ↓evK_int, ↓opsW_nil, ↓opsW_d, ↓opW_assign, ↓setAll_cons, ↓setAll_nil, ↓s25_14_w, ↓s25_15_w, ↓r25_16_w, ↓s25_17_w, ↓s25_18_w, ↓r25_19_w, ↓s25_20_w, Nat.reduceAdd]))
  refine cw_loopI (fun n fr h' => h = h' ∧ ∃ k : Nat, k ≤ l.length ∧ n = l.length - k ∧ fr.get 5 = some (.int .i64 k) ∧ ∀ i (hi : i < l.length), i < k → l[i] ≠ x) l.length ?_ (by omega) ?_
  · exact ⟨rfl, 0, by omega, by omega, by simp [T.get_set], fun i _ h => by omega⟩
  rintro n fr h' ⟨rfl, k, hk, rfl, g5, hno⟩ hag
  have g5 := getK_of g5
  have a0 := getK_eq (hag 0 rfl)
  have a1 := getK_eq (hag 1 rfl)
  by_cases hlt : k < l.length
  · obtain ⟨b0, off, rfl, hb, d⟩ := ra k (by simpa using hlt)
    simp only [List.getElem_map, intCells] at d
    have d0 := cellAt_of d (j := 0) rfl
    simp only [Nat.add_zero] at d0
    repeat' (first | done | ((with_reducible refine brK_yes ?_ ?_); (· omega)) | ((with_reducible refine brK_no ?_ ?_); (· omega)) | (with_reducible refine brK_both (fun _ => ?_) (fun _ => ?_)) | ((with_reducible refine And.intro (And.intro ?_ ?_) ?_); (· omega); (· omega)) | ((with_reducible refine And.intro ?_ ?_); (· omega)) | ((with_reducible refine st_newM ?_ ?_); (· rfl)) | ((with_reducible refine bs_oneM ?_ ?_); (· rfl)) | (with_reducible refine bd_of (by with_unfolding_all (simp only [fillL_cons, fillL_nil, nth_eq, blt_eq, cond_beq, over, Value.cells, List.getElem?_cons_zero, List.getElem?_cons_succ, List.length_cons, List.length_nil, Nat.reduceAdd, Nat.reduceSub, Nat.reduceLT, Nat.reduceEqDiff, decide_true, cond_true, Option.map_some, if_true, if_false, Nat.add_one_sub_one, Nat.succ_ne_zero, reduceCtorEq, OfNat.ofNat]; rfl)) ?_) | (with_reducible refine bda_of (by with_unfolding_all rfl) ?_) | (simp -dsimp only [↓cw_skip, ↓cw_ops, ↓cw_seq, ↓cw_block, ↓cw_ret, ↓cw_cond, ↓seqK_normal, ↓seqK_ret, ↓blockK_normal, ↓blockK_ret, ↓loopK_normal, ↓loopK_ret, ↓getK_same, ↓getK_ne, ↓evK_tmp, ↓evK_int, ↓condV_var, ↓opsW_nil, ↓opsW_d, ↓opW_move, ↓opW_assign, ↓opW_bin, ↓bin_add, ↓bin_eql, ↓bin_lss, ↓ld1_some, ↓idxS_some, ↓lenS_some, ↓resK_one, ↓ld_3, ↓len_38, ↓ia_38, ↓r25_2_w, ↓s25_3_w, ↓r25_4_w, ↓s25_5_w, ↓s25_6_w, ↓r25_7_w, ↓s25_8_w, ↓s25_9_w, ↓s25_10_w, ↓r25_11_w, ↓s25_12_w, ↓s25_13_w, onV_some', brK_true, brK_false, true_and, ne_eq, Nat.reduceEqDiff, not_false_eq_true, Nat.one_ne_zero, Addr.add_lit, Int.toNat_natCast, Bool.false_eq_true,  ↓g5, ↓a0, ↓a1, d0]))
    · rename_i he
      refine hK _ ⟨fun h => by omega, fun h => absurd ?_ h⟩
      rw [← he]; exact List.getElem_mem _
    · rename_i he
      refine ⟨l.length - (k + 1), by omega, k + 1, by omega, rfl, by simp [T.get_set, wrap_succ (show k ≤ 4611686018427387904 by omega)], fun i hi hik => ?_⟩
      by_cases hik' : i < k
      · exact hno i hi hik'
      · have : i = k := by omega
        subst this; exact he
  · repeat' (first | done | ((with_reducible refine brK_yes ?_ ?_); (· omega)) | ((with_reducible refine brK_no ?_ ?_); (· omega)) | (with_reducible refine brK_both (fun _ => ?_) (fun _ => ?_)) | ((with_reducible refine And.intro (And.intro ?_ ?_) ?_); (· omega); (· omega)) | ((with_reducible refine And.intro ?_ ?_); (· omega)) | ((with_reducible refine st_newM ?_ ?_); (· rfl)) | ((with_reducible refine bs_oneM ?_ ?_); (· rfl)) | (with_reducible refine bd_of (by with_unfolding_all (simp only [fillL_cons, fillL_nil, nth_eq, blt_eq, cond_beq, over, Value.cells, List.getElem?_cons_zero, List.getElem?_cons_succ, List.length_cons, List.length_nil, Nat.reduceAdd, Nat.reduceSub, Nat.reduceLT, Nat.reduceEqDiff, decide_true, cond_true, Option.map_some, if_true, if_false, Nat.add_one_sub_one, Nat.succ_ne_zero, reduceCtorEq, OfNat.ofNat]; rfl)) ?_) | (with_reducible refine bda_of (by with_unfolding_all rfl) ?_) | (simp -dsimp only [↓cw_ops, ↓cw_seq, ↓cw_exit, ↓cw_ret, ↓cw_cond, ↓seqK_normal, ↓seqK_exit, ↓blockK_same, ↓loopK_exit, ↓getK_same, ↓getK_ne, ↓evK_tmp, ↓evK_int, ↓condV_var, ↓opsW_nil, ↓opsW_d, ↓opW_move, ↓opW_assign, ↓opW_bin, ↓bin_lss, ↓lenS_some, ↓resK_one, ↓len_38, ↓r25_0_w, ↓s25_1_w, ↓s25_10_w, ↓r25_11_w, ↓s25_12_w, ↓s25_13_w, brK_false, ne_eq, Nat.reduceEqDiff, not_false_eq_true, Nat.one_ne_zero, Bool.false_eq_true,  ↓g5, ↓a0]))
    refine hK _ ⟨fun _ hm => ?_, fun _ => by decide⟩
    obtain ⟨i, hi, e⟩ := List.getElem_of_mem hm
    exact hno i hi (by omega) e

/-! who runs -/
def fineR (l : List Int) (g aff : Int) (p : Nat) : Bool := decide (l[p]? = some g → hasB aff p = true)
theorem runs_ret {B : Nat} {a : VA} {d : ViewD} {g aff : Int} {h : Heap} {K : Value → Heap → Prop} (ho : OnceP d) (hB : B ≤ h.n) (hv : VOK B h a d) (haff : 0 ≤ aff ∧ aff ≤ 255)
    (hK : ∀ h', ExtB h.n h h' → K (.tuple #[.int .i64 (d.runs.count g : Nat), .bool (allUp (fineR d.runs g aff) d.runs.length)]) h') : Ret env (.func 23) [.agg ⟨vcells a d⟩, .int .i64 g, .int .u8 aff] h K := by
  have hl := ho.runs
  refine F23 rfl ?_
  simp -dsimp only [↓cw_ops, ↓cw_seq, ↓cw_block, ↓seqK_normal, ↓getK_same, ↓getK_ne, ↓evK_tmp, ↓evK_int, ↓evK_bool, ↓opsW_nil, ↓opsW_d, ↓opW_assign, ↓setAll_cons, ↓setAll_nil, ↓opW_box, ↓box_agg, ↓s23_16_w, ↓s23_17_w, ↓r23_18_w, ↓s23_19_w, ↓s23_20_w, ↓r23_21_w, ↓s23_22_w, ↓r23_23_w, ↓s23_24_w, true_and, ne_eq, Nat.reduceEqDiff, Nat.reduceAdd, not_false_eq_true, Nat.one_ne_zero, vcells_one a d]
  have V := VBox.new h a d 45
  have X : ExtB h.n h (newBlk h (.cells (vcells a d) 45 true)) := ExtB.new _ (Nat.le_refl _)
  generalize newBlk h (.cells (vcells a d) 45 true) = h1 at V X ⊢
  have hv := hv.ext (X.mono hB)
  have d5 := V.get 5 _ rfl
  refine cw_loopI (fun n fr h' => h1 = h' ∧ ∃ k : Nat, k ≤ d.runs.length ∧ n = d.runs.length - k ∧ fr.get 10 = some (.int .i64 k) ∧ fr.get 8 = some (.int .i64 ((d.runs.take k).count g : Nat)) ∧ fr.get 9 = some (.bool (allUp (fineR d.runs g aff) k))) d.runs.length ?_ (by omega) ?_
  · exact ⟨rfl, 0, by omega, by omega, by simp [T.get_set], by simp [T.get_set], by simp [T.get_set, allUp]⟩
  rintro n fr h' ⟨rfl, k, hk, rfl, g10, g8, g9⟩ hag
  have e10 := getK_of g10
  have e8 := getK_of g8
  have e9 := getK_of g9
  have a1 := getK_eq (hag 1 rfl)
  have a2 := getK_eq (hag 2 rfl)
  have a3 := getK_eq (hag 3 rfl)
  by_cases hlt : k < d.runs.length
  · obtain ⟨b0, off, hra, hb, dd⟩ := hv.runs k (by simpa using hlt)
    simp only [List.getElem_map, intCells] at dd
    have d0 := cellAt_of dd (j := 0) rfl
    simp only [Nat.add_zero] at d0
    rw [hra] at d5
    have hc := count_succ (l := d.runs) (g := g) hlt
    have hcl := count_le (l := d.runs) (g := g) (k := k)
    have hu := allUp_succ (fineR d.runs g aff) k
    have hk? : d.runs[k]? = some d.runs[k] := List.getElem?_eq_getElem hlt
    repeat' (first | done | ((with_reducible refine brK_yes ?_ ?_); (· omega)) | ((with_reducible refine brK_no ?_ ?_); (· omega)) | (with_reducible refine brK_both (fun _ => ?_) (fun _ => ?_)) | ((with_reducible refine And.intro (And.intro ?_ ?_) ?_); (· omega); (· omega)) | ((with_reducible refine And.intro ?_ ?_); (· omega)) | ((with_reducible refine st_newM ?_ ?_); (· rfl)) | ((with_reducible refine bs_oneM ?_ ?_); (· rfl)) | (with_reducible refine bd_of (by with_unfolding_all (simp only [fillL_cons, fillL_nil, nth_eq, blt_eq, cond_beq, over, Value.cells, List.getElem?_cons_zero, List.getElem?_cons_succ, List.length_cons, List.length_nil, Nat.reduceAdd, Nat.reduceSub, Nat.reduceLT, Nat.reduceEqDiff, decide_true, cond_true, Option.map_some, if_true, if_false, Nat.add_one_sub_one, Nat.succ_ne_zero, reduceCtorEq, OfNat.ofNat]; rfl)) ?_) | (with_reducible refine bda_of (by with_unfolding_all rfl) ?_) | (simp -dsimp only [↓cw_skip, ↓cw_ops, ↓cw_seq, ↓cw_block, ↓cw_cond, ↓seqK_normal, ↓blockK_normal, ↓loopK_normal, ↓getK_same, ↓getK_ne, ↓evK_tmp, ↓evK_int, ↓evK_bool, ↓condV_var, ↓gdV_var, ↓opsW_nil, ↓opsW_d, ↓opsW_gd, ↓opW_move, ↓opW_assign, ↓opW_pick, ↓opW_bin, ↓bin_add, ↓bin_eql, ↓bin_lss, ↓ld1_some, ↓fldA_some, ↓idxS_some, ↓evs_nil, ↓evs_cons, ↓opW_call, ↓lenS_some, ↓ld_3, ↓fa_45_5, ↓ld_38, ↓len_38, ↓fa_42_0, ↓ia_38, ↓r23_2_w, ↓s23_3_w, ↓r23_4_w, ↓s23_5_w, ↓r23_6_w, ↓s23_7_w, ↓s23_8_w, ↓r23_9_w, ↓s23_10_w, ↓s23_11_w, ↓s23_12_w, ↓r23_13_w, ↓s23_14_w, ↓s23_15_w, onV_some', brK_true, brK_false, true_and, ne_eq, Nat.reduceEqDiff, Nat.reduceAdd, not_false_eq_true, Nat.add_zero, Addr.add_lit, Int.toNat_natCast, Bool.false_eq_true,  ↓e10, ↓e8, ↓e9, ↓a1, ↓a2, ↓a3, ↓d5, d0]))
    · rename_i he hf
      rw [if_pos he] at hc
      have hs : fineR d.runs g aff k = hasB aff k := by unfold fineR; rw [hk?, he]; simp
      refine refHas_ret haff ?_
      repeat' (first | done | ((with_reducible refine brK_yes ?_ ?_); (· omega)) | ((with_reducible refine brK_no ?_ ?_); (· omega)) | (with_reducible refine brK_both (fun _ => ?_) (fun _ => ?_)) | ((with_reducible refine And.intro (And.intro ?_ ?_) ?_); (· omega); (· omega)) | ((with_reducible refine And.intro ?_ ?_); (· omega)) | ((with_reducible refine st_newM ?_ ?_); (· rfl)) | ((with_reducible refine bs_oneM ?_ ?_); (· rfl)) | (with_reducible refine bd_of (by with_unfolding_all (simp only [fillL_cons, fillL_nil, nth_eq, blt_eq, cond_beq, over, Value.cells, List.getElem?_cons_zero, List.getElem?_cons_succ, List.length_cons, List.length_nil, Nat.reduceAdd, Nat.reduceSub, Nat.reduceLT, Nat.reduceEqDiff, decide_true, cond_true, Option.map_some, if_true, if_false, Nat.add_one_sub_one, Nat.succ_ne_zero, reduceCtorEq, OfNat.ofNat]; rfl)) ?_) | (with_reducible refine bda_of (by with_unfolding_all rfl) ?_) | (simp -dsimp only [↓cw_ops, ↓seqK_normal, ↓blockK_normal, ↓loopK_normal, ↓getK_same, ↓getK_ne, ↓evK_tmp, ↓evK_int, ↓condV_var, ↓opsW_nil, ↓opsW_d, ↓opW_move, ↓opW_assign, ↓opW_pick, ↓opW_bin, ↓bin_add, ↓r23_2_w, ↓s23_3_w, true_and, ne_eq, Nat.reduceEqDiff, Nat.reduceAdd, not_false_eq_true, Nat.add_zero, Addr.add_lit, Int.toNat_natCast, ↓e10]))
      refine ⟨d.runs.length - (k + 1), by omega, k + 1, by omega, rfl, by simp [T.get_set, wrap_succ (show k ≤ 4611686018427387904 by omega)], ?_, ?_⟩
      · simp [T.get_set, hc, wrap_succ (show (d.runs.take k).count g ≤ 4611686018427387904 by omega)]
      · simp [T.get_set, hu, hf, hs]
    · rename_i he hf
      rw [if_pos he] at hc
      refine ⟨d.runs.length - (k + 1), by omega, k + 1, by omega, rfl, by simp [T.get_set, wrap_succ (show k ≤ 4611686018427387904 by omega)], ?_, ?_⟩
      · simp [T.get_set, hc, wrap_succ (show (d.runs.take k).count g ≤ 4611686018427387904 by omega)]
      · have hf : allUp (fineR d.runs g aff) k = false := by simpa using hf
        simp [T.get_set, hu, hf]
    · rename_i he
      rw [if_neg he] at hc
      have hs : fineR d.runs g aff k = true := by unfold fineR; rw [hk?]; simp [he]
      refine ⟨d.runs.length - (k + 1), by omega, k + 1, by omega, rfl, by simp [T.get_set, wrap_succ (show k ≤ 4611686018427387904 by omega)], ?_, ?_⟩
      · simp only [T.get_set, hc]; simpa using g8
      · simp only [T.get_set, hu, hs, Bool.and_true]; simpa using g9
  · have e : k = d.runs.length := by omega
    subst e
    rw [List.take_length] at e8
    repeat' (first | done | ((with_reducible refine brK_yes ?_ ?_); (· omega)) | ((with_reducible refine brK_no ?_ ?_); (· omega)) | (with_reducible refine brK_both (fun _ => ?_) (fun _ => ?_)) | ((with_reducible refine And.intro (And.intro ?_ ?_) ?_); (· omega); (· omega)) | ((with_reducible refine And.intro ?_ ?_); (· omega)) | ((with_reducible refine st_newM ?_ ?_); (· rfl)) | ((with_reducible refine bs_oneM ?_ ?_); (· rfl)) | (with_reducible refine bd_of (by with_unfolding_all (simp only [fillL_cons, fillL_nil, nth_eq, blt_eq, cond_beq, over, Value.cells, List.getElem?_cons_zero, List.getElem?_cons_succ, List.length_cons, List.length_nil, Nat.reduceAdd, Nat.reduceSub, Nat.reduceLT, Nat.reduceEqDiff, decide_true, cond_true, Option.map_some, if_true, if_false, Nat.add_one_sub_one, Nat.succ_ne_zero, reduceCtorEq, OfNat.ofNat]; rfl)) ?_) | (with_reducible refine bda_of (by with_unfolding_all rfl) ?_) | (simp -dsimp only [↓cw_ops, ↓cw_seq, ↓cw_exit, ↓cw_ret, ↓cw_cond, ↓seqK_normal, ↓seqK_exit, ↓blockK_same, ↓loopK_exit, ↓getK_same, ↓getK_ne, ↓evK_tmp, ↓condV_var, ↓opsW_nil, ↓opsW_d, ↓opW_move, ↓opW_assign, ↓opW_bin, ↓bin_lss, ↓ld1_some, ↓fldA_some, ↓lenS_some, ↓resK_two, ↓fa_45_5, ↓ld_38, ↓len_38, ↓fa_42_0, ↓r23_0_w, ↓s23_1_w, ↓s23_12_w, ↓r23_13_w, ↓s23_14_w, ↓s23_15_w, onV_some', brK_false, ne_eq, Nat.reduceEqDiff, Nat.reduceAdd, not_false_eq_true, Nat.add_zero, Addr.add_lit, Bool.false_eq_true,  ↓e10, ↓e8, ↓e9, ↓a3, ↓d5]))
    exact hK _ X

/-! timers -/
def fineT (l : List TimerD) (g untl : Int) (p : Nat) : Bool := match l[p]? with | some t => decide (t.id = g → t.at_ = untl) | none => true
theorem timers_ret {B : Nat} {a : VA} {d : ViewD} {g untl : Int} {h : Heap} {K : Value → Heap → Prop} (ho : OnceP d) (hB : B ≤ h.n) (hv : VOK B h a d)
    (hK : ∀ h', ExtB h.n h h' → K (.tuple #[.int .i64 ((d.timers.map TimerD.id).count g : Nat), .bool (allUp (fineT d.timers g untl) d.timers.length)]) h') : Ret env (.func 24) [.agg ⟨vcells a d⟩, .int .i64 g, .int .u64 untl] h K := by
  have hl : d.timers.length ≤ 200 := by have := ho.sum; omega
  refine F24 rfl ?_
  simp -dsimp only [↓cw_ops, ↓cw_seq, ↓cw_block, ↓seqK_normal, ↓getK_same, ↓getK_ne, ↓evK_tmp, ↓evK_int, ↓evK_bool, ↓opsW_nil, ↓opsW_d, ↓opW_assign, ↓setAll_cons, ↓setAll_nil, ↓opW_box, ↓box_agg, ↓s24_16_w, ↓s24_17_w, ↓r24_18_w, ↓s24_19_w, ↓s24_20_w, ↓r24_21_w, ↓s24_22_w, ↓r24_23_w, ↓s24_24_w, true_and, ne_eq, Nat.reduceEqDiff, Nat.reduceAdd, not_false_eq_true, Nat.one_ne_zero, vcells_one a d]
  have V := VBox.new h a d 45
  have X : ExtB h.n h (newBlk h (.cells (vcells a d) 45 true)) := ExtB.new _ (Nat.le_refl _)
  generalize newBlk h (.cells (vcells a d) 45 true) = h1 at V X ⊢
  have hv := hv.ext (X.mono hB)
  have d11 := V.get 11 _ rfl
  refine cw_loopI (fun n fr h' => h1 = h' ∧ ∃ k : Nat, k ≤ d.timers.length ∧ n = d.timers.length - k ∧ fr.get 10 = some (.int .i64 k) ∧ fr.get 8 = some (.int .i64 (((d.timers.map TimerD.id).take k).count g : Nat)) ∧ fr.get 9 = some (.bool (allUp (fineT d.timers g untl) k))) d.timers.length ?_ (by omega) ?_
  · exact ⟨rfl, 0, by omega, by omega, by simp [T.get_set], by simp [T.get_set], by simp [T.get_set, allUp]⟩
  rintro n fr h' ⟨rfl, k, hk, rfl, g10, g8, g9⟩ hag
  have e10 := getK_of g10
  have e8 := getK_of g8
  have e9 := getK_of g9
  have a1 := getK_eq (hag 1 rfl)
  have a2 := getK_eq (hag 2 rfl)
  have a3 := getK_eq (hag 3 rfl)
  by_cases hlt : k < d.timers.length
  · obtain ⟨b0, off, hra, hb, dd⟩ := hv.timers k (by simpa using hlt)
    simp only [List.getElem_map, TimerD.cells] at dd
    have d0 := cellAt_of dd (j := 0) rfl
    have d1 := cellAt_of dd (j := 1) rfl
    simp only [Nat.add_zero] at d0
    rw [hra] at d11
    have hc := count_succ (l := d.timers.map TimerD.id) (g := g) (by simpa using hlt)
    have hcl := count_le (l := d.timers.map TimerD.id) (g := g) (k := k)
    rw [List.length_map] at hcl
    rw [List.getElem_map] at hc
    have hu := allUp_succ (fineT d.timers g untl) k
    have hk? : d.timers[k]? = some d.timers[k] := List.getElem?_eq_getElem hlt
    repeat' (first | done | ((with_reducible refine brK_yes ?_ ?_); (· omega)) | ((with_reducible refine brK_no ?_ ?_); (· omega)) | (with_reducible refine brK_both (fun _ => ?_) (fun _ => ?_)) | ((with_reducible refine And.intro (And.intro ?_ ?_) ?_); (· omega); (· omega)) | ((with_reducible refine And.intro ?_ ?_); (· omega)) | ((with_reducible refine st_newM ?_ ?_); (· rfl)) | ((with_reducible refine bs_oneM ?_ ?_); (· rfl)) | (with_reducible refine bd_of (by with_unfolding_all (simp only [fillL_cons, fillL_nil, nth_eq, blt_eq, cond_beq, over, Value.cells, List.getElem?_cons_zero, List.getElem?_cons_succ, List.length_cons, List.length_nil, Nat.reduceAdd, Nat.reduceSub, Nat.reduceLT, Nat.reduceEqDiff, decide_true, cond_true, Option.map_some, if_true, if_false, Nat.add_one_sub_one, Nat.succ_ne_zero, reduceCtorEq, OfNat.ofNat]; rfl)) ?_) | (with_reducible refine bda_of (by with_unfolding_all rfl) ?_) | (simp -dsimp only [↓cw_skip, ↓cw_ops, ↓cw_seq, ↓cw_block, ↓cw_cond, ↓seqK_normal, ↓blockK_normal, ↓loopK_normal, ↓getK_same, ↓getK_ne, ↓evK_tmp, ↓evK_int, ↓evK_bool, ↓condV_var, ↓gdV_var, ↓opsW_nil, ↓opsW_d, ↓opsW_gd, ↓opW_move, ↓opW_assign, ↓opW_pick, ↓opW_bin, ↓bin_add, ↓bin_eql, ↓bin_lss, ↓ld1_some, ↓fldA_some, ↓idxS_some, ↓lenS_some, ↓ld_3, ↓fa_45_6, ↓ld_43, ↓len_43, ↓ld_22, ↓ia_43, ↓fa_78_1, ↓fa_78_0, ↓r24_2_w, ↓s24_3_w, ↓r24_4_w, ↓s24_5_w, ↓r24_6_w, ↓s24_7_w, ↓s24_8_w, ↓r24_9_w, ↓s24_10_w, ↓s24_11_w, ↓s24_12_w, ↓r24_13_w, ↓s24_14_w, ↓s24_15_w, onV_some', brK_true, brK_false, true_and, ne_eq, Nat.reduceEqDiff, Nat.reduceAdd, not_false_eq_true, Nat.add_zero, Addr.add_lit, Int.toNat_natCast, Bool.false_eq_true,  ↓e10, ↓e8, ↓e9, ↓a1, ↓a2, ↓a3, ↓d11, d0, d1, Nat.add_zero]))
    · rename_i he hf hat
      rw [if_pos he] at hc
      have hs : fineT d.timers g untl k = true := by unfold fineT; rw [hk?]; simp [hat]
      refine ⟨d.timers.length - (k + 1), by omega, k + 1, by omega, rfl, by simp [T.get_set, wrap_succ (show k ≤ 4611686018427387904 by omega)], ?_, ?_⟩
      · simp [T.get_set, hc, wrap_succ (show ((d.timers.map TimerD.id).take k).count g ≤ 4611686018427387904 by omega)]
      · simp [T.get_set, hu, hf, hs]
    · rename_i he hf hat
      rw [if_pos he] at hc
      have hs : fineT d.timers g untl k = false := by unfold fineT; rw [hk?]; simp [hat, he]
      refine ⟨d.timers.length - (k + 1), by omega, k + 1, by omega, rfl, by simp [T.get_set, wrap_succ (show k ≤ 4611686018427387904 by omega)], ?_, ?_⟩
      · simp [T.get_set, hc, wrap_succ (show ((d.timers.map TimerD.id).take k).count g ≤ 4611686018427387904 by omega)]
      · simp [T.get_set, hu, hf, hs]
    · rename_i he hf
      rw [if_pos he] at hc
      refine ⟨d.timers.length - (k + 1), by omega, k + 1, by omega, rfl, by simp [T.get_set, wrap_succ (show k ≤ 4611686018427387904 by omega)], ?_, ?_⟩
      · simp [T.get_set, hc, wrap_succ (show ((d.timers.map TimerD.id).take k).count g ≤ 4611686018427387904 by omega)]
      · have hf : allUp (fineT d.timers g untl) k = false := by simpa using hf
        simp [T.get_set, hu, hf]
    · rename_i he
      rw [if_neg he] at hc
      have hs : fineT d.timers g untl k = true := by unfold fineT; rw [hk?]; simp [he]
      refine ⟨d.timers.length - (k + 1), by omega, k + 1, by omega, rfl, by simp [T.get_set, wrap_succ (show k ≤ 4611686018427387904 by omega)], ?_, ?_⟩
      · simp only [T.get_set, hc]; simpa using g8
      · simp only [T.get_set, hu, hs, Bool.and_true]; simpa using g9
  · have e : k = d.timers.length := by omega
    subst e
    rw [List.take_of_length_le (by simp)] at e8
    repeat' (first | done | ((with_reducible refine brK_yes ?_ ?_); (· omega)) | ((with_reducible refine brK_no ?_ ?_); (· omega)) | (with_reducible refine brK_both (fun _ => ?_) (fun _ => ?_)) | ((with_reducible refine And.intro (And.intro ?_ ?_) ?_); (· omega); (· omega)) | ((with_reducible refine And.intro ?_ ?_); (· omega)) | ((with_reducible refine st_newM ?_ ?_); (· rfl)) | ((with_reducible refine bs_oneM ?_ ?_); (· rfl)) | (with_reducible refine bd_of (by with_unfolding_all (simp only [fillL_cons, fillL_nil, nth_eq, blt_eq, cond_beq, over, Value.cells, List.getElem?_cons_zero, List.getElem?_cons_succ, List.length_cons, List.length_nil, Nat.reduceAdd, Nat.reduceSub, Nat.reduceLT, Nat.reduceEqDiff, decide_true, cond_true, Option.map_some, if_true, if_false, Nat.add_one_sub_one, Nat.succ_ne_zero, reduceCtorEq, OfNat.ofNat]; rfl)) ?_) | (with_reducible refine bda_of (by with_unfolding_all rfl) ?_) | (simp -dsimp only [↓cw_ops, ↓cw_seq, ↓cw_exit, ↓cw_ret, ↓cw_cond, ↓seqK_normal, ↓seqK_exit, ↓blockK_same, ↓loopK_exit, ↓getK_same, ↓getK_ne, ↓evK_tmp, ↓condV_var, ↓opsW_nil, ↓opsW_d, ↓opW_move, ↓opW_assign, ↓opW_bin, ↓bin_lss, ↓ld1_some, ↓fldA_some, ↓lenS_some, ↓resK_two, ↓fa_45_6, ↓ld_43, ↓len_43, ↓r24_0_w, ↓s24_1_w, ↓s24_12_w, ↓r24_13_w, ↓s24_14_w, ↓s24_15_w, onV_some', brK_false, ne_eq, Nat.reduceEqDiff, Nat.reduceAdd, not_false_eq_true, Addr.add_lit, Bool.false_eq_true,  ↓e10, ↓e8, ↓e9, ↓a3, ↓d11]))
    exact hK _ X

/-! who stands in a queue -/
def ringsOf (d : ViewD) : List Int := (d.rings.map RingD.l).flatten
theorem ring_len {d : ViewD} (ho : OnceP d) {r : RingD} (hr : r ∈ d.rings) : r.l.length ≤ 200 := by
  have := ho.sum
  have : ∀ (l : List RingD), r ∈ l → r.l.length ≤ (l.map (·.l.length)).sum := by
    intro l
    induction l with
    | nil => intro h; cases h
    | cons x l ih =>
      intro h
      rcases List.mem_cons.1 h with rfl | h
      · simp
      · have := ih h; simp; omega
  have := this _ hr
  omega
theorem ringsUp_len {d : ViewD} (ho : OnceP d) (k : Nat) : ((d.rings.take k).map RingD.l).flatten.length ≤ 200 := by
  have h1 : ((d.rings.take k).map RingD.l).flatten.length ≤ ((d.rings).map RingD.l).flatten.length := by
    rw [List.map_take]
    conv => rhs; rw [← List.take_append_drop k (d.rings.map RingD.l)]
    rw [List.flatten_append, List.length_append]
    omega
  have h2 : ((d.rings).map RingD.l).flatten.length = (d.rings.map (·.l.length)).sum := by
    rw [List.length_flatten, List.map_map]; rfl
  have := ho.sum
  omega
theorem queues_ret {B : Nat} {a : VA} {d : ViewD} {g : Int} {h : Heap} {K : Value → Heap → Prop} (ho : OnceP d) (hB : B ≤ h.n) (hv : VOK B h a d)
    (hK : ∀ h', ExtB h.n h h' → K (.int .i64 ((d.next.count g + (ringsOf d).count g + d.global.count g : Nat) : Int)) h') : Ret env (.func 22) [.agg ⟨vcells a d⟩, .int .i64 g] h K := by
  have hln := ho.next
  have hlr := ho.rings
  have hlg : d.global.length ≤ 200 := by have := ho.sum; omega
  refine F22 rfl ?_
  simp -dsimp only [↓cw_ops, ↓cw_seq, ↓cw_block, ↓seqK_normal, ↓getK_same, ↓getK_ne, ↓evK_tmp, ↓evK_int, ↓opsW_nil, ↓opsW_d, ↓opW_assign, ↓setAll_cons, ↓setAll_nil, ↓opW_box, ↓box_agg, ↓s22_59_w, ↓s22_60_w, ↓r22_61_w, ↓s22_62_w, ↓s22_63_w, ↓r22_64_w, ↓s22_65_w, ↓r22_66_w, ↓s22_67_w, true_and, ne_eq, Nat.reduceAdd, not_false_eq_true, Nat.one_ne_zero, vcells_one a d]
  have V := VBox.new h a d 45
  have X : ExtB h.n h (newBlk h (.cells (vcells a d) 45 true)) := ExtB.new _ (Nat.le_refl _)
  generalize newBlk h (.cells (vcells a d) 45 true) = h1 at V X ⊢
  have hv := hv.ext (X.mono hB)
  have d6 := V.get 6 _ rfl
  have d7 := V.get 7 _ rfl
  have d10 := V.get 10 _ rfl
  refine cw_loopI (fun n fr h' => h1 = h' ∧ ∃ k : Nat, k ≤ d.next.length ∧ n = d.next.length - k ∧ fr.get 6 = some (.int .i64 k) ∧ fr.get 5 = some (.int .i64 ((d.next.take k).count g : Nat))) d.next.length ?_ (by omega) ?_
  · exact ⟨rfl, 0, by omega, by omega, by simp [T.get_set], by simp [T.get_set]⟩
  rintro n fr h' ⟨rfl, k, hk, rfl, g6, g5⟩ hag
  have e6 := getK_of g6
  have e5 := getK_of g5
  have a1 := getK_eq (hag 1 rfl)
  have a2 := getK_eq (hag 2 rfl)
  by_cases hlt : k < d.next.length
  · obtain ⟨b0, off, hra, hb, dd⟩ := hv.next k (by simpa using hlt)
    simp only [List.getElem_map, intCells] at dd
    have d0 := cellAt_of dd (j := 0) rfl
    simp only [Nat.add_zero] at d0
    rw [hra] at d6
    have hc := count_succ (l := d.next) (g := g) hlt
    have hcl := count_le (l := d.next) (g := g) (k := k)
    repeat' (first | done | ((with_reducible refine brK_yes ?_ ?_); (· omega)) | ((with_reducible refine brK_no ?_ ?_); (· omega)) | (with_reducible refine brK_both (fun _ => ?_) (fun _ => ?_)) | ((with_reducible refine And.intro (And.intro ?_ ?_) ?_); (· omega); (· omega)) | ((with_reducible refine And.intro ?_ ?_); (· omega)) | ((with_reducible refine st_newM ?_ ?_); (· rfl)) | ((with_reducible refine bs_oneM ?_ ?_); (· rfl)) | (with_reducible refine bd_of (by with_unfolding_all (simp only [fillL_cons, fillL_nil, nth_eq, blt_eq, cond_beq, over, Value.cells, List.getElem?_cons_zero, List.getElem?_cons_succ, List.length_cons, List.length_nil, Nat.reduceAdd, Nat.reduceSub, Nat.reduceLT, Nat.reduceEqDiff, decide_true, cond_true, Option.map_some, if_true, if_false, Nat.add_one_sub_one, Nat.succ_ne_zero, reduceCtorEq, OfNat.ofNat]; rfl)) ?_) | (with_reducible refine bda_of (by with_unfolding_all rfl) ?_) | (simp -dsimp only [↓cw_skip, ↓cw_ops, ↓cw_seq, ↓cw_block, ↓cw_cond, ↓seqK_normal, ↓blockK_normal, ↓loopK_normal, ↓getK_same, ↓getK_ne, ↓evK_tmp, ↓evK_int, ↓condV_var, ↓opsW_nil, ↓opsW_d, ↓opW_move, ↓opW_assign, ↓opW_bin, ↓bin_add, ↓bin_eql, ↓bin_lss, ↓ld1_some, ↓fldA_some, ↓idxS_some, ↓lenS_some, ↓ld_3, ↓fa_45_5, ↓ld_38, ↓len_38, ↓fa_42_1, ↓ia_38, ↓r22_47_w, ↓s22_48_w, ↓r22_49_w, ↓s22_50_w, ↓s22_51_w, ↓r22_52_w, ↓s22_53_w, ↓s22_54_w, ↓s22_55_w, ↓r22_56_w, ↓s22_57_w, ↓s22_58_w, onV_some', brK_true, brK_false, true_and, ne_eq, Nat.reduceEqDiff, Nat.reduceAdd, not_false_eq_true, Addr.add_lit, Int.toNat_natCast, Bool.false_eq_true,  ↓e6, ↓e5, ↓a1, ↓a2, ↓d6, d0]))
    · rename_i he
      rw [if_pos he] at hc
      refine ⟨d.next.length - (k + 1), by omega, k + 1, by omega, rfl, by simp [T.get_set, wrap_succ (show k ≤ 4611686018427387904 by omega)], ?_⟩
      simp [T.get_set, hc, wrap_succ (show (d.next.take k).count g ≤ 4611686018427387904 by omega)]
    · rename_i he
      rw [if_neg he] at hc
      refine ⟨d.next.length - (k + 1), by omega, k + 1, by omega, rfl, by simp [T.get_set, wrap_succ (show k ≤ 4611686018427387904 by omega)], ?_⟩
      simp only [T.get_set, hc]; simpa using g5
  have e : k = d.next.length := by omega
  subst e
  rw [List.take_length] at e5 g5
  have hcn : d.next.count g ≤ d.next.length := List.count_le_length
  generalize hN : d.next.count g = N at e5 g5 hcn
  rw [hN] at hK
  repeat' (first | done | ((with_reducible refine brK_yes ?_ ?_); (· omega)) | ((with_reducible refine brK_no ?_ ?_); (· omega)) | (with_reducible refine brK_both (fun _ => ?_) (fun _ => ?_)) | ((with_reducible refine And.intro (And.intro ?_ ?_) ?_); (· omega); (· omega)) | ((with_reducible refine And.intro ?_ ?_); (· omega)) | ((with_reducible refine st_newM ?_ ?_); (· rfl)) | ((with_reducible refine bs_oneM ?_ ?_); (· rfl)) | (with_reducible refine bd_of (by with_unfolding_all (simp only [fillL_cons, fillL_nil, nth_eq, blt_eq, cond_beq, over, Value.cells, List.getElem?_cons_zero, List.getElem?_cons_succ, List.length_cons, List.length_nil, Nat.reduceAdd, Nat.reduceSub, Nat.reduceLT, Nat.reduceEqDiff, decide_true, cond_true, Option.map_some, if_true, if_false, Nat.add_one_sub_one, Nat.succ_ne_zero, reduceCtorEq, OfNat.ofNat]; rfl)) ?_) | (with_reducible refine bda_of (by with_unfolding_all rfl) ?_) | (simp -dsimp only [↓cw_ops, ↓cw_seq, ↓cw_block, ↓cw_exit, ↓cw_cond, ↓seqK_normal, ↓seqK_exit, ↓blockK_same, ↓loopK_exit, ↓getK_same, ↓getK_ne, ↓evK_tmp, ↓evK_int, ↓condV_var, ↓opsW_nil, ↓opsW_d, ↓opW_move, ↓opW_assign, ↓opW_bin, ↓bin_lss, ↓ld1_some, ↓fldA_some, ↓lenS_some, ↓fa_45_5, ↓ld_38, ↓len_38, ↓fa_42_1, ↓s22_42_w, ↓s22_43_w, ↓r22_44_w, ↓s22_45_w, ↓s22_46_w, ↓s22_55_w, ↓r22_56_w, ↓s22_57_w, ↓s22_58_w, onV_some', brK_false, ne_eq, Nat.reduceEqDiff, Nat.reduceAdd, not_false_eq_true, Addr.add_lit, Bool.false_eq_true,  ↓e6, ↓a2, ↓d6]))
  refine cw_loopI (fun n fr h' => h1 = h' ∧ ∃ k : Nat, k ≤ d.rings.length ∧ n = d.rings.length - k ∧ fr.get 7 = some (.int .i64 k) ∧ fr.get 5 = some (.int .i64 ((N + ((d.rings.take k).map RingD.l).flatten.count g : Nat) : Int))) d.rings.length ?_ (by omega) ?_
  · exact ⟨rfl, 0, by omega, by omega, by simp [T.get_set], by simpa [T.get_set] using g5⟩
  rintro n fr2 h' ⟨rfl, k, hk, rfl, g7, g5⟩ hag2
  have e7 := getK_of g7
  have e5 := getK_of g5
  have b1 := getK_eq (hag2 1 rfl)
  have b2 := getK_eq (hag2 2 rfl)
  by_cases hlt2 : k < d.rings.length
  · obtain ⟨b0, off, hra, hb, dd⟩ := hv.rings k (by simpa using hlt2)
    simp only [List.getElem_map, RingD.cells] at dd
    have dr := cellAt_of dd (j := 0) rfl
    simp only [Nat.add_zero] at dr
    have d7' := d7
    rw [hra] at d7'
    have hmem : d.rings[k] ∈ d.rings := List.getElem_mem _
    have hring := hv.ring _ hmem
    have hrl := ring_len ho hmem
    have hup := ringsUp_len ho (k + 1)
    have hsucc : ((d.rings.take (k + 1)).map RingD.l).flatten = ((d.rings.take k).map RingD.l).flatten ++ d.rings[k].l := by
      rw [List.take_succ_eq_append_getElem hlt2]; simp only [List.map_append, List.flatten_append, List.map_cons, List.map_nil, List.flatten_cons, List.flatten_nil, List.append_nil]
    rw [hsucc, List.length_append] at hup
    have hcu : ((d.rings.take k).map RingD.l).flatten.count g ≤ ((d.rings.take k).map RingD.l).flatten.length := List.count_le_length
    generalize hM : ((d.rings.take k).map RingD.l).flatten.count g = M at e5 g5 hcu
    generalize hR : d.rings[k].l = R at hring hrl hup dr hsucc
    generalize hra' : d.rings[k].a = ra at hring dr
    repeat' (first | done | ((with_reducible refine brK_yes ?_ ?_); (· omega)) | ((with_reducible refine brK_no ?_ ?_); (· omega)) | (with_reducible refine brK_both (fun _ => ?_) (fun _ => ?_)) | ((with_reducible refine And.intro (And.intro ?_ ?_) ?_); (· omega); (· omega)) | ((with_reducible refine And.intro ?_ ?_); (· omega)) | ((with_reducible refine st_newM ?_ ?_); (· rfl)) | ((with_reducible refine bs_oneM ?_ ?_); (· rfl)) | (with_reducible refine bd_of (by with_unfolding_all (simp only [fillL_cons, fillL_nil, nth_eq, blt_eq, cond_beq, over, Value.cells, List.getElem?_cons_zero, List.getElem?_cons_succ, List.length_cons, List.length_nil, Nat.reduceAdd, Nat.reduceSub, Nat.reduceLT, Nat.reduceEqDiff, decide_true, cond_true, Option.map_some, if_true, if_false, Nat.add_one_sub_one, Nat.succ_ne_zero, reduceCtorEq, OfNat.ofNat]; rfl)) ?_) | (with_reducible refine bda_of (by with_unfolding_all rfl) ?_) | (simp -dsimp only [↓cw_skip, ↓cw_ops, ↓cw_seq, ↓cw_block, ↓cw_cond, ↓seqK_normal, ↓getK_same, ↓getK_ne, ↓evK_tmp, ↓evK_int, ↓condV_var, ↓opsW_nil, ↓opsW_d, ↓opW_move, ↓opW_assign, ↓opW_bin, ↓bin_lss, ↓ld1_some, ↓fldA_some, ↓lenS_some, ↓fa_45_5, ↓fa_42_2, ↓ld_39, ↓len_39, ↓s22_33_w, ↓s22_34_w, ↓r22_35_w, ↓s22_36_w, ↓s22_37_w, ↓s22_38_w, ↓r22_39_w, ↓s22_40_w, ↓s22_41_w, onV_some', brK_true, ne_eq, Nat.reduceEqDiff, Nat.reduceAdd, not_false_eq_true, Addr.add_lit, ↓e7, ↓a2, ↓b2, ↓d7']))
    refine cw_loopI (fun n fr h' => h1 = h' ∧ ∃ j : Nat, j ≤ R.length ∧ n = R.length - j ∧ fr.get 8 = some (.int .i64 j) ∧ fr.get 5 = some (.int .i64 ((N + (M + (R.take j).count g) : Nat) : Int))) R.length ?_ (by omega) ?_
    · exact ⟨rfl, 0, by omega, by omega, by simp [T.get_set], by simpa [T.get_set] using g5⟩
    rintro n fr3 h' ⟨rfl, j, hj, rfl, g8, g5'⟩ hag3
    have e8 := getK_of g8
    have e5' := getK_of g5'
    have c1 := getK_eq (hag3 1 rfl)
    have c2 := getK_eq (hag3 2 rfl)
    have c7 := getK_eq (hag3 7 rfl)
    by_cases hlt3 : j < R.length
    · obtain ⟨b2', off2, hra2, hb2, dd2⟩ := hring j (by simpa using hlt3)
      simp only [List.getElem_map, intCells] at dd2
      have d0 := cellAt_of dd2 (j := 0) rfl
      simp only [Nat.add_zero] at d0
      have dr' := dr
      rw [hra2] at dr'
      have hc := count_succ (l := R) (g := g) hlt3
      have hcl := count_le (l := R) (g := g) (k := j)
      repeat' (first | done | ((with_reducible refine brK_yes ?_ ?_); (· omega)) | ((with_reducible refine brK_no ?_ ?_); (· omega)) | (with_reducible refine brK_both (fun _ => ?_) (fun _ => ?_)) | ((with_reducible refine And.intro (And.intro ?_ ?_) ?_); (· omega); (· omega)) | ((with_reducible refine And.intro ?_ ?_); (· omega)) | ((with_reducible refine st_newM ?_ ?_); (· rfl)) | ((with_reducible refine bs_oneM ?_ ?_); (· rfl)) | (with_reducible refine bd_of (by with_unfolding_all (simp only [fillL_cons, fillL_nil, nth_eq, blt_eq, cond_beq, over, Value.cells, List.getElem?_cons_zero, List.getElem?_cons_succ, List.length_cons, List.length_nil, Nat.reduceAdd, Nat.reduceSub, Nat.reduceLT, Nat.reduceEqDiff, decide_true, cond_true, Option.map_some, if_true, if_false, Nat.add_one_sub_one, Nat.succ_ne_zero, reduceCtorEq, OfNat.ofNat]; rfl)) ?_) | (with_reducible refine bda_of (by with_unfolding_all rfl) ?_) | (simp -dsimp only [↓cw_skip, ↓cw_ops, ↓cw_seq, ↓cw_block, ↓cw_cond, ↓seqK_normal, ↓blockK_normal, ↓loopK_normal, ↓getK_same, ↓getK_ne, ↓evK_tmp, ↓evK_int, ↓condV_var, ↓opsW_nil, ↓opsW_d, ↓opW_move, ↓opW_assign, ↓opW_bin, ↓bin_add, ↓bin_eql, ↓bin_lss, ↓ld1_some, ↓fldA_some, ↓idxS_some, ↓lenS_some, ↓ld_3, ↓fa_45_5, ↓ld_38, ↓len_38, ↓fa_42_2, ↓ld_39, ↓ia_39, ↓ia_38, ↓r22_21_w, ↓s22_22_w, ↓r22_23_w, ↓s22_24_w, ↓s22_25_w, ↓r22_26_w, ↓s22_27_w, ↓s22_28_w, ↓s22_29_w, ↓r22_30_w, ↓s22_31_w, ↓s22_32_w, onV_some', brK_true, brK_false, true_and, ne_eq, Nat.reduceEqDiff, Nat.reduceAdd, not_false_eq_true, Addr.add_lit, Int.toNat_natCast, Bool.false_eq_true,  ↓e7, ↓e8, ↓e5', ↓a1, ↓a2, ↓b1, ↓b2, ↓c1, ↓c2, ↓c7, ↓d7', dr', d0]))
      · rename_i he
        rw [if_pos he] at hc
        refine ⟨R.length - (j + 1), by omega, j + 1, by omega, rfl, by simp [T.get_set, wrap_succ (show j ≤ 4611686018427387904 by omega)], ?_⟩
        simp only [T.get_set, wrap_succ (show N + (M + (R.take j).count g) ≤ 4611686018427387904 by omega), hc]
        simp [Nat.add_assoc]
      · rename_i he
        rw [if_neg he] at hc
        refine ⟨R.length - (j + 1), by omega, j + 1, by omega, rfl, by simp [T.get_set, wrap_succ (show j ≤ 4611686018427387904 by omega)], ?_⟩
        simp only [T.get_set, hc]; simpa using g5'
    · have e : j = R.length := by omega
      subst e
      rw [List.take_length] at e5' g5'
      repeat' (first | done | ((with_reducible refine brK_yes ?_ ?_); (· omega)) | ((with_reducible refine brK_no ?_ ?_); (· omega)) | (with_reducible refine brK_both (fun _ => ?_) (fun _ => ?_)) | ((with_reducible refine And.intro (And.intro ?_ ?_) ?_); (· omega); (· omega)) | ((with_reducible refine And.intro ?_ ?_); (· omega)) | ((with_reducible refine st_newM ?_ ?_); (· rfl)) | ((with_reducible refine bs_oneM ?_ ?_); (· rfl)) | (with_reducible refine bd_of (by with_unfolding_all (simp only [fillL_cons, fillL_nil, nth_eq, blt_eq, cond_beq, over, Value.cells, List.getElem?_cons_zero, List.getElem?_cons_succ, List.length_cons, List.length_nil, Nat.reduceAdd, Nat.reduceSub, Nat.reduceLT, Nat.reduceEqDiff, decide_true, cond_true, Option.map_some, if_true, if_false, Nat.add_one_sub_one, Nat.succ_ne_zero, reduceCtorEq, OfNat.ofNat]; rfl)) ?_) | (with_reducible refine bda_of (by with_unfolding_all rfl) ?_) | (simp -dsimp only [↓cw_ops, ↓cw_seq, ↓cw_exit, ↓cw_cond, ↓seqK_normal, ↓seqK_exit, ↓blockK_normal, ↓blockK_same, ↓loopK_normal, ↓loopK_exit, ↓getK_same, ↓getK_ne, ↓evK_tmp, ↓evK_int, ↓condV_var, ↓opsW_nil, ↓opsW_d, ↓opW_move, ↓opW_assign, ↓opW_bin, ↓bin_add, ↓bin_lss, ↓ld1_some, ↓fldA_some, ↓idxS_some, ↓lenS_some, ↓fa_45_5, ↓ld_38, ↓len_38, ↓fa_42_2, ↓ld_39, ↓ia_39, ↓r22_19_w, ↓s22_20_w, ↓s22_29_w, ↓r22_30_w, ↓s22_31_w, ↓s22_32_w, onV_some', brK_false, true_and, ne_eq, Nat.reduceEqDiff, Nat.reduceAdd, not_false_eq_true, Addr.add_lit, Int.toNat_natCast, Bool.false_eq_true,  ↓e7, ↓e8, ↓a2, ↓b2, ↓c2, ↓c7, ↓d7', dr]))
      refine ⟨d.rings.length - (k + 1), by omega, k + 1, by omega, rfl, by simp [T.get_set, wrap_succ (show k ≤ 4611686018427387904 by omega)], ?_⟩
      simp only [T.get_set, hsucc, List.count_append, hM]; simpa using g5'
  have e : k = d.rings.length := by omega
  subst e
  rw [List.take_length] at e5 g5
  have hro : (ringsOf d).count g = (d.rings.map RingD.l).flatten.count g := rfl
  have hcu : (d.rings.map RingD.l).flatten.count g ≤ (d.rings.map RingD.l).flatten.length := List.count_le_length
  have hup := ringsUp_len ho d.rings.length
  rw [List.take_length] at hup
  rw [hro] at hK
  generalize (d.rings.map RingD.l).flatten.count g = M at e5 g5 hcu hK
  repeat' (first | done | ((with_reducible refine brK_yes ?_ ?_); (· omega)) | ((with_reducible refine brK_no ?_ ?_); (· omega)) | (with_reducible refine brK_both (fun _ => ?_) (fun _ => ?_)) | ((with_reducible refine And.intro (And.intro ?_ ?_) ?_); (· omega); (· omega)) | ((with_reducible refine And.intro ?_ ?_); (· omega)) | ((with_reducible refine st_newM ?_ ?_); (· rfl)) | ((with_reducible refine bs_oneM ?_ ?_); (· rfl)) | (with_reducible refine bd_of (by with_unfolding_all (simp only [fillL_cons, fillL_nil, nth_eq, blt_eq, cond_beq, over, Value.cells, List.getElem?_cons_zero, List.getElem?_cons_succ, List.length_cons, List.length_nil, Nat.reduceAdd, Nat.reduceSub, Nat.reduceLT, Nat.reduceEqDiff, decide_true, cond_true, Option.map_some, if_true, if_false, Nat.add_one_sub_one, Nat.succ_ne_zero, reduceCtorEq, OfNat.ofNat]; rfl)) ?_) | (with_reducible refine bda_of (by with_unfolding_all rfl) ?_) | (simp -dsimp only [↓cw_ops, ↓cw_seq, ↓cw_block, ↓cw_exit, ↓cw_cond, ↓seqK_normal, ↓seqK_exit, ↓blockK_same, ↓loopK_exit, ↓getK_same, ↓getK_ne, ↓evK_tmp, ↓evK_int, ↓condV_var, ↓opsW_nil, ↓opsW_d, ↓opW_move, ↓opW_assign, ↓opW_bin, ↓bin_lss, ↓ld1_some, ↓fldA_some, ↓lenS_some, ↓fa_45_5, ↓fa_42_2, ↓ld_39, ↓len_39, ↓s22_14_w, ↓s22_15_w, ↓r22_16_w, ↓s22_17_w, ↓s22_18_w, ↓s22_38_w, ↓r22_39_w, ↓s22_40_w, ↓s22_41_w, onV_some', brK_false, ne_eq, Nat.reduceEqDiff, Nat.reduceAdd, not_false_eq_true, Addr.add_lit, Bool.false_eq_true,  ↓e7, ↓a2, ↓b2, ↓d7]))
  refine cw_loopI (fun n fr h' => h1 = h' ∧ ∃ k : Nat, k ≤ d.global.length ∧ n = d.global.length - k ∧ fr.get 9 = some (.int .i64 k) ∧ fr.get 5 = some (.int .i64 ((N + M + (d.global.take k).count g : Nat) : Int))) d.global.length ?_ (by omega) ?_
  · exact ⟨rfl, 0, by omega, by omega, by simp [T.get_set], by simpa [T.get_set] using g5⟩
  rintro n fr3 h' ⟨rfl, k, hk, rfl, g9, g5⟩ hag3
  have e9 := getK_of g9
  have e5 := getK_of g5
  have c1 := getK_eq (hag3 1 rfl)
  have c2 := getK_eq (hag3 2 rfl)
  by_cases hlt3 : k < d.global.length
  · obtain ⟨b0, off, hra, hb, dd⟩ := hv.global k (by simpa using hlt3)
    simp only [List.getElem_map, intCells] at dd
    have d0 := cellAt_of dd (j := 0) rfl
    simp only [Nat.add_zero] at d0
    rw [hra] at d10
    have hc := count_succ (l := d.global) (g := g) hlt3
    have hcl := count_le (l := d.global) (g := g) (k := k)
    repeat' (first | done | ((with_reducible refine brK_yes ?_ ?_); (· omega)) | ((with_reducible refine brK_no ?_ ?_); (· omega)) | (with_reducible refine brK_both (fun _ => ?_) (fun _ => ?_)) | ((with_reducible refine And.intro (And.intro ?_ ?_) ?_); (· omega); (· omega)) | ((with_reducible refine And.intro ?_ ?_); (· omega)) | ((with_reducible refine st_newM ?_ ?_); (· rfl)) | ((with_reducible refine bs_oneM ?_ ?_); (· rfl)) | (with_reducible refine bd_of (by with_unfolding_all (simp only [fillL_cons, fillL_nil, nth_eq, blt_eq, cond_beq, over, Value.cells, List.getElem?_cons_zero, List.getElem?_cons_succ, List.length_cons, List.length_nil, Nat.reduceAdd, Nat.reduceSub, Nat.reduceLT, Nat.reduceEqDiff, decide_true, cond_true, Option.map_some, if_true, if_false, Nat.add_one_sub_one, Nat.succ_ne_zero, reduceCtorEq, OfNat.ofNat]; rfl)) ?_) | (with_reducible refine bda_of (by with_unfolding_all rfl) ?_) | (simp -dsimp only [↓cw_skip, ↓cw_ops, ↓cw_seq, ↓cw_block, ↓cw_cond, ↓seqK_normal, ↓blockK_normal, ↓loopK_normal, ↓getK_same, ↓getK_ne, ↓evK_tmp, ↓evK_int, ↓condV_var, ↓opsW_nil, ↓opsW_d, ↓opW_move, ↓opW_assign, ↓opW_bin, ↓bin_add, ↓bin_eql, ↓bin_lss, ↓ld1_some, ↓fldA_some, ↓idxS_some, ↓lenS_some, ↓ld_3, ↓fa_45_5, ↓fa_42_5, ↓ld_38, ↓len_38, ↓ia_38, ↓r22_2_w, ↓s22_3_w, ↓r22_4_w, ↓s22_5_w, ↓s22_6_w, ↓r22_7_w, ↓s22_8_w, ↓s22_9_w, ↓s22_10_w, ↓r22_11_w, ↓s22_12_w, ↓s22_13_w, onV_some', brK_true, brK_false, true_and, ne_eq, Nat.reduceEqDiff, Nat.reduceAdd, not_false_eq_true, Addr.add_lit, Int.toNat_natCast, Bool.false_eq_true,  ↓e9, ↓e5, ↓a1, ↓a2, ↓b1, ↓b2, ↓c1, ↓c2, ↓d10, d0]))
    · rename_i he
      rw [if_pos he] at hc
      refine ⟨d.global.length - (k + 1), by omega, k + 1, by omega, rfl, by simp [T.get_set, wrap_succ (show k ≤ 4611686018427387904 by omega)], ?_⟩
      simp only [T.get_set, wrap_succ (show N + M + (d.global.take k).count g ≤ 4611686018427387904 by omega), hc]
      simp [Nat.add_assoc]
    · rename_i he
      rw [if_neg he] at hc
      refine ⟨d.global.length - (k + 1), by omega, k + 1, by omega, rfl, by simp [T.get_set, wrap_succ (show k ≤ 4611686018427387904 by omega)], ?_⟩
      simp only [T.get_set, hc]; simpa using g5
  have e : k = d.global.length := by omega
  subst e
  rw [List.take_length] at e5
  repeat' (first | done | ((with_reducible refine brK_yes ?_ ?_); (· omega)) | ((with_reducible refine brK_no ?_ ?_); (· omega)) | (with_reducible refine brK_both (fun _ => ?_) (fun _ => ?_)) | ((with_reducible refine And.intro (And.intro ?_ ?_) ?_); (· omega); (· omega)) | ((with_reducible refine And.intro ?_ ?_); (· omega)) | ((with_reducible refine st_newM ?_ ?_); (· rfl)) | ((with_reducible refine bs_oneM ?_ ?_); (· rfl)) | (with_reducible refine bd_of (by with_unfolding_all (simp only [fillL_cons, fillL_nil, nth_eq, blt_eq, cond_beq, over, Value.cells, List.getElem?_cons_zero, List.getElem?_cons_succ, List.length_cons, List.length_nil, Nat.reduceAdd, Nat.reduceSub, Nat.reduceLT, Nat.reduceEqDiff, decide_true, cond_true, Option.map_some, if_true, if_false, Nat.add_one_sub_one, Nat.succ_ne_zero, reduceCtorEq, OfNat.ofNat]; rfl)) ?_) | (with_reducible refine bda_of (by with_unfolding_all rfl) ?_) | (simp -dsimp only [↓cw_ops, ↓cw_seq, ↓cw_exit, ↓cw_ret, ↓cw_cond, ↓seqK_normal, ↓seqK_exit, ↓blockK_same, ↓loopK_exit, ↓getK_same, ↓getK_ne, ↓evK_tmp, ↓condV_var, ↓opsW_nil, ↓opsW_d, ↓opW_move, ↓opW_assign, ↓opW_bin, ↓bin_lss, ↓ld1_some, ↓fldA_some, ↓lenS_some, ↓resK_one, ↓fa_45_5, ↓fa_42_5, ↓ld_38, ↓len_38, ↓r22_0_w, ↓s22_1_w, ↓s22_10_w, ↓r22_11_w, ↓s22_12_w, ↓s22_13_w, onV_some', brK_false, ne_eq, Nat.reduceEqDiff, Nat.reduceAdd, not_false_eq_true, Addr.add_lit, Bool.false_eq_true,  ↓e9, ↓e5, ↓a2, ↓b2, ↓c2, ↓d10]))
  exact hK _ X
end Go.Proofs.Ytdjnedamphifcaa
