/- share.Of of a text; the law. Conditions: each theorem's own. -/
import Derived.Test.YtjcmcoabckkjoaaDoorTC
set_option linter.unusedSimpArgs false
set_option linter.unusedVariables false
namespace Go.Proofs.YtjcmcoabckkjoaaDoor.Li
open Go.Ev
set_option maxRecDepth 100000
set_option maxHeartbeats 400000
/-! by contract -/
theorem cutP_ret {s p : List UInt8} {h : Heap} {K : Value → Heap → Prop} (hK : K (.tuple #[strV (Lib.trimPrefix s p), .bool (Lib.hasPrefix s p)]) h) : Ret env (.func 56) [strV s, strV p] h K :=
  extLib_ret (g := cutPG) (base := ext5) rfl rfl hK
theorem cut_ret {s p : List UInt8} {h : Heap} {K : Value → Heap → Prop} (hm : isI (cellAt h ⟨3, 0, none⟩) = true) (hs : s.length < 4294967281) (hK : K (.tuple #[strV (Lib.cut s p).1, strV (Lib.cut s p).2.1, .bool (Lib.cut s p).2.2]) h) : Ret env (.func 57) [strV s, strV p] h K := by
  refine extLib_ret (g := cutG) (base := ext6) rfl ?_ hK
  unfold strV cutG
  dsimp only
  have : (Nat.blt (⟨s.toArray⟩ : ByteArray).size 4294967281 && isI (cellAt h ⟨3, 0, none⟩)) = true := by
    rw [hm, Bool.and_true, blt_eq, str_size]; exact decide_eq_true hs
  rw [this]; rfl
theorem atoi_ret {s : List UInt8} {n : Int} {h : Heap} {K : Value → Heap → Prop} (ha : Lib.atoi s = some n) (hs : s.length ≤ 18) (hK : K (.tuple #[.int .i64 n, .nilIface]) h) : Ret env (.func 58) [strV s] h K := by
  refine extLib_ret (g := atoiG) (base := ext7) rfl ?_ hK
  unfold strV atoiG
  dsimp only
  rw [ha]
  dsimp only
  have : Nat.ble (⟨s.toArray⟩ : ByteArray).size 18 = true := by rw [ble_eq, str_size]; exact decide_eq_true hs
  rw [this]; rfl
/-! the texts of what is no odd number times a power -/
def clsC : List Nat := [9221120237041090561, 9218868437227405312, 18442240474082181120, 0, 9223372036854775808]
def clsV : List Value := clsC.map fun n => .float .f64 n
def ofT (v : Value) : Value := .tuple #[v, .int .i64 0]
theorem of_loop {s : List UInt8} {h : Heap} {K : Value → Heap → Prop} (hcls : ∀ n h', n ∈ clsC → ExtB h.n h h' → classB n = s → K (ofT (.float .f64 n)) h')
    (hrest : (∀ n ∈ clsC, classB n ≠ s) → ∀ fr h', ExtB h.n h h' → fr.get 0 = some (strV s) → s35_45.wp env 80 none fr h' (resK env [.tmp 2, .tmp 3] K)) : Ret env (.func 35) [strV s] h K := by
  refine F35 rfl ?_
  repeat' (first | done | ((with_reducible refine brK_yes ?_ ?_); (· omega)) | ((with_reducible refine brK_no ?_ ?_); (· omega)) | (with_reducible refine brK_both (fun _ => ?_) (fun _ => ?_)) | ((with_reducible refine And.intro (And.intro ?_ ?_) ?_); (· omega); (· omega)) | ((with_reducible refine And.intro ?_ ?_); (· omega)) | (with_reducible refine And.intro (show List.all _ oneCell = true from rfl) ?_) | ((with_reducible refine st_newM ?_ ?_); (· rfl)) | ((with_reducible refine bs_oneM ?_ ?_); (· rfl)) | (with_reducible refine bd_of (by with_unfolding_all (simp only [fillL_cons, fillL_nil, nth_eq, blt_eq, cond_beq, over, Value.cells, List.getElem?_cons_zero, List.getElem?_cons_succ, List.length_cons, List.length_nil, Nat.reduceAdd, Nat.reduceSub, Nat.reduceLT, Nat.reduceEqDiff, decide_true, cond_true, Option.map_some, if_true, if_false, Nat.add_one_sub_one, Nat.succ_ne_zero, reduceCtorEq, OfNat.ofNat]; rfl)) ?_) | (with_reducible refine bda_of (by with_unfolding_all rfl) ?_) | (simp -dsimp only [↓cw_ops, ↓cw_seq, ↓seqK_normal, ↓evK_int, ↓evK_float, ↓opsW_nil, ↓opsW_d, ↓opW_assign, ↓evs_nil, ↓opW_call, ↓r35_62_w, ↓s35_63_w, ↓s35_64_w, ↓r35_65_w, ↓s35_66_w]))
  refine nanf_ret ?_
  repeat' (first | done | ((with_reducible refine brK_yes ?_ ?_); (· omega)) | ((with_reducible refine brK_no ?_ ?_); (· omega)) | (with_reducible refine brK_both (fun _ => ?_) (fun _ => ?_)) | ((with_reducible refine And.intro (And.intro ?_ ?_) ?_); (· omega); (· omega)) | ((with_reducible refine And.intro ?_ ?_); (· omega)) | (with_reducible refine And.intro (show List.all _ oneCell = true from rfl) ?_) | ((with_reducible refine st_newM ?_ ?_); (· rfl)) | ((with_reducible refine bs_oneM ?_ ?_); (· rfl)) | (with_reducible refine bd_of (by with_unfolding_all (simp only [fillL_cons, fillL_nil, nth_eq, blt_eq, cond_beq, over, Value.cells, List.getElem?_cons_zero, List.getElem?_cons_succ, List.length_cons, List.length_nil, Nat.reduceAdd, Nat.reduceSub, Nat.reduceLT, Nat.reduceEqDiff, decide_true, cond_true, Option.map_some, if_true, if_false, Nat.add_one_sub_one, Nat.succ_ne_zero, reduceCtorEq, OfNat.ofNat]; rfl)) ?_) | (with_reducible refine bda_of (by with_unfolding_all rfl) ?_) | (simp -dsimp only [↓evK_int, ↓opsW_d, ↓evs_nil, ↓evs_cons, ↓opW_call]))
  refine inf_ret ?_
  repeat' (first | done | ((with_reducible refine brK_yes ?_ ?_); (· omega)) | ((with_reducible refine brK_no ?_ ?_); (· omega)) | (with_reducible refine brK_both (fun _ => ?_) (fun _ => ?_)) | ((with_reducible refine And.intro (And.intro ?_ ?_) ?_); (· omega); (· omega)) | ((with_reducible refine And.intro ?_ ?_); (· omega)) | (with_reducible refine And.intro (show List.all _ oneCell = true from rfl) ?_) | ((with_reducible refine st_newM ?_ ?_); (· rfl)) | ((with_reducible refine bs_oneM ?_ ?_); (· rfl)) | (with_reducible refine bd_of (by with_unfolding_all (simp only [fillL_cons, fillL_nil, nth_eq, blt_eq, cond_beq, over, Value.cells, List.getElem?_cons_zero, List.getElem?_cons_succ, List.length_cons, List.length_nil, Nat.reduceAdd, Nat.reduceSub, Nat.reduceLT, Nat.reduceEqDiff, decide_true, cond_true, Option.map_some, if_true, if_false, Nat.add_one_sub_one, Nat.succ_ne_zero, reduceCtorEq, OfNat.ofNat]; rfl)) ?_) | (with_reducible refine bda_of (by with_unfolding_all rfl) ?_) | (simp -dsimp only [↓evK_int, ↓opsW_d, ↓evs_nil, ↓evs_cons, ↓opW_call]))
  refine ninf_ret ?_
  repeat' (first | done | ((with_reducible refine brK_yes ?_ ?_); (· omega)) | ((with_reducible refine brK_no ?_ ?_); (· omega)) | (with_reducible refine brK_both (fun _ => ?_) (fun _ => ?_)) | ((with_reducible refine And.intro (And.intro ?_ ?_) ?_); (· omega); (· omega)) | ((with_reducible refine And.intro ?_ ?_); (· omega)) | (with_reducible refine And.intro (show List.all _ oneCell = true from rfl) ?_) | ((with_reducible refine st_newM ?_ ?_); (· rfl)) | ((with_reducible refine bs_oneM ?_ ?_); (· rfl)) | (with_reducible refine bd_of (by with_unfolding_all (simp only [fillL_cons, fillL_nil, nth_eq, blt_eq, cond_beq, over, Value.cells, List.getElem?_cons_zero, List.getElem?_cons_succ, List.length_cons, List.length_nil, Nat.reduceAdd, Nat.reduceSub, Nat.reduceLT, Nat.reduceEqDiff, decide_true, cond_true, Option.map_some, if_true, if_false, Nat.add_one_sub_one, Nat.succ_ne_zero, reduceCtorEq, OfNat.ofNat]; rfl)) ?_) | (with_reducible refine bda_of (by with_unfolding_all rfl) ?_) | (simp -dsimp only [↓evK_float, ↓opsW_d, ↓evs_nil, ↓evs_cons, ↓opW_call]))
  refine czero_ret ?_
  repeat' (first | done | ((with_reducible refine brK_yes ?_ ?_); (· omega)) | ((with_reducible refine brK_no ?_ ?_); (· omega)) | (with_reducible refine brK_both (fun _ => ?_) (fun _ => ?_)) | ((with_reducible refine And.intro (And.intro ?_ ?_) ?_); (· omega); (· omega)) | ((with_reducible refine And.intro ?_ ?_); (· omega)) | (with_reducible refine And.intro (show List.all _ oneCell = true from rfl) ?_) | ((with_reducible refine st_newM ?_ ?_); (· rfl)) | ((with_reducible refine bs_oneM ?_ ?_); (· rfl)) | (with_reducible refine bd_of (by with_unfolding_all (simp only [fillL_cons, fillL_nil, nth_eq, blt_eq, cond_beq, over, Value.cells, List.getElem?_cons_zero, List.getElem?_cons_succ, List.length_cons, List.length_nil, Nat.reduceAdd, Nat.reduceSub, Nat.reduceLT, Nat.reduceEqDiff, decide_true, cond_true, Option.map_some, if_true, if_false, Nat.add_one_sub_one, Nat.succ_ne_zero, reduceCtorEq, OfNat.ofNat]; rfl)) ?_) | (with_reducible refine bda_of (by with_unfolding_all rfl) ?_) | (simp -dsimp only [↓getK_same, ↓getK_ne, ↓evK_tmp, ↓evK_float, ↓opsW_d, ↓evp_nil, ↓evp_cons, ↓bsl_25_5, ne_eq, Nat.reduceEqDiff, not_false_eq_true]))
  refine bs_of (l := clsV) rfl ?_
  have hn1 : (newBlk h (.cells clsV 27 true)).n = h.n + 1 := rfl
  have hb1 : (newBlk h (.cells clsV 27 true)).b.get h.n = some (.cells clsV 27 true) := newBlk_same _ _
  have X1 : ExtB h.n h (newBlk h (.cells clsV 27 true)) := ExtB.new _ (Nat.le_refl _)
  generalize newBlk h (.cells clsV 27 true) = h1 at hn1 hb1 X1 ⊢
  repeat' (first | done | ((with_reducible refine brK_yes ?_ ?_); (· omega)) | ((with_reducible refine brK_no ?_ ?_); (· omega)) | (with_reducible refine brK_both (fun _ => ?_) (fun _ => ?_)) | ((with_reducible refine And.intro (And.intro ?_ ?_) ?_); (· omega); (· omega)) | ((with_reducible refine And.intro ?_ ?_); (· omega)) | (with_reducible refine And.intro (show List.all _ oneCell = true from rfl) ?_) | ((with_reducible refine st_newM ?_ ?_); (· rfl)) | ((with_reducible refine bs_oneM ?_ ?_); (· rfl)) | (with_reducible refine bd_of (by with_unfolding_all (simp only [fillL_cons, fillL_nil, nth_eq, blt_eq, cond_beq, over, Value.cells, List.getElem?_cons_zero, List.getElem?_cons_succ, List.length_cons, List.length_nil, Nat.reduceAdd, Nat.reduceSub, Nat.reduceLT, Nat.reduceEqDiff, decide_true, cond_true, Option.map_some, if_true, if_false, Nat.add_one_sub_one, Nat.succ_ne_zero, reduceCtorEq, OfNat.ofNat]; rfl)) ?_) | (with_reducible refine bda_of (by with_unfolding_all rfl) ?_) | (simp -dsimp only [↓cw_block, ↓seqK_normal, ↓getK_same, ↓evK_tmp, ↓evK_int, ↓opsW_nil, ↓opsW_d, ↓opW_move, ↓lenS_some, ↓setAll_cons, ↓setAll_nil, ↓len_25, ↓s35_60_w, ↓s35_61_w]))
  refine cw_loopI (fun n fr h' => h' = h1 ∧ ∃ k : Nat, k ≤ 5 ∧ n = 5 - k ∧ fr.get 22 = some (.int .i64 k) ∧ ∀ n ∈ clsC.take k, classB n ≠ s) 5 ?_ (by omega) ?_
  · exact ⟨rfl, 0, by omega, by omega, by simp [T.get_set], by simp⟩
  rintro n fr h' ⟨rfl, k, hk, rfl, g22, hnot⟩ hag
  have g22 := getK_of g22
  have a0 := getK_eq (hag 0 rfl)
  unfold strV at a0
  have a20 := getK_eq (hag 20 rfl)
  have a21 := getK_eq (hag 21 rfl)
  by_cases hlt : k < 5
  · have hkc : k < clsC.length := hlt
    have cb : cellAt h' ⟨h.n, 0 + k * 1, none⟩ = some (.float .f64 clsC[k]) := cellAt_blk (by omega) hb1 (by
      rw [show 0 + k * 1 = k by omega, clsV, List.getElem?_map, List.getElem?_eq_getElem hkc]; rfl)
    have hmem : clsC[k] ∈ clsC := List.getElem_mem hkc
    have hlt64 : ∀ n ∈ clsC, n < 18446744073709551616 := by decide
    have hstep : classB clsC[k] ≠ s → ∀ n ∈ clsC.take (k + 1), classB n ≠ s := fun h1 n hn => by
      rw [List.take_succ_eq_append_getElem hkc] at hn
      rcases List.mem_append.1 hn with hn | hn
      · exact hnot n hn
      · rw [List.mem_singleton.1 hn]; exact h1
    have hc64 := hlt64 _ hmem
    have hcl := hcls clsC[k] h' hmem X1
    generalize clsC[k] = c at cb hmem hstep hc64 hcl
    repeat' (first | done | ((with_reducible refine brK_yes ?_ ?_); (· omega)) | ((with_reducible refine brK_no ?_ ?_); (· omega)) | (with_reducible refine brK_both (fun _ => ?_) (fun _ => ?_)) | ((with_reducible refine And.intro (And.intro ?_ ?_) ?_); (· omega); (· omega)) | ((with_reducible refine And.intro ?_ ?_); (· omega)) | (with_reducible refine And.intro (show List.all _ oneCell = true from rfl) ?_) | ((with_reducible refine st_newM ?_ ?_); (· rfl)) | ((with_reducible refine bs_oneM ?_ ?_); (· rfl)) | (with_reducible refine bd_of (by with_unfolding_all (simp only [fillL_cons, fillL_nil, nth_eq, blt_eq, cond_beq, over, Value.cells, List.getElem?_cons_zero, List.getElem?_cons_succ, List.length_cons, List.length_nil, Nat.reduceAdd, Nat.reduceSub, Nat.reduceLT, Nat.reduceEqDiff, decide_true, cond_true, Option.map_some, if_true, if_false, Nat.add_one_sub_one, Nat.succ_ne_zero, reduceCtorEq, OfNat.ofNat]; rfl)) ?_) | (with_reducible refine bda_of (by with_unfolding_all rfl) ?_) | (simp -dsimp only [↓cw_skip, ↓cw_ops, ↓cw_seq, ↓cw_block, ↓cw_cond, ↓seqK_normal, ↓getK_same, ↓getK_ne, ↓evK_tmp, ↓condV_var, ↓opsW_nil, ↓opsW_d, ↓opW_move, ↓opW_assign, ↓opW_bin, ↓bin_lss, ↓ld1_some, ↓idxS_some, ↓evs_nil, ↓evs_cons, ↓opW_call, ↓ia_25, ↓ld_27, ↓r35_51_w, ↓s35_52_w, ↓r35_53_w, ↓s35_54_w, ↓s35_55_w, ↓s35_56_w, ↓s35_57_w, ↓r35_58_w, ↓s35_59_w, onV_some', brK_true, ne_eq, Nat.reduceEqDiff, not_false_eq_true, Addr.add_lit, Int.toNat_natCast, ↓g22, ↓a20, ↓a21, cb]))
    refine class_ret hc64 ?_
    by_cases he : classB c = s
    · have hk := hcl he
      rw [he]
      unfold ofT at hk
      unfold strV
      repeat' (first | done | ((with_reducible refine brK_yes ?_ ?_); (· omega)) | ((with_reducible refine brK_no ?_ ?_); (· omega)) | (with_reducible refine brK_both (fun _ => ?_) (fun _ => ?_)) | ((with_reducible refine And.intro (And.intro ?_ ?_) ?_); (· omega); (· omega)) | ((with_reducible refine And.intro ?_ ?_); (· omega)) | (with_reducible refine And.intro (show List.all _ oneCell = true from rfl) ?_) | ((with_reducible refine st_newM ?_ ?_); (· rfl)) | ((with_reducible refine bs_oneM ?_ ?_); (· rfl)) | (with_reducible refine bd_of (by with_unfolding_all (simp only [fillL_cons, fillL_nil, nth_eq, blt_eq, cond_beq, over, Value.cells, List.getElem?_cons_zero, List.getElem?_cons_succ, List.length_cons, List.length_nil, Nat.reduceAdd, Nat.reduceSub, Nat.reduceLT, Nat.reduceEqDiff, decide_true, cond_true, Option.map_some, if_true, if_false, Nat.add_one_sub_one, Nat.succ_ne_zero, reduceCtorEq, OfNat.ofNat]; rfl)) ?_) | (with_reducible refine bda_of (by with_unfolding_all rfl) ?_) | (simp -dsimp only [↓cw_ops, ↓cw_seq, ↓cw_ret, ↓cw_cond, ↓seqK_normal, ↓seqK_ret, ↓blockK_ret, ↓loopK_ret, ↓getK_same, ↓getK_ne, ↓evK_tmp, ↓evK_int, ↓condV_var, ↓opsW_nil, ↓opsW_d, ↓opW_move, ↓opW_assign, ↓opW_bin, ↓resK_two, ↓bin_eqlS, ↓r35_48_w, ↓s35_49_w, ↓s35_50_w, brK_true, ne_eq, Nat.reduceEqDiff, not_false_eq_true, ↓a0, eq_self]))
      exact hk
    · have hne : ¬ ((⟨(classB c).toArray⟩ : ByteArray) = ⟨s.toArray⟩) := fun e => he (by
        have := congrArg (fun b : ByteArray => b.data.toList) e
        simpa using this)
      unfold strV
      repeat' (first | done | ((with_reducible refine brK_yes ?_ ?_); (· omega)) | ((with_reducible refine brK_no ?_ ?_); (· omega)) | (with_reducible refine brK_both (fun _ => ?_) (fun _ => ?_)) | ((with_reducible refine And.intro (And.intro ?_ ?_) ?_); (· omega); (· omega)) | ((with_reducible refine And.intro ?_ ?_); (· omega)) | (with_reducible refine And.intro (show List.all _ oneCell = true from rfl) ?_) | ((with_reducible refine st_newM ?_ ?_); (· rfl)) | ((with_reducible refine bs_oneM ?_ ?_); (· rfl)) | (with_reducible refine bd_of (by with_unfolding_all (simp only [fillL_cons, fillL_nil, nth_eq, blt_eq, cond_beq, over, Value.cells, List.getElem?_cons_zero, List.getElem?_cons_succ, List.length_cons, List.length_nil, Nat.reduceAdd, Nat.reduceSub, Nat.reduceLT, Nat.reduceEqDiff, decide_true, cond_true, Option.map_some, if_true, if_false, Nat.add_one_sub_one, Nat.succ_ne_zero, reduceCtorEq, OfNat.ofNat]; rfl)) ?_) | (with_reducible refine bda_of (by with_unfolding_all rfl) ?_) | (simp -dsimp only [↓cw_skip, ↓cw_ops, ↓cw_cond, ↓seqK_normal, ↓blockK_normal, ↓loopK_normal, ↓getK_same, ↓getK_ne, ↓evK_tmp, ↓evK_int, ↓condV_var, ↓opsW_nil, ↓opsW_d, ↓opW_move, ↓opW_bin, ↓bin_add, ↓bin_eqlS, ↓r35_46_w, ↓s35_47_w, ↓s35_50_w, brK_false, true_and, ne_eq, Nat.reduceEqDiff, not_false_eq_true, Addr.add_lit, Int.toNat_natCast, Bool.false_eq_true,  ↓g22, ↓a0, hne]))
      exact ⟨5 - (k + 1), by omega, k + 1, by omega, rfl, by simp [T.get_set, wrap_succ (show k ≤ 4611686018427387904 by omega)], hstep he⟩
  · have e : k = 5 := by omega
    subst e
    repeat' (first | done | ((with_reducible refine brK_yes ?_ ?_); (· omega)) | ((with_reducible refine brK_no ?_ ?_); (· omega)) | (with_reducible refine brK_both (fun _ => ?_) (fun _ => ?_)) | ((with_reducible refine And.intro (And.intro ?_ ?_) ?_); (· omega); (· omega)) | ((with_reducible refine And.intro ?_ ?_); (· omega)) | (with_reducible refine And.intro (show List.all _ oneCell = true from rfl) ?_) | ((with_reducible refine st_newM ?_ ?_); (· rfl)) | ((with_reducible refine bs_oneM ?_ ?_); (· rfl)) | (with_reducible refine bd_of (by with_unfolding_all (simp only [fillL_cons, fillL_nil, nth_eq, blt_eq, cond_beq, over, Value.cells, List.getElem?_cons_zero, List.getElem?_cons_succ, List.length_cons, List.length_nil, Nat.reduceAdd, Nat.reduceSub, Nat.reduceLT, Nat.reduceEqDiff, decide_true, cond_true, Option.map_some, if_true, if_false, Nat.add_one_sub_one, Nat.succ_ne_zero, reduceCtorEq, OfNat.ofNat]; rfl)) ?_) | (with_reducible refine bda_of (by with_unfolding_all rfl) ?_) | (simp -dsimp only [↓cw_ops, ↓cw_seq, ↓cw_exit, ↓cw_cond, ↓seqK_normal, ↓seqK_exit, ↓blockK_same, ↓loopK_exit, ↓getK_same, ↓getK_ne, ↓evK_tmp, ↓condV_var, ↓opsW_nil, ↓opsW_d, ↓opW_bin, ↓bin_lss, ↓s35_56_w, ↓s35_57_w, ↓r35_58_w, ↓s35_59_w, brK_false, ne_eq, Nat.reduceEqDiff, not_false_eq_true, Bool.false_eq_true,  ↓g22, ↓a21]))
    refine hrest (fun n hn => hnot n (by simpa [clsC] using hn)) _ h' X1 ?_
    have h0 := hag 0 rfl
    simp only [T.get_set] at h0 ⊢
    simpa [setAll, T.get_set] using h0
end Go.Proofs.YtjcmcoabckkjoaaDoor.Li

namespace Go.Proofs.YtjcmcoabckkjoaaDoor.Li
open Go.Ev
set_option maxRecDepth 100000
set_option maxHeartbeats 400000
theorem cls_vals : clsC.map classB = [[110, 97, 110], [105, 110, 102], [45, 105, 110, 102], [48], [45, 48]] := by decide
/-- the odd part, its power, its digits -/
structure Parts (n u tz : Nat) (k : Int) : Prop where
  fn : Fin n
  m : mant n = u * 2 ^ tz
  ke : k = expo n + (tz : Int)
  u0 : u ≠ 0
  u53 : u < 9007199254740992
  k1 : -1074 ≤ k ∧ k ≤ 1100
theorem Parts.of {n : Nat} (fn : Fin n) : Parts n (mant n / 2 ^ Lib.ctz 64 (mant n)) (Lib.ctz 64 (mant n)) (expo n + (Lib.ctz 64 (mant n) : Nat)) := by
  obtain ⟨hm0, hm⟩ := fn.mant
  obtain ⟨q, hq, hct⟩ := ctz_odd hm0 (show mant n < 18446744073709551616 by omega)
  have hp := Nat.two_pow_pos (Lib.ctz 64 (mant n))
  have hu : mant n / 2 ^ Lib.ctz 64 (mant n) = 2 * q + 1 :=
    (fun (t : Nat) (h : mant n = 2 ^ t * (2 * q + 1)) => (by rw [h, Nat.mul_div_cancel_left _ (Nat.two_pow_pos t)] : mant n / 2 ^ t = 2 * q + 1)) _ hq
  have hex := expo_le fn
  refine ⟨fn, ?_, rfl, by omega, ?_, by omega⟩
  · rw [hu, Nat.mul_comm]; exact hq
  · have := Nat.div_le_self (mant n) (2 ^ Lib.ctz 64 (mant n)); omega
theorem textB_fin {n : Nat} (fn : Fin n) : textB n = signL n ++ (Lib.decDigits (mant n / 2 ^ Lib.ctz 64 (mant n)) ++ tailB (expo n + (Lib.ctz 64 (mant n) : Nat))) := by
  have hc : classB n = [] := by
    have h1 := fn.pos
    have h2 := fn.fin
    unfold classB
    rw [isNan_iff, decide_eq_false (by omega), if_neg (by decide), if_neg (by omega), if_neg (by omega)]
  unfold textB
  rw [if_neg (by rw [hc]; simp), List.append_assoc]
theorem no_cls {n u : Nat} {t : List UInt8} (hu : u ≠ 0) : ∀ c ∈ clsC, classB c ≠ signL n ++ (Lib.decDigits u ++ t) := by
  have hall : ∀ x ∈ [[110, 97, 110], [105, 110, 102], [45, 105, 110, 102], [48], [45, 48]], x ≠ signL n ++ (Lib.decDigits u ++ t) := by
    cases hd : Lib.decDigits u with
    | nil => exact absurd hd (digits_ne u)
    | cons b r =>
      have hb := digits_byte (u := u) (b := b) (by rw [hd]; exact List.mem_cons_self)
      have hz : b :: r ≠ [48] := fun e => by
        have := decNat_digits u
        rw [hd, e] at this
        revert this
        show some 0 ≠ some u
        intro h; cases h; exact hu rfl
      have h45 : b ≠ 45 := by rintro rfl; revert hb; decide
      have h110 : b ≠ 110 := by rintro rfl; revert hb; decide
      have h105 : b ≠ 105 := by rintro rfl; revert hb; decide
      have h48 : ∀ t' : List UInt8, [48] ≠ b :: (r ++ t') := by
        intro t' e
        injection e with e1 e2
        have : r = [] := (List.append_eq_nil_iff.1 e2.symm).1
        exact hz (by rw [← e1, this])
      unfold signL
      intro x hx e
      simp only [List.mem_cons, List.not_mem_nil, or_false] at hx
      rcases hx with rfl | rfl | rfl | rfl | rfl <;> split at e <;> simp only [List.cons_append, List.nil_append, List.cons.injEq] at e
      · exact absurd e.1 (by decide)
      · exact h110 e.1.symm
      · exact absurd e.1 (by decide)
      · exact h105 e.1.symm
      · exact h105 e.2.1.symm
      · exact h45 e.1.symm
      · exact absurd e.1 (by decide)
      · exact h48 t (by rw [e.1, ← e.2])
      · exact h48 t (by rw [e.2.1, ← e.2.2])
      · exact h45 e.1.symm
  intro c hc
  exact hall _ (by rw [← cls_vals]; exact List.mem_map.2 ⟨c, hc, rfl⟩)
theorem pre_sign {n u : Nat} {t : List UInt8} : Lib.hasPrefix (signL n ++ (Lib.decDigits u ++ t)) [45] = negN n ∧ Lib.trimPrefix (signL n ++ (Lib.decDigits u ++ t)) [45] = Lib.decDigits u ++ t := by
  cases hd : Lib.decDigits u with
  | nil => exact absurd hd (digits_ne u)
  | cons b r =>
    have hb := digits_byte (u := u) (b := b) (by rw [hd]; exact List.mem_cons_self)
    have h45 : ((45 : UInt8) == b) = false := by rw [beq_eq_false_iff_ne]; rintro rfl; revert hb; decide
    unfold signL Lib.trimPrefix Lib.hasPrefix
    cases negN n
    · simp [List.isPrefixOf, h45]
    · simp [List.isPrefixOf]
theorem dig_ne {u : Nat} {c : UInt8} (hc : c.toNat < 48) : ∀ b ∈ Lib.decDigits u, b ≠ c := by
  intro b hb e
  have := (digits_byte hb).1
  rw [e] at this; omega
theorem dec_len : ∀ (m u : Nat), u < 10 ^ (m + 1) → (Lib.decDigits u).length ≤ m + 1
  | 0, u, h => by rw [dec_small (by omega)]; simp
  | m + 1, u, h => by
    by_cases h1 : u < 10
    · rw [dec_small h1]; simp
    · rw [dec_big h1, List.length_append]
      have := dec_len m (u / 10) (by rw [Nat.pow_succ] at h; omega)
      simp only [List.length_cons, List.length_nil]; omega
theorem itoa_len {k : Nat} (hk : k ≤ 1100) : (Lib.itoa (k : Int)).length ≤ 18 := by
  rw [Lib.itoa_nonneg]
  have := dec_len 3 k (by omega)
  omega
theorem isI_ext {h h' : Heap} (hh : 3 < h.n) (X : ExtB h.n h h') (hm : isI (cellAt h ⟨3, 0, none⟩) = true) : isI (cellAt h' ⟨3, 0, none⟩) = true := by
  obtain ⟨m, e⟩ := isI_of hm
  rw [cellAt_ext X hh e]; rfl
theorem cell_two (x y : Value) : (Value.tuple #[x, y]) = .tuple ⟨[x, y]⟩ := rfl
section
variable {E : Env} {fr : Fr} {h : Heap} {K : Value → Heap → Prop} {x y : Operand} {t t' : TypeId}
def minK (a b : Value) (K : Value → Prop) [Tok K] : Prop := onV (amax2 false a b) K
theorem opW_min : opW E (.call ⟨.builtin .min, ⟨[x, y]⟩, ⟨[t, t']⟩⟩) fr h K = evK E fr x fun a => evK E fr y fun b => minK a b fun u => K u h := by
  simp only [opW, opBy, valOp, flOp, operOf, kindOf, pureOp, evs, mapOpt, evK, onR_map, onV, minK]
  cases ev E fr x with
  | none => simp
  | some a =>
    cases ev E fr y with
    | none => simp
    | some b =>
      simp only [Option.some.injEq, exists_eq_left', afold]
      cases amax2 false a b <;> simp
theorem min_int {k k' : IntKind} {a b : Int} {K : Value → Prop} : minK (.int k a) (.int k' b) K = K (.int k (min a b)) := by
  simp only [minK, amax2, cond_false, onV_some']
  rw [Int.min_def]
  by_cases hl : b < a
  · rw [if_pos hl, if_neg (by omega)]
  · rw [if_neg hl, if_pos (by omega)]
end
theorem of_tail {n u tz : Nat} {k : Int} {s : List UInt8} {fr : Fr} {h : Heap} {K : Value → Heap → Prop} (pt : Parts n u tz k) (hs : textB n = s) (ht : tabsOk tabs h = true) (hh : 3 < h.n) (g0 : fr.get 0 = some (strV s)) (g7 : fr.get 7 = some (.bool (negN n)))
    (g8 : fr.get 8 = some (.int .i64 k)) (g9 : fr.get 9 = some (strV (Lib.decDigits u))) (hK : ∀ h', ExtB h.n h h' → K (ofT (.float .f64 n)) h') : s35_17.wp env 80 none fr h (resK env [.tmp 2, .tmp 3] K) := by
  have g0 := getK_of g0
  have g7 := getK_of g7
  have g8 := getK_of g8
  have g9 := getK_of g9
  unfold strV at g0 g9
  repeat' (first | done | ((with_reducible refine brK_yes ?_ ?_); (· omega)) | ((with_reducible refine brK_no ?_ ?_); (· omega)) | (with_reducible refine brK_both (fun _ => ?_) (fun _ => ?_)) | ((with_reducible refine And.intro (And.intro ?_ ?_) ?_); (· omega); (· omega)) | ((with_reducible refine And.intro ?_ ?_); (· omega)) | (with_reducible refine And.intro (show List.all _ oneCell = true from rfl) ?_) | ((with_reducible refine st_newM ?_ ?_); (· rfl)) | ((with_reducible refine bs_oneM ?_ ?_); (· rfl)) | (with_reducible refine bd_of (by with_unfolding_all (simp only [fillL_cons, fillL_nil, nth_eq, blt_eq, cond_beq, over, Value.cells, List.getElem?_cons_zero, List.getElem?_cons_succ, List.length_cons, List.length_nil, Nat.reduceAdd, Nat.reduceSub, Nat.reduceLT, Nat.reduceEqDiff, decide_true, cond_true, Option.map_some, if_true, if_false, Nat.add_one_sub_one, Nat.succ_ne_zero, reduceCtorEq, OfNat.ofNat]; rfl)) ?_) | (with_reducible refine bda_of (by with_unfolding_all rfl) ?_) | (simp -dsimp only [↓cw_ops, ↓cw_seq, ↓getK_same, ↓evK_tmp, ↓evK_int, ↓opsW_d, ↓opW_move, ↓evs_nil, ↓evs_cons, ↓opW_call, ↓r35_16_w, ↓s35_17_w, ↓g9]))
  refine parse_ret (decFrom_digits u u (Nat.le_refl _)) (digits_ne u) (by have := dec_le (u := u) (by have := pt.u53; omega); omega) pt.u53 fun h1 X1 => ?_
  have n1 := X1.n
  have k1 := pt.k1
  have mn : max (min k 5000) (-5000) = k := by omega
  have hn64 := pt.fn.lt
  have hr64 : rungN n < 9223372036854775808 := by unfold rungN; omega
  have ht1 := tabs_ext (by omega) X1 ht
  repeat' (first | done | ((with_reducible refine brK_yes ?_ ?_); (· omega)) | ((with_reducible refine brK_no ?_ ?_); (· omega)) | (with_reducible refine brK_both (fun _ => ?_) (fun _ => ?_)) | ((with_reducible refine And.intro (And.intro ?_ ?_) ?_); (· omega); (· omega)) | ((with_reducible refine And.intro ?_ ?_); (· omega)) | (with_reducible refine And.intro (show List.all _ oneCell = true from rfl) ?_) | ((with_reducible refine st_newM ?_ ?_); (· rfl)) | ((with_reducible refine bs_oneM ?_ ?_); (· rfl)) | (with_reducible refine bd_of (by with_unfolding_all (simp only [fillL_cons, fillL_nil, nth_eq, blt_eq, cond_beq, over, Value.cells, List.getElem?_cons_zero, List.getElem?_cons_succ, List.length_cons, List.length_nil, Nat.reduceAdd, Nat.reduceSub, Nat.reduceLT, Nat.reduceEqDiff, decide_true, cond_true, Option.map_some, if_true, if_false, Nat.add_one_sub_one, Nat.succ_ne_zero, reduceCtorEq, OfNat.ofNat]; rfl)) ?_) | (with_reducible refine bda_of (by with_unfolding_all rfl) ?_) | (simp -dsimp only [↓cw_ops, ↓cw_seq, ↓seqK_normal, ↓getK_same, ↓getK_ne, ↓evK_tmp, ↓evK_int, ↓opsW_nil, ↓opsW_d, ↓opW_move, ↓opW_assign, ↓evs_nil, ↓evs_cons, ↓opW_call, ↓opW_extract, ↓ext_tuple, ↓opW_max, ↓max_int, ↓cif_int, ↓cv_23_27, ↓r35_14_w, ↓s35_15_w, List.getElem?_cons_zero, List.getElem?_cons_succ, onV_some', ne_eq, Nat.reduceEqDiff, not_false_eq_true, ↓g8, ↓opW_min, min_int, mn]))
  refine ldexp_ret pt.fn pt.m pt.ke ?_
  cases hg : negN n with
  | true =>
    have hx : rungN n ^^^ 9223372036854775808 = n := by
      rw [neg_bits (by omega), if_neg (by omega)]; unfold negN at hg; have := of_decide_eq_true hg; unfold rungN; omega
    rw [hg] at g7
    repeat' (first | done | ((with_reducible refine brK_yes ?_ ?_); (· omega)) | ((with_reducible refine brK_no ?_ ?_); (· omega)) | (with_reducible refine brK_both (fun _ => ?_) (fun _ => ?_)) | ((with_reducible refine And.intro (And.intro ?_ ?_) ?_); (· omega); (· omega)) | ((with_reducible refine And.intro ?_ ?_); (· omega)) | (with_reducible refine And.intro (show List.all _ oneCell = true from rfl) ?_) | ((with_reducible refine st_newM ?_ ?_); (· rfl)) | ((with_reducible refine bs_oneM ?_ ?_); (· rfl)) | (with_reducible refine bd_of (by with_unfolding_all (simp only [fillL_cons, fillL_nil, nth_eq, blt_eq, cond_beq, over, Value.cells, List.getElem?_cons_zero, List.getElem?_cons_succ, List.length_cons, List.length_nil, Nat.reduceAdd, Nat.reduceSub, Nat.reduceLT, Nat.reduceEqDiff, decide_true, cond_true, Option.map_some, if_true, if_false, Nat.add_one_sub_one, Nat.succ_ne_zero, reduceCtorEq, OfNat.ofNat]; rfl)) ?_) | (with_reducible refine bda_of (by with_unfolding_all rfl) ?_) | (simp -dsimp only [↓cw_ops, ↓cw_seq, ↓cw_cond, ↓seqK_normal, ↓getK_same, ↓getK_ne, ↓evK_tmp, ↓condV_var, ↓opsW_nil, ↓opsW_d, ↓opW_move, ↓opW_assign, ↓evs_nil, ↓evs_cons, ↓opW_call, ↓opW_un, ↓r35_5_w, ↓s35_6_w, ↓s35_7_w, ↓r35_8_w, ↓s35_9_w, ↓s35_10_w, ↓r35_11_w, ↓s35_12_w, ↓s35_13_w, brK_true, ne_eq, Nat.reduceEqDiff, not_false_eq_true, ↓g7, un_negF', hx]))
    refine text_ret hn64 ht1 (by omega) fun h2 X2 => ?_
    rw [hs]
    unfold strV
    repeat' (first | done | ((with_reducible refine brK_yes ?_ ?_); (· omega)) | ((with_reducible refine brK_no ?_ ?_); (· omega)) | (with_reducible refine brK_both (fun _ => ?_) (fun _ => ?_)) | ((with_reducible refine And.intro (And.intro ?_ ?_) ?_); (· omega); (· omega)) | ((with_reducible refine And.intro ?_ ?_); (· omega)) | (with_reducible refine And.intro (show List.all _ oneCell = true from rfl) ?_) | ((with_reducible refine st_newM ?_ ?_); (· rfl)) | ((with_reducible refine bs_oneM ?_ ?_); (· rfl)) | (with_reducible refine bd_of (by with_unfolding_all (simp only [fillL_cons, fillL_nil, nth_eq, blt_eq, cond_beq, over, Value.cells, List.getElem?_cons_zero, List.getElem?_cons_succ, List.length_cons, List.length_nil, Nat.reduceAdd, Nat.reduceSub, Nat.reduceLT, Nat.reduceEqDiff, decide_true, cond_true, Option.map_some, if_true, if_false, Nat.add_one_sub_one, Nat.succ_ne_zero, reduceCtorEq, OfNat.ofNat]; rfl)) ?_) | (with_reducible refine bda_of (by with_unfolding_all rfl) ?_) | (simp -dsimp only [↓cw_skip, ↓cw_ops, ↓cw_seq, ↓cw_ret, ↓cw_cond, ↓seqK_normal, ↓getK_same, ↓getK_ne, ↓evK_tmp, ↓evK_int, ↓condV_var, ↓opsW_nil, ↓opsW_d, ↓opW_move, ↓opW_assign, ↓opW_bin, ↓resK_two, ↓bin_neqS, ↓r35_0_w, ↓s35_1_w, ↓s35_4_w, brK_true, brK_false, ne_eq, Nat.reduceEqDiff, not_false_eq_true, Bool.false_eq_true,  ↓g0, eq_self]))
    rw [hx]
    exact hK h2 (X1.trans (X2.mono n1))
  | false =>
    have hx : rungN n = n := by unfold negN at hg; have := of_decide_eq_false hg; unfold rungN; omega
    rw [hx]
    rw [hg] at g7
    repeat' (first | done | ((with_reducible refine brK_yes ?_ ?_); (· omega)) | ((with_reducible refine brK_no ?_ ?_); (· omega)) | (with_reducible refine brK_both (fun _ => ?_) (fun _ => ?_)) | ((with_reducible refine And.intro (And.intro ?_ ?_) ?_); (· omega); (· omega)) | ((with_reducible refine And.intro ?_ ?_); (· omega)) | (with_reducible refine And.intro (show List.all _ oneCell = true from rfl) ?_) | ((with_reducible refine st_newM ?_ ?_); (· rfl)) | ((with_reducible refine bs_oneM ?_ ?_); (· rfl)) | (with_reducible refine bd_of (by with_unfolding_all (simp only [fillL_cons, fillL_nil, nth_eq, blt_eq, cond_beq, over, Value.cells, List.getElem?_cons_zero, List.getElem?_cons_succ, List.length_cons, List.length_nil, Nat.reduceAdd, Nat.reduceSub, Nat.reduceLT, Nat.reduceEqDiff, decide_true, cond_true, Option.map_some, if_true, if_false, Nat.add_one_sub_one, Nat.succ_ne_zero, reduceCtorEq, OfNat.ofNat]; rfl)) ?_) | (with_reducible refine bda_of (by with_unfolding_all rfl) ?_) | (simp -dsimp only [↓cw_skip, ↓cw_ops, ↓cw_seq, ↓cw_cond, ↓seqK_normal, ↓getK_same, ↓getK_ne, ↓evK_tmp, ↓condV_var, ↓opsW_nil, ↓opsW_d, ↓opW_move, ↓opW_assign, ↓evs_nil, ↓evs_cons, ↓opW_call, ↓r35_5_w, ↓s35_6_w, ↓s35_7_w, ↓s35_10_w, ↓r35_11_w, ↓s35_12_w, ↓s35_13_w, brK_false, ne_eq, Nat.reduceEqDiff, not_false_eq_true, Bool.false_eq_true,  ↓g7]))
    refine text_ret hn64 ht1 (by omega) fun h2 X2 => ?_
    rw [hs]
    unfold strV
    repeat' (first | done | ((with_reducible refine brK_yes ?_ ?_); (· omega)) | ((with_reducible refine brK_no ?_ ?_); (· omega)) | (with_reducible refine brK_both (fun _ => ?_) (fun _ => ?_)) | ((with_reducible refine And.intro (And.intro ?_ ?_) ?_); (· omega); (· omega)) | ((with_reducible refine And.intro ?_ ?_); (· omega)) | (with_reducible refine And.intro (show List.all _ oneCell = true from rfl) ?_) | ((with_reducible refine st_newM ?_ ?_); (· rfl)) | ((with_reducible refine bs_oneM ?_ ?_); (· rfl)) | (with_reducible refine bd_of (by with_unfolding_all (simp only [fillL_cons, fillL_nil, nth_eq, blt_eq, cond_beq, over, Value.cells, List.getElem?_cons_zero, List.getElem?_cons_succ, List.length_cons, List.length_nil, Nat.reduceAdd, Nat.reduceSub, Nat.reduceLT, Nat.reduceEqDiff, decide_true, cond_true, Option.map_some, if_true, if_false, Nat.add_one_sub_one, Nat.succ_ne_zero, reduceCtorEq, OfNat.ofNat]; rfl)) ?_) | (with_reducible refine bda_of (by with_unfolding_all rfl) ?_) | (simp -dsimp only [↓cw_skip, ↓cw_ops, ↓cw_seq, ↓cw_ret, ↓cw_cond, ↓seqK_normal, ↓getK_same, ↓getK_ne, ↓evK_tmp, ↓evK_int, ↓condV_var, ↓opsW_nil, ↓opsW_d, ↓opW_move, ↓opW_assign, ↓opW_bin, ↓resK_two, ↓bin_neqS, ↓r35_0_w, ↓s35_1_w, ↓s35_4_w, brK_true, brK_false, ne_eq, Nat.reduceEqDiff, not_false_eq_true, Bool.false_eq_true,  ↓g0, eq_self]))
    exact hK h2 (X1.trans (X2.mono n1))
theorem of_fin {n : Nat} {h : Heap} {K : Value → Heap → Prop} (fn : Fin n) (ht : tabsOk tabs h = true) (hh : 3 < h.n) (hm : isI (cellAt h ⟨3, 0, none⟩) = true) (hK : ∀ h', ExtB h.n h h' → K (ofT (.float .f64 n)) h') : Ret env (.func 35) [strV (textB n)] h K := by
  obtain ⟨u, tz, k, pt, hs⟩ : ∃ u tz k, Parts n u tz k ∧ textB n = signL n ++ (Lib.decDigits u ++ tailB k) := ⟨_, _, _, Parts.of fn, textB_fin fn⟩
  have hlen := textB_len n fn.lt
  rw [hs] at hlen ⊢
  refine of_loop (fun c h' hc _ e => absurd e (no_cls pt.u0 c hc)) fun _ fr h1 X1 g0 => ?_
  have hm1 := isI_ext hh X1 hm
  have ht1 := tabs_ext (by omega) X1 ht
  have g0' := g0
  have g0 := getK_of g0
  have n1 := X1.n
  obtain ⟨p1, p2⟩ := pre_sign (n := n) (u := u) (t := tailB k)
  have hl2 : (Lib.decDigits u ++ tailB k).length ≤ 50 := by rw [List.length_append] at hlen; omega
  unfold strV at g0
  repeat' (first | done | ((with_reducible refine brK_yes ?_ ?_); (· omega)) | ((with_reducible refine brK_no ?_ ?_); (· omega)) | (with_reducible refine brK_both (fun _ => ?_) (fun _ => ?_)) | ((with_reducible refine And.intro (And.intro ?_ ?_) ?_); (· omega); (· omega)) | ((with_reducible refine And.intro ?_ ?_); (· omega)) | (with_reducible refine And.intro (show List.all _ oneCell = true from rfl) ?_) | ((with_reducible refine st_newM ?_ ?_); (· rfl)) | ((with_reducible refine bs_oneM ?_ ?_); (· rfl)) | (with_reducible refine bd_of (by with_unfolding_all (simp only [fillL_cons, fillL_nil, nth_eq, blt_eq, cond_beq, over, Value.cells, List.getElem?_cons_zero, List.getElem?_cons_succ, List.length_cons, List.length_nil, Nat.reduceAdd, Nat.reduceSub, Nat.reduceLT, Nat.reduceEqDiff, decide_true, cond_true, Option.map_some, if_true, if_false, Nat.add_one_sub_one, Nat.succ_ne_zero, reduceCtorEq, OfNat.ofNat]; rfl)) ?_) | (with_reducible refine bda_of (by with_unfolding_all rfl) ?_) | (simp -dsimp only [↓cw_ops, ↓cw_seq, ↓getK_same, ↓evK_tmp, ↓evK_string, ↓opsW_d, ↓opW_move, ↓evs_nil, ↓evs_cons, ↓opW_call, ↓r35_44_w, ↓s35_45_w, ↓g0]))
  refine cutP_ret (s := signL n ++ (Lib.decDigits u ++ tailB k)) (p := [45]) ?_
  rw [p1, p2]
  unfold strV
  repeat' (first | done | ((with_reducible refine brK_yes ?_ ?_); (· omega)) | ((with_reducible refine brK_no ?_ ?_); (· omega)) | (with_reducible refine brK_both (fun _ => ?_) (fun _ => ?_)) | ((with_reducible refine And.intro (And.intro ?_ ?_) ?_); (· omega); (· omega)) | ((with_reducible refine And.intro ?_ ?_); (· omega)) | (with_reducible refine And.intro (show List.all _ oneCell = true from rfl) ?_) | ((with_reducible refine st_newM ?_ ?_); (· rfl)) | ((with_reducible refine bs_oneM ?_ ?_); (· rfl)) | (with_reducible refine bd_of (by with_unfolding_all (simp only [fillL_cons, fillL_nil, nth_eq, blt_eq, cond_beq, over, Value.cells, List.getElem?_cons_zero, List.getElem?_cons_succ, List.length_cons, List.length_nil, Nat.reduceAdd, Nat.reduceSub, Nat.reduceLT, Nat.reduceEqDiff, decide_true, cond_true, Option.map_some, if_true, if_false, Nat.add_one_sub_one, Nat.succ_ne_zero, reduceCtorEq, OfNat.ofNat]; rfl)) ?_) | (with_reducible refine bda_of (by with_unfolding_all rfl) ?_) | (simp -dsimp only [↓cw_ops, ↓cw_seq, ↓seqK_normal, ↓getK_same, ↓getK_ne, ↓evK_tmp, ↓evK_int, ↓evK_string, ↓opsW_nil, ↓opsW_d, ↓opW_move, ↓opW_assign, ↓evs_nil, ↓evs_cons, ↓opW_call, ↓opW_extract, ↓ext_tuple, ↓r35_40_w, ↓s35_41_w, ↓r35_42_w, ↓s35_43_w, List.getElem?_cons_zero, List.getElem?_cons_succ, onV_some', ne_eq, Nat.reduceEqDiff, not_false_eq_true]))
  refine cut_ret (s := Lib.decDigits u ++ tailB k) (p := [42, 50, 94]) hm1 (by omega) ?_
  by_cases hpos : 0 < k
  · have hc : Lib.cut (Lib.decDigits u ++ tailB k) [42, 50, 94] = (Lib.decDigits u, Lib.itoa k, true) := by
      have e : tailB k = [42, 50, 94] ++ Lib.itoa k := by unfold tailB; rw [if_pos hpos]
      rw [e, ← List.append_assoc]
      exact cut_at _ _ [50, 94] 42 (dig_ne (by decide))
    rw [hc]
    unfold strV
    obtain ⟨j, rfl⟩ : ∃ j : Nat, k = j := ⟨k.toNat, by omega⟩
    have pk := pt.k1
    have w : IntKind.wrap .i64 ((j : Int) * 1) = (j : Int) := by rw [Int.mul_one]; exact wrap_i64 (by omega) (by omega)
    repeat' (first | done | ((with_reducible refine brK_yes ?_ ?_); (· omega)) | ((with_reducible refine brK_no ?_ ?_); (· omega)) | (with_reducible refine brK_both (fun _ => ?_) (fun _ => ?_)) | ((with_reducible refine And.intro (And.intro ?_ ?_) ?_); (· omega); (· omega)) | ((with_reducible refine And.intro ?_ ?_); (· omega)) | (with_reducible refine And.intro (show List.all _ oneCell = true from rfl) ?_) | ((with_reducible refine st_newM ?_ ?_); (· rfl)) | ((with_reducible refine bs_oneM ?_ ?_); (· rfl)) | (with_reducible refine bd_of (by with_unfolding_all (simp only [fillL_cons, fillL_nil, nth_eq, blt_eq, cond_beq, over, Value.cells, List.getElem?_cons_zero, List.getElem?_cons_succ, List.length_cons, List.length_nil, Nat.reduceAdd, Nat.reduceSub, Nat.reduceLT, Nat.reduceEqDiff, decide_true, cond_true, Option.map_some, if_true, if_false, Nat.add_one_sub_one, Nat.succ_ne_zero, reduceCtorEq, OfNat.ofNat]; rfl)) ?_) | (with_reducible refine bda_of (by with_unfolding_all rfl) ?_) | (simp -dsimp only [↓cw_skip, ↓cw_ops, ↓cw_seq, ↓cw_block, ↓cw_exit, ↓cw_cond, ↓seqK_normal, ↓seqK_exit, ↓blockK_same, ↓blockK_ne, ↓getK_same, ↓getK_ne, ↓evK_tmp, ↓evK_int, ↓condV_var, ↓opsW_nil, ↓opsW_d, ↓opW_move, ↓opW_assign, ↓evs_nil, ↓evs_cons, ↓opW_call, ↓opW_un, ↓un_not, ↓opW_extract, ↓ext_tuple, ↓r35_20_w, ↓s35_21_w, ↓s35_22_w, ↓r35_23_w, ↓s35_24_w, ↓s35_25_w, ↓s35_30_w, ↓r35_31_w, ↓s35_32_w, ↓s35_33_w, ↓s35_34_w, ↓s35_35_w, ↓s35_36_w, ↓r35_37_w, ↓s35_38_w, ↓s35_39_w, List.getElem?_cons_zero, List.getElem?_cons_succ, onV_some', brK_true, brK_false, ne_eq, Nat.reduceEqDiff, not_false_eq_true, Bool.false_eq_true,  Bool.not_true]))
    refine atoi_ret (s := Lib.itoa (j : Int)) (n := (j : Int)) (atoi_itoa j) (itoa_len (by omega)) ?_
    repeat' (first | done | ((with_reducible refine brK_yes ?_ ?_); (· omega)) | ((with_reducible refine brK_no ?_ ?_); (· omega)) | (with_reducible refine brK_both (fun _ => ?_) (fun _ => ?_)) | ((with_reducible refine And.intro (And.intro ?_ ?_) ?_); (· omega); (· omega)) | ((with_reducible refine And.intro ?_ ?_); (· omega)) | (with_reducible refine And.intro (show List.all _ oneCell = true from rfl) ?_) | ((with_reducible refine st_newM ?_ ?_); (· rfl)) | ((with_reducible refine bs_oneM ?_ ?_); (· rfl)) | (with_reducible refine bd_of (by with_unfolding_all (simp only [fillL_cons, fillL_nil, nth_eq, blt_eq, cond_beq, over, Value.cells, List.getElem?_cons_zero, List.getElem?_cons_succ, List.length_cons, List.length_nil, Nat.reduceAdd, Nat.reduceSub, Nat.reduceLT, Nat.reduceEqDiff, decide_true, cond_true, Option.map_some, if_true, if_false, Nat.add_one_sub_one, Nat.succ_ne_zero, reduceCtorEq, OfNat.ofNat]; rfl)) ?_) | (with_reducible refine bda_of (by with_unfolding_all rfl) ?_) | (simp -dsimp only [↓cw_ops, ↓cw_exit, ↓seqK_normal, ↓blockK_same, ↓getK_same, ↓getK_ne, ↓evK_tmp, ↓opsW_nil, ↓opsW_d, ↓opW_move, ↓opW_assign, ↓opW_bin, ↓bin_mul, ↓opW_extract, ↓ext_tuple, ↓r35_18_w, ↓s35_19_w, List.getElem?_cons_zero, List.getElem?_cons_succ, onV_some', ne_eq, Nat.reduceEqDiff, not_false_eq_true, Bool.not_true, w]))
    refine of_tail pt hs ht1 (by omega) ?_ ?_ ?_ ?_ fun h2 X2 => hK h2 (X1.trans (X2.mono n1))
    · simp only [T.get_set]; simpa [strV] using g0'
    · simp [T.get_set]
    · simp [T.get_set]
    · simp [T.get_set, strV]
  by_cases hneg : k < 0
  · have e : tailB k = [47, 50, 94] ++ Lib.itoa (-k) := by unfold tailB; rw [if_neg hpos, if_pos hneg]
    obtain ⟨j, hj⟩ : ∃ j : Nat, -k = j := ⟨(-k).toNat, by omega⟩
    have hno : ∀ b ∈ Lib.decDigits u ++ tailB k, b ≠ 42 := by
      intro b hb
      rcases List.mem_append.1 hb with hb | hb
      · exact dig_ne (by decide) b hb
      · rw [e, hj, Lib.itoa_nonneg] at hb
        rcases List.mem_append.1 hb with hb | hb
        · rintro rfl; revert hb; decide
        · exact dig_ne (by decide) b hb
    have hc := cut_no (Lib.decDigits u ++ tailB k) [50, 94] 42 hno
    have hc2 : Lib.cut (Lib.decDigits u ++ tailB k) [47, 50, 94] = (Lib.decDigits u, Lib.itoa (j : Int), true) := by
      rw [e, hj, ← List.append_assoc]
      exact cut_at _ _ [50, 94] 47 (dig_ne (by decide))
    have pk := pt.k1
    have w : IntKind.wrap .i64 ((j : Int) * -1) = k := by rw [wrap_i64 (by omega) (by omega)]; omega
    rw [hc]
    unfold strV
    repeat' (first | done | ((with_reducible refine brK_yes ?_ ?_); (· omega)) | ((with_reducible refine brK_no ?_ ?_); (· omega)) | (with_reducible refine brK_both (fun _ => ?_) (fun _ => ?_)) | ((with_reducible refine And.intro (And.intro ?_ ?_) ?_); (· omega); (· omega)) | ((with_reducible refine And.intro ?_ ?_); (· omega)) | (with_reducible refine And.intro (show List.all _ oneCell = true from rfl) ?_) | ((with_reducible refine st_newM ?_ ?_); (· rfl)) | ((with_reducible refine bs_oneM ?_ ?_); (· rfl)) | (with_reducible refine bd_of (by with_unfolding_all (simp only [fillL_cons, fillL_nil, nth_eq, blt_eq, cond_beq, over, Value.cells, List.getElem?_cons_zero, List.getElem?_cons_succ, List.length_cons, List.length_nil, Nat.reduceAdd, Nat.reduceSub, Nat.reduceLT, Nat.reduceEqDiff, decide_true, cond_true, Option.map_some, if_true, if_false, Nat.add_one_sub_one, Nat.succ_ne_zero, reduceCtorEq, OfNat.ofNat]; rfl)) ?_) | (with_reducible refine bda_of (by with_unfolding_all rfl) ?_) | (simp -dsimp only [↓cw_ops, ↓cw_seq, ↓cw_block, ↓cw_exit, ↓cw_cond, ↓seqK_normal, ↓seqK_exit, ↓blockK_same, ↓getK_same, ↓getK_ne, ↓evK_tmp, ↓evK_int, ↓evK_string, ↓condV_var, ↓opsW_nil, ↓opsW_d, ↓opW_move, ↓opW_assign, ↓evs_nil, ↓evs_cons, ↓opW_call, ↓opW_un, ↓un_not, ↓opW_extract, ↓ext_tuple, ↓r35_28_w, ↓s35_29_w, ↓s35_30_w, ↓r35_31_w, ↓s35_32_w, ↓s35_33_w, ↓s35_34_w, ↓s35_35_w, ↓s35_36_w, ↓r35_37_w, ↓s35_38_w, ↓s35_39_w, List.getElem?_cons_zero, List.getElem?_cons_succ, onV_some', brK_true, ne_eq, Nat.reduceEqDiff, not_false_eq_true, Bool.not_false]))
    refine cut_ret (s := Lib.decDigits u ++ tailB k) (p := [47, 50, 94]) hm1 (by omega) ?_
    rw [hc2]
    unfold strV
    repeat' (first | done | ((with_reducible refine brK_yes ?_ ?_); (· omega)) | ((with_reducible refine brK_no ?_ ?_); (· omega)) | (with_reducible refine brK_both (fun _ => ?_) (fun _ => ?_)) | ((with_reducible refine And.intro (And.intro ?_ ?_) ?_); (· omega); (· omega)) | ((with_reducible refine And.intro ?_ ?_); (· omega)) | (with_reducible refine And.intro (show List.all _ oneCell = true from rfl) ?_) | ((with_reducible refine st_newM ?_ ?_); (· rfl)) | ((with_reducible refine bs_oneM ?_ ?_); (· rfl)) | (with_reducible refine bd_of (by with_unfolding_all (simp only [fillL_cons, fillL_nil, nth_eq, blt_eq, cond_beq, over, Value.cells, List.getElem?_cons_zero, List.getElem?_cons_succ, List.length_cons, List.length_nil, Nat.reduceAdd, Nat.reduceSub, Nat.reduceLT, Nat.reduceEqDiff, decide_true, cond_true, Option.map_some, if_true, if_false, Nat.add_one_sub_one, Nat.succ_ne_zero, reduceCtorEq, OfNat.ofNat]; rfl)) ?_) | (with_reducible refine bda_of (by with_unfolding_all rfl) ?_) | (simp -dsimp only [↓cw_ops, ↓cw_seq, ↓cw_cond, ↓seqK_normal, ↓blockK_normal, ↓getK_same, ↓getK_ne, ↓evK_tmp, ↓evK_int, ↓condV_var, ↓opsW_nil, ↓opsW_d, ↓opW_move, ↓opW_assign, ↓evs_nil, ↓evs_cons, ↓opW_call, ↓opW_extract, ↓ext_tuple, ↓r35_20_w, ↓s35_21_w, ↓s35_22_w, ↓r35_23_w, ↓s35_24_w, ↓s35_25_w, ↓r35_26_w, ↓s35_27_w, List.getElem?_cons_zero, List.getElem?_cons_succ, onV_some', brK_true, ne_eq, Nat.reduceEqDiff, not_false_eq_true]))
    refine atoi_ret (s := Lib.itoa (j : Int)) (n := (j : Int)) (atoi_itoa j) (itoa_len (by omega)) ?_
    repeat' (first | done | ((with_reducible refine brK_yes ?_ ?_); (· omega)) | ((with_reducible refine brK_no ?_ ?_); (· omega)) | (with_reducible refine brK_both (fun _ => ?_) (fun _ => ?_)) | ((with_reducible refine And.intro (And.intro ?_ ?_) ?_); (· omega); (· omega)) | ((with_reducible refine And.intro ?_ ?_); (· omega)) | (with_reducible refine And.intro (show List.all _ oneCell = true from rfl) ?_) | ((with_reducible refine st_newM ?_ ?_); (· rfl)) | ((with_reducible refine bs_oneM ?_ ?_); (· rfl)) | (with_reducible refine bd_of (by with_unfolding_all (simp only [fillL_cons, fillL_nil, nth_eq, blt_eq, cond_beq, over, Value.cells, List.getElem?_cons_zero, List.getElem?_cons_succ, List.length_cons, List.length_nil, Nat.reduceAdd, Nat.reduceSub, Nat.reduceLT, Nat.reduceEqDiff, decide_true, cond_true, Option.map_some, if_true, if_false, Nat.add_one_sub_one, Nat.succ_ne_zero, reduceCtorEq, OfNat.ofNat]; rfl)) ?_) | (with_reducible refine bda_of (by with_unfolding_all rfl) ?_) | (simp -dsimp only [↓cw_ops, ↓cw_exit, ↓seqK_normal, ↓blockK_same, ↓getK_same, ↓getK_ne, ↓evK_tmp, ↓opsW_nil, ↓opsW_d, ↓opW_move, ↓opW_assign, ↓opW_bin, ↓bin_mul, ↓opW_extract, ↓ext_tuple, ↓r35_18_w, ↓s35_19_w, List.getElem?_cons_zero, List.getElem?_cons_succ, onV_some', ne_eq, Nat.reduceEqDiff, not_false_eq_true, Bool.not_false, w]))
    refine of_tail pt hs ht1 (by omega) ?_ ?_ ?_ ?_ fun h2 X2 => hK h2 (X1.trans (X2.mono n1))
    · simp only [T.get_set]; simpa [strV] using g0'
    · simp [T.get_set]
    · simp [T.get_set]
    · simp [T.get_set, strV]
  · have e : k = 0 := by omega
    subst e
    have e : tailB 0 = [] := by unfold tailB; rw [if_neg (by decide), if_neg (by decide)]
    have hc := cut_no (Lib.decDigits u ++ tailB 0) [50, 94] 42 (by rw [e, List.append_nil]; exact dig_ne (by decide))
    have hc2 := cut_no (Lib.decDigits u ++ tailB 0) [50, 94] 47 (by rw [e, List.append_nil]; exact dig_ne (by decide))
    rw [hc]
    unfold strV
    repeat' (first | done | ((with_reducible refine brK_yes ?_ ?_); (· omega)) | ((with_reducible refine brK_no ?_ ?_); (· omega)) | (with_reducible refine brK_both (fun _ => ?_) (fun _ => ?_)) | ((with_reducible refine And.intro (And.intro ?_ ?_) ?_); (· omega); (· omega)) | ((with_reducible refine And.intro ?_ ?_); (· omega)) | (with_reducible refine And.intro (show List.all _ oneCell = true from rfl) ?_) | ((with_reducible refine st_newM ?_ ?_); (· rfl)) | ((with_reducible refine bs_oneM ?_ ?_); (· rfl)) | (with_reducible refine bd_of (by with_unfolding_all (simp only [fillL_cons, fillL_nil, nth_eq, blt_eq, cond_beq, over, Value.cells, List.getElem?_cons_zero, List.getElem?_cons_succ, List.length_cons, List.length_nil, Nat.reduceAdd, Nat.reduceSub, Nat.reduceLT, Nat.reduceEqDiff, decide_true, cond_true, Option.map_some, if_true, if_false, Nat.add_one_sub_one, Nat.succ_ne_zero, reduceCtorEq, OfNat.ofNat]; rfl)) ?_) | (with_reducible refine bda_of (by with_unfolding_all rfl) ?_) | (simp -dsimp only [↓cw_ops, ↓cw_seq, ↓cw_block, ↓cw_exit, ↓cw_cond, ↓seqK_normal, ↓seqK_exit, ↓blockK_same, ↓getK_same, ↓getK_ne, ↓evK_tmp, ↓evK_int, ↓evK_string, ↓condV_var, ↓opsW_nil, ↓opsW_d, ↓opW_move, ↓opW_assign, ↓evs_nil, ↓evs_cons, ↓opW_call, ↓opW_un, ↓un_not, ↓opW_extract, ↓ext_tuple, ↓r35_28_w, ↓s35_29_w, ↓s35_30_w, ↓r35_31_w, ↓s35_32_w, ↓s35_33_w, ↓s35_34_w, ↓s35_35_w, ↓s35_36_w, ↓r35_37_w, ↓s35_38_w, ↓s35_39_w, List.getElem?_cons_zero, List.getElem?_cons_succ, onV_some', brK_true, ne_eq, Nat.reduceEqDiff, not_false_eq_true, Bool.not_false]))
    refine cut_ret (s := Lib.decDigits u ++ tailB 0) (p := [47, 50, 94]) hm1 (by omega) ?_
    rw [hc2]
    unfold strV
    repeat' (first | done | ((with_reducible refine brK_yes ?_ ?_); (· omega)) | ((with_reducible refine brK_no ?_ ?_); (· omega)) | (with_reducible refine brK_both (fun _ => ?_) (fun _ => ?_)) | ((with_reducible refine And.intro (And.intro ?_ ?_) ?_); (· omega); (· omega)) | ((with_reducible refine And.intro ?_ ?_); (· omega)) | (with_reducible refine And.intro (show List.all _ oneCell = true from rfl) ?_) | ((with_reducible refine st_newM ?_ ?_); (· rfl)) | ((with_reducible refine bs_oneM ?_ ?_); (· rfl)) | (with_reducible refine bd_of (by with_unfolding_all (simp only [fillL_cons, fillL_nil, nth_eq, blt_eq, cond_beq, over, Value.cells, List.getElem?_cons_zero, List.getElem?_cons_succ, List.length_cons, List.length_nil, Nat.reduceAdd, Nat.reduceSub, Nat.reduceLT, Nat.reduceEqDiff, decide_true, cond_true, Option.map_some, if_true, if_false, Nat.add_one_sub_one, Nat.succ_ne_zero, reduceCtorEq, OfNat.ofNat]; rfl)) ?_) | (with_reducible refine bda_of (by with_unfolding_all rfl) ?_) | (simp -dsimp only [↓cw_skip, ↓cw_ops, ↓cw_seq, ↓cw_exit, ↓cw_cond, ↓seqK_normal, ↓blockK_normal, ↓blockK_same, ↓getK_same, ↓getK_ne, ↓evK_tmp, ↓evK_int, ↓condV_var, ↓opsW_nil, ↓opsW_d, ↓opW_move, ↓opW_assign, ↓opW_extract, ↓ext_tuple, ↓s35_22_w, ↓r35_23_w, ↓s35_24_w, ↓s35_25_w, ↓r35_26_w, ↓s35_27_w, List.getElem?_cons_zero, List.getElem?_cons_succ, onV_some', brK_false, ne_eq, Nat.reduceEqDiff, not_false_eq_true, Bool.false_eq_true,  Bool.not_false]))
    refine of_tail pt hs ht1 (by omega) ?_ ?_ ?_ ?_ fun h2 X2 => hK h2 (X1.trans (X2.mono n1))
    · simp only [T.get_set]; simpa [strV] using g0'
    · simp [T.get_set]
    · simp [T.get_set]
    · simp [T.get_set, strV, e]
end Go.Proofs.YtjcmcoabckkjoaaDoor.Li

namespace Go.Proofs.YtjcmcoabckkjoaaDoor.Li
open Go.Ev
set_option maxRecDepth 100000
set_option maxHeartbeats 400000
theorem same_ret {n m : Nat} {h : Heap} {K : Value → Heap → Prop} (hn : n < 18446744073709551616) (hm : m < 18446744073709551616) (he : (isNan n = true ∧ isNan m = true) ∨ n = m) (hK : K (.bool true) h) : Ret env (.func 12) [.float .f64 n, .float .f64 m] h K := by
  refine F12 rfl ?_
  repeat' (first | done | ((with_reducible refine brK_yes ?_ ?_); (· omega)) | ((with_reducible refine brK_no ?_ ?_); (· omega)) | (with_reducible refine brK_both (fun _ => ?_) (fun _ => ?_)) | ((with_reducible refine And.intro (And.intro ?_ ?_) ?_); (· omega); (· omega)) | ((with_reducible refine And.intro ?_ ?_); (· omega)) | (with_reducible refine And.intro (show List.all _ oneCell = true from rfl) ?_) | ((with_reducible refine st_newM ?_ ?_); (· rfl)) | ((with_reducible refine bs_oneM ?_ ?_); (· rfl)) | (with_reducible refine bd_of (by with_unfolding_all (simp only [fillL_cons, fillL_nil, nth_eq, blt_eq, cond_beq, over, Value.cells, List.getElem?_cons_zero, List.getElem?_cons_succ, List.length_cons, List.length_nil, Nat.reduceAdd, Nat.reduceSub, Nat.reduceLT, Nat.reduceEqDiff, decide_true, cond_true, Option.map_some, if_true, if_false, Nat.add_one_sub_one, Nat.succ_ne_zero, reduceCtorEq, OfNat.ofNat]; rfl)) ?_) | (with_reducible refine bda_of (by with_unfolding_all rfl) ?_) | (simp -dsimp only [↓cw_ops, ↓cw_seq, ↓seqK_normal, ↓getK_same, ↓getK_ne, ↓evK_tmp, ↓evK_bool, ↓opsW_nil, ↓opsW_d, ↓opW_move, ↓opW_assign, ↓evs_nil, ↓evs_cons, ↓opW_call, ↓setAll_cons, ↓setAll_nil, ↓r12_0_w, ↓s12_1_w, ↓r12_2_w, ↓s12_3_w, ne_eq, Nat.reduceEqDiff, Nat.reduceAdd, not_false_eq_true, Nat.one_ne_zero]))
  refine nan_fl hn ?_
  rcases he with ⟨h1, h2⟩ | rfl
  · rw [h1]
    repeat' (first | done | ((with_reducible refine brK_yes ?_ ?_); (· omega)) | ((with_reducible refine brK_no ?_ ?_); (· omega)) | (with_reducible refine brK_both (fun _ => ?_) (fun _ => ?_)) | ((with_reducible refine And.intro (And.intro ?_ ?_) ?_); (· omega); (· omega)) | ((with_reducible refine And.intro ?_ ?_); (· omega)) | (with_reducible refine And.intro (show List.all _ oneCell = true from rfl) ?_) | ((with_reducible refine st_newM ?_ ?_); (· rfl)) | ((with_reducible refine bs_oneM ?_ ?_); (· rfl)) | (with_reducible refine bd_of (by with_unfolding_all (simp only [fillL_cons, fillL_nil, nth_eq, blt_eq, cond_beq, over, Value.cells, List.getElem?_cons_zero, List.getElem?_cons_succ, List.length_cons, List.length_nil, Nat.reduceAdd, Nat.reduceSub, Nat.reduceLT, Nat.reduceEqDiff, decide_true, cond_true, Option.map_some, if_true, if_false, Nat.add_one_sub_one, Nat.succ_ne_zero, reduceCtorEq, OfNat.ofNat]; rfl)) ?_) | (with_reducible refine bda_of (by with_unfolding_all rfl) ?_) | (simp -dsimp only [↓getK_same, ↓getK_ne, ↓evK_tmp, ↓gdV_var, ↓opsW_d, ↓opsW_gd, ↓opW_move, ↓evs_nil, ↓evs_cons, ↓opW_call, ↓setAll_cons, ↓setAll_nil, brK_true, ne_eq, Nat.reduceEqDiff, Nat.reduceAdd, not_false_eq_true]))
    refine nan_fl hm ?_
    rw [h2]
    repeat' (first | done | ((with_reducible refine brK_yes ?_ ?_); (· omega)) | ((with_reducible refine brK_no ?_ ?_); (· omega)) | (with_reducible refine brK_both (fun _ => ?_) (fun _ => ?_)) | ((with_reducible refine And.intro (And.intro ?_ ?_) ?_); (· omega); (· omega)) | ((with_reducible refine And.intro ?_ ?_); (· omega)) | (with_reducible refine And.intro (show List.all _ oneCell = true from rfl) ?_) | ((with_reducible refine st_newM ?_ ?_); (· rfl)) | ((with_reducible refine bs_oneM ?_ ?_); (· rfl)) | (with_reducible refine bd_of (by with_unfolding_all (simp only [fillL_cons, fillL_nil, nth_eq, blt_eq, cond_beq, over, Value.cells, List.getElem?_cons_zero, List.getElem?_cons_succ, List.length_cons, List.length_nil, Nat.reduceAdd, Nat.reduceSub, Nat.reduceLT, Nat.reduceEqDiff, decide_true, cond_true, Option.map_some, if_true, if_false, Nat.add_one_sub_one, Nat.succ_ne_zero, reduceCtorEq, OfNat.ofNat]; rfl)) ?_) | (with_reducible refine bda_of (by with_unfolding_all rfl) ?_) | (simp -dsimp only [↓cw_ret, ↓seqK_normal, ↓getK_same, ↓getK_ne, ↓evK_tmp, ↓evK_bool, ↓condV_var, ↓gdV_var, ↓opsW_nil, ↓opsW_d, ↓opsW_gd, ↓opW_move, ↓opW_assign, ↓opW_pick, ↓resK_one, brK_true, brK_false, ne_eq, Nat.reduceEqDiff, not_false_eq_true, Bool.true_eq_false]))
    exact hK
  · cases hb : isNan n with
    | false =>
      repeat' (first | done | ((with_reducible refine brK_yes ?_ ?_); (· omega)) | ((with_reducible refine brK_no ?_ ?_); (· omega)) | (with_reducible refine brK_both (fun _ => ?_) (fun _ => ?_)) | ((with_reducible refine And.intro (And.intro ?_ ?_) ?_); (· omega); (· omega)) | ((with_reducible refine And.intro ?_ ?_); (· omega)) | (with_reducible refine And.intro (show List.all _ oneCell = true from rfl) ?_) | ((with_reducible refine st_newM ?_ ?_); (· rfl)) | ((with_reducible refine bs_oneM ?_ ?_); (· rfl)) | (with_reducible refine bd_of (by with_unfolding_all (simp only [fillL_cons, fillL_nil, nth_eq, blt_eq, cond_beq, over, Value.cells, List.getElem?_cons_zero, List.getElem?_cons_succ, List.length_cons, List.length_nil, Nat.reduceAdd, Nat.reduceSub, Nat.reduceLT, Nat.reduceEqDiff, decide_true, cond_true, Option.map_some, if_true, if_false, Nat.add_one_sub_one, Nat.succ_ne_zero, reduceCtorEq, OfNat.ofNat]; rfl)) ?_) | (with_reducible refine bda_of (by with_unfolding_all rfl) ?_) | (simp -dsimp only [↓getK_same, ↓getK_ne, ↓evK_tmp, ↓evK_bool, ↓condV_var, ↓gdV_var, ↓opsW_d, ↓opsW_gd, ↓opW_move, ↓opW_pick, ↓evs_nil, ↓evs_cons, ↓opW_call, ↓setAll_cons, ↓setAll_nil, brK_true, brK_false, ne_eq, Nat.reduceEqDiff, Nat.reduceAdd, not_false_eq_true, Nat.one_ne_zero, Bool.false_eq_true]))
      refine bits_fl ?_
      repeat' (first | done | ((with_reducible refine brK_yes ?_ ?_); (· omega)) | ((with_reducible refine brK_no ?_ ?_); (· omega)) | (with_reducible refine brK_both (fun _ => ?_) (fun _ => ?_)) | ((with_reducible refine And.intro (And.intro ?_ ?_) ?_); (· omega); (· omega)) | ((with_reducible refine And.intro ?_ ?_); (· omega)) | (with_reducible refine And.intro (show List.all _ oneCell = true from rfl) ?_) | ((with_reducible refine st_newM ?_ ?_); (· rfl)) | ((with_reducible refine bs_oneM ?_ ?_); (· rfl)) | (with_reducible refine bd_of (by with_unfolding_all (simp only [fillL_cons, fillL_nil, nth_eq, blt_eq, cond_beq, over, Value.cells, List.getElem?_cons_zero, List.getElem?_cons_succ, List.length_cons, List.length_nil, Nat.reduceAdd, Nat.reduceSub, Nat.reduceLT, Nat.reduceEqDiff, decide_true, cond_true, Option.map_some, if_true, if_false, Nat.add_one_sub_one, Nat.succ_ne_zero, reduceCtorEq, OfNat.ofNat]; rfl)) ?_) | (with_reducible refine bda_of (by with_unfolding_all rfl) ?_) | (simp -dsimp only [↓getK_same, ↓getK_ne, ↓evK_tmp, ↓gdV_var, ↓opsW_gd, ↓opW_move, ↓evs_nil, ↓evs_cons, ↓opW_call, ↓setAll_cons, ↓setAll_nil, brK_true, ne_eq, Nat.reduceEqDiff, Nat.reduceAdd, not_false_eq_true]))
      refine bits_fl ?_
      repeat' (first | done | ((with_reducible refine brK_yes ?_ ?_); (· omega)) | ((with_reducible refine brK_no ?_ ?_); (· omega)) | (with_reducible refine brK_both (fun _ => ?_) (fun _ => ?_)) | ((with_reducible refine And.intro (And.intro ?_ ?_) ?_); (· omega); (· omega)) | ((with_reducible refine And.intro ?_ ?_); (· omega)) | (with_reducible refine And.intro (show List.all _ oneCell = true from rfl) ?_) | ((with_reducible refine st_newM ?_ ?_); (· rfl)) | ((with_reducible refine bs_oneM ?_ ?_); (· rfl)) | (with_reducible refine bd_of (by with_unfolding_all (simp only [fillL_cons, fillL_nil, nth_eq, blt_eq, cond_beq, over, Value.cells, List.getElem?_cons_zero, List.getElem?_cons_succ, List.length_cons, List.length_nil, Nat.reduceAdd, Nat.reduceSub, Nat.reduceLT, Nat.reduceEqDiff, decide_true, cond_true, Option.map_some, if_true, if_false, Nat.add_one_sub_one, Nat.succ_ne_zero, reduceCtorEq, OfNat.ofNat]; rfl)) ?_) | (with_reducible refine bda_of (by with_unfolding_all rfl) ?_) | (simp -dsimp only [↓cw_ret, ↓seqK_normal, ↓getK_same, ↓getK_ne, ↓evK_tmp, ↓condV_var, ↓gdV_var, ↓opsW_nil, ↓opsW_d, ↓opsW_gd, ↓opW_assign, ↓opW_pick, ↓opW_bin, ↓bin_eql, ↓resK_one, brK_true, brK_false, ne_eq, Nat.reduceEqDiff, not_false_eq_true, Bool.false_eq_true]))
      exact hK
    | true =>
      repeat' (first | done | ((with_reducible refine brK_yes ?_ ?_); (· omega)) | ((with_reducible refine brK_no ?_ ?_); (· omega)) | (with_reducible refine brK_both (fun _ => ?_) (fun _ => ?_)) | ((with_reducible refine And.intro (And.intro ?_ ?_) ?_); (· omega); (· omega)) | ((with_reducible refine And.intro ?_ ?_); (· omega)) | (with_reducible refine And.intro (show List.all _ oneCell = true from rfl) ?_) | ((with_reducible refine st_newM ?_ ?_); (· rfl)) | ((with_reducible refine bs_oneM ?_ ?_); (· rfl)) | (with_reducible refine bd_of (by with_unfolding_all (simp only [fillL_cons, fillL_nil, nth_eq, blt_eq, cond_beq, over, Value.cells, List.getElem?_cons_zero, List.getElem?_cons_succ, List.length_cons, List.length_nil, Nat.reduceAdd, Nat.reduceSub, Nat.reduceLT, Nat.reduceEqDiff, decide_true, cond_true, Option.map_some, if_true, if_false, Nat.add_one_sub_one, Nat.succ_ne_zero, reduceCtorEq, OfNat.ofNat]; rfl)) ?_) | (with_reducible refine bda_of (by with_unfolding_all rfl) ?_) | (simp -dsimp only [↓getK_same, ↓getK_ne, ↓evK_tmp, ↓gdV_var, ↓opsW_d, ↓opsW_gd, ↓opW_move, ↓evs_nil, ↓evs_cons, ↓opW_call, ↓setAll_cons, ↓setAll_nil, brK_true, ne_eq, Nat.reduceEqDiff, Nat.reduceAdd, not_false_eq_true]))
      refine nan_fl hn ?_
      rw [hb]
      repeat' (first | done | ((with_reducible refine brK_yes ?_ ?_); (· omega)) | ((with_reducible refine brK_no ?_ ?_); (· omega)) | (with_reducible refine brK_both (fun _ => ?_) (fun _ => ?_)) | ((with_reducible refine And.intro (And.intro ?_ ?_) ?_); (· omega); (· omega)) | ((with_reducible refine And.intro ?_ ?_); (· omega)) | (with_reducible refine And.intro (show List.all _ oneCell = true from rfl) ?_) | ((with_reducible refine st_newM ?_ ?_); (· rfl)) | ((with_reducible refine bs_oneM ?_ ?_); (· rfl)) | (with_reducible refine bd_of (by with_unfolding_all (simp only [fillL_cons, fillL_nil, nth_eq, blt_eq, cond_beq, over, Value.cells, List.getElem?_cons_zero, List.getElem?_cons_succ, List.length_cons, List.length_nil, Nat.reduceAdd, Nat.reduceSub, Nat.reduceLT, Nat.reduceEqDiff, decide_true, cond_true, Option.map_some, if_true, if_false, Nat.add_one_sub_one, Nat.succ_ne_zero, reduceCtorEq, OfNat.ofNat]; rfl)) ?_) | (with_reducible refine bda_of (by with_unfolding_all rfl) ?_) | (simp -dsimp only [↓cw_ret, ↓seqK_normal, ↓getK_same, ↓getK_ne, ↓evK_tmp, ↓evK_bool, ↓condV_var, ↓gdV_var, ↓opsW_nil, ↓opsW_d, ↓opsW_gd, ↓opW_move, ↓opW_assign, ↓opW_pick, ↓resK_one, brK_true, brK_false, ne_eq, Nat.reduceEqDiff, not_false_eq_true, Bool.true_eq_false]))
      exact hK
theorem known_ret {h : Heap} {K : Value → Heap → Prop} (ht : tabsOk tabs h = true) (hK : K (.bool true) h) : Ret env (.func 8) [] h K := by
  refine Ret.ext (v := .bool true) ?_ hK
  show extTab tabs ext8 8 8 [] h = _
  simp only [extTab, Nat.beq_refl, cond_true, ht]
theorem cls_same {n c : Nat} (hn : n < 18446744073709551616) (hc : c ∈ clsC) (e : classB c = classB n) : (isNan n = true ∧ isNan c = true) ∨ n = c := by
  have hin := isNan_iff n
  have key : classB n = if isNan n then [110, 97, 110] else if rungN n = 9218868437227405312 then (if negN n then [45, 105, 110, 102] else [105, 110, 102]) else if rungN n = 0 then (if negN n then [45, 48] else [48]) else [] := rfl
  simp only [clsC, List.mem_cons, List.not_mem_nil, or_false] at hc
  have v0 : classB 9221120237041090561 = [110, 97, 110] := by decide
  have v1 : classB 9218868437227405312 = [105, 110, 102] := by decide
  have v2 : classB 18442240474082181120 = [45, 105, 110, 102] := by decide
  have v3 : classB 0 = [48] := by decide
  have v4 : classB 9223372036854775808 = [45, 48] := by decide
  have i0 : isNan 9221120237041090561 = true := by decide
  cases hnan : isNan n with
  | true =>
    rw [hnan, if_pos rfl] at key
    rw [key] at e
    rcases hc with rfl | rfl | rfl | rfl | rfl
    · exact .inl ⟨rfl, i0⟩
    · rw [v1] at e; exact absurd e (by decide)
    · rw [v2] at e; exact absurd e (by decide)
    · rw [v3] at e; exact absurd e (by decide)
    · rw [v4] at e; exact absurd e (by decide)
  | false =>
    right
    rw [hnan, if_neg (by decide)] at key
    unfold rungN at key
    by_cases h1 : n % 9223372036854775808 = 9218868437227405312
    · rw [if_pos h1] at key
      unfold negN at key
      by_cases hg : 9223372036854775808 ≤ n
      · rw [decide_eq_true hg, if_pos rfl] at key
        rw [key] at e
        rcases hc with rfl | rfl | rfl | rfl | rfl
        · rw [v0] at e; exact absurd e (by decide)
        · rw [v1] at e; exact absurd e (by decide)
        · omega
        · rw [v3] at e; exact absurd e (by decide)
        · rw [v4] at e; exact absurd e (by decide)
      · rw [decide_eq_false hg, if_neg (by decide)] at key
        rw [key] at e
        rcases hc with rfl | rfl | rfl | rfl | rfl
        · rw [v0] at e; exact absurd e (by decide)
        · omega
        · rw [v2] at e; exact absurd e (by decide)
        · rw [v3] at e; exact absurd e (by decide)
        · rw [v4] at e; exact absurd e (by decide)
    · rw [if_neg h1] at key
      by_cases h2 : n % 9223372036854775808 = 0
      · rw [if_pos h2] at key
        unfold negN at key
        by_cases hg : 9223372036854775808 ≤ n
        · rw [decide_eq_true hg, if_pos rfl] at key
          rw [key] at e
          rcases hc with rfl | rfl | rfl | rfl | rfl
          · rw [v0] at e; exact absurd e (by decide)
          · rw [v1] at e; exact absurd e (by decide)
          · rw [v2] at e; exact absurd e (by decide)
          · rw [v3] at e; exact absurd e (by decide)
          · omega
        · rw [decide_eq_false hg, if_neg (by decide)] at key
          rw [key] at e
          rcases hc with rfl | rfl | rfl | rfl | rfl
          · rw [v0] at e; exact absurd e (by decide)
          · rw [v1] at e; exact absurd e (by decide)
          · rw [v2] at e; exact absurd e (by decide)
          · omega
          · rw [v4] at e; exact absurd e (by decide)
      · rw [if_neg h2] at key
        rw [key] at e
        rcases hc with rfl | rfl | rfl | rfl | rfl
        · rw [v0] at e; exact absurd e (by decide)
        · rw [v1] at e; exact absurd e (by decide)
        · rw [v2] at e; exact absurd e (by decide)
        · rw [v3] at e; exact absurd e (by decide)
        · rw [v4] at e; exact absurd e (by decide)
theorem cls_has (n : Nat) (hne : classB n ≠ []) : ∃ c ∈ clsC, classB c = classB n := by
  have v0 : classB 9221120237041090561 = [110, 97, 110] := by decide
  have v1 : classB 9218868437227405312 = [105, 110, 102] := by decide
  have v2 : classB 18442240474082181120 = [45, 105, 110, 102] := by decide
  have v3 : classB 0 = [48] := by decide
  have v4 : classB 9223372036854775808 = [45, 48] := by decide
  rcases class_cases n with h | h | h | h | h | h
  · exact absurd h hne
  · exact ⟨_, by simp [clsC], v0.trans h.symm⟩
  · exact ⟨_, by simp [clsC], v2.trans h.symm⟩
  · exact ⟨_, by simp [clsC], v1.trans h.symm⟩
  · exact ⟨_, by simp [clsC], v4.trans h.symm⟩
  · exact ⟨_, by simp [clsC], v3.trans h.symm⟩
theorem of_ret {n : Nat} {h : Heap} {K : Value → Heap → Prop} (hn : n < 18446744073709551616) (ht : tabsOk tabs h = true) (hh : 3 < h.n) (hm : isI (cellAt h ⟨3, 0, none⟩) = true)
    (hK : ∀ m h', m < 18446744073709551616 → ((isNan n = true ∧ isNan m = true) ∨ n = m) → ExtB 4 h h' → K (ofT (.float .f64 m)) h') : Ret env (.func 35) [strV (textB n)] h K := by
  by_cases hc : classB n = []
  · exact of_fin (Fin.of hn hc) ht hh hm fun h' X => hK n h' hn (.inr rfl) (X.mono hh)
  · have e : textB n = classB n := by unfold textB; rw [if_pos hc]
    rw [e]
    have hlt : ∀ c ∈ clsC, c < 18446744073709551616 := by decide
    refine of_loop (fun c h' hcc X he => hK c h' (hlt c hcc) (cls_same hn hcc he) (X.mono hh)) fun hno => ?_
    obtain ⟨c, hcc, he⟩ := cls_has n hc
    exact absurd he (hno c hcc)
theorem law6_ret {n : Int} {h : Heap} (hn : 0 ≤ n ∧ n ≤ 18446744073709551615) (hh : 3 < h.n) (ht : tabsOk tabs h = true) (hm : isI (cellAt h ⟨3, 0, none⟩) = true) : Ret env (.func 6) [.int .u64 n] h fun v _ => v = .bool true := by
  refine F6 rfl ?_
  obtain ⟨b, rfl⟩ : ∃ b : Nat, n = b := ⟨n.toNat, by omega⟩
  have hb : b < 18446744073709551616 := by omega
  repeat' (first | done | ((with_reducible refine brK_yes ?_ ?_); (· omega)) | ((with_reducible refine brK_no ?_ ?_); (· omega)) | (with_reducible refine brK_both (fun _ => ?_) (fun _ => ?_)) | ((with_reducible refine And.intro (And.intro ?_ ?_) ?_); (· omega); (· omega)) | ((with_reducible refine And.intro ?_ ?_); (· omega)) | (with_reducible refine And.intro (show List.all _ oneCell = true from rfl) ?_) | ((with_reducible refine st_newM ?_ ?_); (· rfl)) | ((with_reducible refine bs_oneM ?_ ?_); (· rfl)) | (with_reducible refine bd_of (by with_unfolding_all (simp only [fillL_cons, fillL_nil, nth_eq, blt_eq, cond_beq, over, Value.cells, List.getElem?_cons_zero, List.getElem?_cons_succ, List.length_cons, List.length_nil, Nat.reduceAdd, Nat.reduceSub, Nat.reduceLT, Nat.reduceEqDiff, decide_true, cond_true, Option.map_some, if_true, if_false, Nat.add_one_sub_one, Nat.succ_ne_zero, reduceCtorEq, OfNat.ofNat]; rfl)) ?_) | (with_reducible refine bda_of (by with_unfolding_all rfl) ?_) | (simp -dsimp only [↓cw_ops, ↓cw_seq, ↓seqK_normal, ↓getK_same, ↓getK_ne, ↓evK_tmp, ↓evK_bool, ↓opsW_nil, ↓opsW_d, ↓opW_move, ↓opW_assign, ↓evs_nil, ↓evs_cons, ↓opW_call, ↓setAll_cons, ↓setAll_nil, ↓r6_6_w, ↓s6_7_w, ↓r6_8_w, ↓s6_9_w, ne_eq, Nat.reduceEqDiff, not_false_eq_true]))
  refine from_u ?_
  rw [Int.toNat_natCast]
  repeat' (first | done | ((with_reducible refine brK_yes ?_ ?_); (· omega)) | ((with_reducible refine brK_no ?_ ?_); (· omega)) | (with_reducible refine brK_both (fun _ => ?_) (fun _ => ?_)) | ((with_reducible refine And.intro (And.intro ?_ ?_) ?_); (· omega); (· omega)) | ((with_reducible refine And.intro ?_ ?_); (· omega)) | (with_reducible refine And.intro (show List.all _ oneCell = true from rfl) ?_) | ((with_reducible refine st_newM ?_ ?_); (· rfl)) | ((with_reducible refine bs_oneM ?_ ?_); (· rfl)) | (with_reducible refine bd_of (by with_unfolding_all (simp only [fillL_cons, fillL_nil, nth_eq, blt_eq, cond_beq, over, Value.cells, List.getElem?_cons_zero, List.getElem?_cons_succ, List.length_cons, List.length_nil, Nat.reduceAdd, Nat.reduceSub, Nat.reduceLT, Nat.reduceEqDiff, decide_true, cond_true, Option.map_some, if_true, if_false, Nat.add_one_sub_one, Nat.succ_ne_zero, reduceCtorEq, OfNat.ofNat]; rfl)) ?_) | (with_reducible refine bda_of (by with_unfolding_all rfl) ?_) | (simp -dsimp only [↓cw_ops, ↓cw_seq, ↓seqK_normal, ↓getK_same, ↓evK_tmp, ↓opsW_nil, ↓opsW_d, ↓opW_move, ↓opW_assign, ↓evs_nil, ↓evs_cons, ↓opW_call, ↓r6_4_w, ↓s6_5_w]))
  refine text_ret hb ht (by omega) fun h1 X1 => ?_
  have n1 := X1.n
  have ht1 := tabs_ext (by omega) X1 ht
  have hm1 := isI_ext hh X1 hm
  repeat' (first | done | ((with_reducible refine brK_yes ?_ ?_); (· omega)) | ((with_reducible refine brK_no ?_ ?_); (· omega)) | (with_reducible refine brK_both (fun _ => ?_) (fun _ => ?_)) | ((with_reducible refine And.intro (And.intro ?_ ?_) ?_); (· omega); (· omega)) | ((with_reducible refine And.intro ?_ ?_); (· omega)) | (with_reducible refine And.intro (show List.all _ oneCell = true from rfl) ?_) | ((with_reducible refine st_newM ?_ ?_); (· rfl)) | ((with_reducible refine bs_oneM ?_ ?_); (· rfl)) | (with_reducible refine bd_of (by with_unfolding_all (simp only [fillL_cons, fillL_nil, nth_eq, blt_eq, cond_beq, over, Value.cells, List.getElem?_cons_zero, List.getElem?_cons_succ, List.length_cons, List.length_nil, Nat.reduceAdd, Nat.reduceSub, Nat.reduceLT, Nat.reduceEqDiff, decide_true, cond_true, Option.map_some, if_true, if_false, Nat.add_one_sub_one, Nat.succ_ne_zero, reduceCtorEq, OfNat.ofNat]; rfl)) ?_) | (with_reducible refine bda_of (by with_unfolding_all rfl) ?_) | (simp -dsimp only [↓cw_ops, ↓cw_seq, ↓seqK_normal, ↓getK_same, ↓evK_tmp, ↓opsW_nil, ↓opsW_d, ↓opW_move, ↓opW_assign, ↓evs_nil, ↓evs_cons, ↓opW_call, ↓r6_2_w, ↓s6_3_w]))
  refine of_ret hb ht1 (by omega) hm1 fun m h2 hm64 he X2 => ?_
  have n2 := X2.n
  have ht2 := tabs_ext (by omega) X2 ht1
  unfold ofT
  unfold strV
  repeat' (first | done | ((with_reducible refine brK_yes ?_ ?_); (· omega)) | ((with_reducible refine brK_no ?_ ?_); (· omega)) | (with_reducible refine brK_both (fun _ => ?_) (fun _ => ?_)) | ((with_reducible refine And.intro (And.intro ?_ ?_) ?_); (· omega); (· omega)) | ((with_reducible refine And.intro ?_ ?_); (· omega)) | (with_reducible refine And.intro (show List.all _ oneCell = true from rfl) ?_) | ((with_reducible refine st_newM ?_ ?_); (· rfl)) | ((with_reducible refine bs_oneM ?_ ?_); (· rfl)) | (with_reducible refine bd_of (by with_unfolding_all (simp only [fillL_cons, fillL_nil, nth_eq, blt_eq, cond_beq, over, Value.cells, List.getElem?_cons_zero, List.getElem?_cons_succ, List.length_cons, List.length_nil, Nat.reduceAdd, Nat.reduceSub, Nat.reduceLT, Nat.reduceEqDiff, decide_true, cond_true, Option.map_some, if_true, if_false, Nat.add_one_sub_one, Nat.succ_ne_zero, reduceCtorEq, OfNat.ofNat]; rfl)) ?_) | (with_reducible refine bda_of (by with_unfolding_all rfl) ?_) | (simp -dsimp only [↓cw_ops, ↓cw_seq, ↓seqK_normal, ↓getK_same, ↓getK_ne, ↓evK_tmp, ↓opsW_nil, ↓opsW_d, ↓opW_move, ↓opW_assign, ↓evs_nil, ↓evs_cons, ↓opW_call, ↓opW_extract, ↓ext_tuple, ↓r6_0_w, ↓s6_1_w, List.getElem?_cons_zero, List.getElem?_cons_succ, onV_some', ne_eq, Nat.reduceEqDiff, not_false_eq_true]))
  refine refText_ret hb fun h3 X3 => ?_
  have n3 := X3.n
  have ht3 := tabs_ext (by omega) X3 ht2
  unfold strV
  repeat' (first | done | ((with_reducible refine brK_yes ?_ ?_); (· omega)) | ((with_reducible refine brK_no ?_ ?_); (· omega)) | (with_reducible refine brK_both (fun _ => ?_) (fun _ => ?_)) | ((with_reducible refine And.intro (And.intro ?_ ?_) ?_); (· omega); (· omega)) | ((with_reducible refine And.intro ?_ ?_); (· omega)) | (with_reducible refine And.intro (show List.all _ oneCell = true from rfl) ?_) | ((with_reducible refine st_newM ?_ ?_); (· rfl)) | ((with_reducible refine bs_oneM ?_ ?_); (· rfl)) | (with_reducible refine bd_of (by with_unfolding_all (simp only [fillL_cons, fillL_nil, nth_eq, blt_eq, cond_beq, over, Value.cells, List.getElem?_cons_zero, List.getElem?_cons_succ, List.length_cons, List.length_nil, Nat.reduceAdd, Nat.reduceSub, Nat.reduceLT, Nat.reduceEqDiff, decide_true, cond_true, Option.map_some, if_true, if_false, Nat.add_one_sub_one, Nat.succ_ne_zero, reduceCtorEq, OfNat.ofNat]; rfl)) ?_) | (with_reducible refine bda_of (by with_unfolding_all rfl) ?_) | (simp -dsimp only [↓getK_same, ↓getK_ne, ↓evK_tmp, ↓evK_int, ↓condV_var, ↓gdV_var, ↓opsW_d, ↓opsW_gd, ↓opW_move, ↓opW_pick, ↓opW_bin, ↓bin_eql, ↓evs_nil, ↓evs_cons, ↓opW_call, ↓bin_eqlS, brK_true, ne_eq, Nat.reduceEqDiff, not_false_eq_true, eq_self]))
  refine same_ret hb hm64 he ?_
  repeat' (first | done | ((with_reducible refine brK_yes ?_ ?_); (· omega)) | ((with_reducible refine brK_no ?_ ?_); (· omega)) | (with_reducible refine brK_both (fun _ => ?_) (fun _ => ?_)) | ((with_reducible refine And.intro (And.intro ?_ ?_) ?_); (· omega); (· omega)) | ((with_reducible refine And.intro ?_ ?_); (· omega)) | (with_reducible refine And.intro (show List.all _ oneCell = true from rfl) ?_) | ((with_reducible refine st_newM ?_ ?_); (· rfl)) | ((with_reducible refine bs_oneM ?_ ?_); (· rfl)) | (with_reducible refine bd_of (by with_unfolding_all (simp only [fillL_cons, fillL_nil, nth_eq, blt_eq, cond_beq, over, Value.cells, List.getElem?_cons_zero, List.getElem?_cons_succ, List.length_cons, List.length_nil, Nat.reduceAdd, Nat.reduceSub, Nat.reduceLT, Nat.reduceEqDiff, decide_true, cond_true, Option.map_some, if_true, if_false, Nat.add_one_sub_one, Nat.succ_ne_zero, reduceCtorEq, OfNat.ofNat]; rfl)) ?_) | (with_reducible refine bda_of (by with_unfolding_all rfl) ?_) | (simp -dsimp only [↓getK_same, ↓getK_ne, ↓evK_tmp, ↓condV_var, ↓gdV_var, ↓opsW_d, ↓opsW_gd, ↓opW_move, ↓opW_pick, ↓evs_nil, ↓opW_call, brK_true, ne_eq, Nat.reduceEqDiff, not_false_eq_true, eq_self]))
  refine known_ret ht3 ?_
  repeat' (first | done | ((with_reducible refine brK_yes ?_ ?_); (· omega)) | ((with_reducible refine brK_no ?_ ?_); (· omega)) | (with_reducible refine brK_both (fun _ => ?_) (fun _ => ?_)) | ((with_reducible refine And.intro (And.intro ?_ ?_) ?_); (· omega); (· omega)) | ((with_reducible refine And.intro ?_ ?_); (· omega)) | (with_reducible refine And.intro (show List.all _ oneCell = true from rfl) ?_) | ((with_reducible refine st_newM ?_ ?_); (· rfl)) | ((with_reducible refine bs_oneM ?_ ?_); (· rfl)) | (with_reducible refine bd_of (by with_unfolding_all (simp only [fillL_cons, fillL_nil, nth_eq, blt_eq, cond_beq, over, Value.cells, List.getElem?_cons_zero, List.getElem?_cons_succ, List.length_cons, List.length_nil, Nat.reduceAdd, Nat.reduceSub, Nat.reduceLT, Nat.reduceEqDiff, decide_true, cond_true, Option.map_some, if_true, if_false, Nat.add_one_sub_one, Nat.succ_ne_zero, reduceCtorEq, OfNat.ofNat]; rfl)) ?_) | (with_reducible refine bda_of (by with_unfolding_all rfl) ?_) | (simp -dsimp only [↓cw_ret, ↓seqK_normal, ↓getK_same, ↓getK_ne, ↓evK_tmp, ↓condV_var, ↓opsW_nil, ↓opsW_d, ↓opW_assign, ↓opW_pick, ↓resK_one, brK_true, ne_eq, Nat.reduceEqDiff, not_false_eq_true, eq_self]))
end Go.Proofs.YtjcmcoabckkjoaaDoor.Li

