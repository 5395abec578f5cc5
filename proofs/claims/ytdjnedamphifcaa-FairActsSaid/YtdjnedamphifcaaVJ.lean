/- Numbers, the bound, rounds, and that rounds are fair. Conditions, each theorem's own. -/
import Derived.Test.YtdjnedamphifcaaVE
set_option linter.unusedSimpArgs false
set_option linter.unusedVariables false
namespace Go.Proofs.Ytdjnedamphifcaa
open Go.Ev
set_option maxRecDepth 100000
set_option maxHeartbeats 400000
/-! numbers -/
theorem wrapU (a : Int) : IntKind.wrap .u64 a = a % 18446744073709551616 := by simp [IntKind.wrap, IntKind.bits, IntKind.signed]
theorem shr32 (a : Int) : a.fdiv (2 ^ min (Int.toNat 32) IntKind.u64.bits) = a / 4294967296 := by
  rw [Int.fdiv_eq_ediv_of_nonneg _ (by decide)]; rfl
theorem and32 (a : Int) : IntKind.wrap .u64 ((BitVec.ofInt IntKind.u64.bits a &&& BitVec.ofInt IntKind.u64.bits 4294967295).toNat : Int) = a % 4294967296 := by
  rw [wrapU]
  show (((BitVec.ofInt 64 a &&& BitVec.ofInt 64 4294967295).toNat : Int)) % 18446744073709551616 = a % 4294967296
  rw [BitVec.toNat_and, BitVec.toNat_ofInt, BitVec.toNat_ofInt, show ((4294967295 : Int) % ((2 ^ 64 : Nat) : Int)).toNat = 2 ^ 32 - 1 by decide, Nat.and_two_pow_sub_one_eq_mod]
  omega
theorem mul_le {a b A B : Int} (ha : 0 ≤ a) (hb : 0 ≤ b) (h1 : a ≤ A) (h2 : b ≤ B) : a * b ≤ A * B := Int.mul_le_mul h1 h2 hb (Int.le_trans ha h1)
theorem K2_of {K : Value → Heap → Prop} {h : Heap} {a b a' b' : Int} (hK : K (.tuple #[.int .u64 a, .int .u64 b]) h) (e1 : a = a') (e2 : b = b') : K (.tuple #[.int .u64 a', .int .u64 b']) h := by subst e1 e2; exact hK
theorem mul64_ret {x y : Int} {h : Heap} {K : Value → Heap → Prop} (hx : 0 ≤ x ∧ x < 18446744073709551616) (hy : 0 ≤ y ∧ y < 18446744073709551616)
    (hK : K (.tuple #[.int .u64 (x * y / 18446744073709551616), .int .u64 (x * y % 18446744073709551616)]) h) : Ret env (.func 66) [.int .u64 x, .int .u64 y] h K := by
  refine F66 rfl ?_
  repeat' (first | done | with_reducible (first | refine y1 ?_ (by omega) | refine y2 ?_ (by omega) | refine y3 (fun _ => ?_) (fun _ => ?_) | refine y4 ?_ (by omega) (by omega) | refine y5 ?_ (by omega) | refine y6 ?_ (by with_unfolding_all rfl) | refine y7 ?_ (by with_unfolding_all rfl) | refine y8 ?_ (by with_unfolding_all rfl) | refine y9 ?_ (by with_unfolding_all rfl) | refine ya ?_ (by with_unfolding_all rfl)) | (simp -dsimp only [↓cw_ops, ↓cw_seq, ↓cw_ret, ↓seqK_normal, ↓getK_same, ↓getK_ne, ↓evK_tmp, ↓evK_int, ↓opsW_nil, ↓opsW_d, ↓opW_move, ↓opW_assign, ↓opW_bin, ↓bin_add, ↓bin_mul, ↓bin_shr, ↓resK_two, ↓setAll_cons, ↓setAll_nil, ↓bin_and, ↓r66_0_w, ↓s66_1_w, ↓r66_2_w, ↓s66_3_w, ↓r66_4_w, ↓s66_5_w, ↓r66_6_w, ↓s66_7_w, ↓r66_8_w, ↓s66_9_w, ↓r66_10_w, ↓s66_11_w, ↓r66_12_w, ↓s66_13_w, ↓r66_14_w, ↓s66_15_w, ↓r66_16_w, ↓s66_17_w, ↓r66_18_w, ↓s66_19_w, ↓r66_20_w, ↓s66_21_w, ↓r66_22_w, ↓s66_23_w, ne_eq, Nat.reduceEqDiff, Nat.reduceAdd, not_false_eq_true, Nat.one_ne_zero]))
  refine K2_of hK ?_ ?_
  · simp only [and32]
    simp only [wrapU, shr32]
    have e1 : x = x / 4294967296 * 4294967296 + x % 4294967296 := by omega
    have e2 : y = y / 4294967296 * 4294967296 + y % 4294967296 := by omega
    have b1 : 0 ≤ x / 4294967296 ∧ x / 4294967296 ≤ 4294967295 := by omega
    have b2 : 0 ≤ x % 4294967296 ∧ x % 4294967296 ≤ 4294967295 := by omega
    have b3 : 0 ≤ y / 4294967296 ∧ y / 4294967296 ≤ 4294967295 := by omega
    have b4 : 0 ≤ y % 4294967296 ∧ y % 4294967296 ≤ 4294967295 := by omega
    generalize x / 4294967296 = x1 at *
    generalize x % 4294967296 = x0 at *
    generalize y / 4294967296 = y1 at *
    generalize y % 4294967296 = y0 at *
    subst e1 e2
    have ring : (x1 * 4294967296 + x0) * (y1 * 4294967296 + y0) = x1 * y1 * 18446744073709551616 + (x1 * y0 + x0 * y1) * 4294967296 + x0 * y0 := by grind
    have p00 := mul_le b2.1 b4.1 b2.2 b4.2
    have p10 := mul_le b1.1 b4.1 b1.2 b4.2
    have p01 := mul_le b2.1 b3.1 b2.2 b3.2
    have p11 := mul_le b1.1 b3.1 b1.2 b3.2
    have q00 := Int.mul_nonneg b2.1 b4.1
    have q10 := Int.mul_nonneg b1.1 b4.1
    have q01 := Int.mul_nonneg b2.1 b3.1
    have q11 := Int.mul_nonneg b1.1 b3.1
    rw [ring]
    generalize x0 * y0 = a at *
    generalize x1 * y0 = b at *
    generalize x0 * y1 = c at *
    generalize x1 * y1 = d at *
    clear ring hK hx hy b1 b2 b3 b4
    have ea : a % 18446744073709551616 = a := by omega
    have eb : b % 18446744073709551616 = b := by omega
    have ec : c % 18446744073709551616 = c := by omega
    have ed : d % 18446744073709551616 = d := by omega
    simp only [ea, eb, ec, ed]
    have et : (b + a / 4294967296) % 18446744073709551616 = b + a / 4294967296 := by omega
    simp only [et]
    have ew : ((b + a / 4294967296) % 4294967296 + c) % 18446744073709551616 = (b + a / 4294967296) % 4294967296 + c := by omega
    simp only [ew]
    have eh : (d + (b + a / 4294967296) / 4294967296) % 18446744073709551616 = d + (b + a / 4294967296) / 4294967296 := by omega
    simp only [eh]
    have ef : (d + (b + a / 4294967296) / 4294967296 + ((b + a / 4294967296) % 4294967296 + c) / 4294967296) % 18446744073709551616 = d + (b + a / 4294967296) / 4294967296 + ((b + a / 4294967296) % 4294967296 + c) / 4294967296 := by omega
    simp only [ef]
    omega
  · simp only [wrapU]
end Go.Proofs.Ytdjnedamphifcaa

namespace Go.Proofs.Ytdjnedamphifcaa
open Go.Ev
set_option maxRecDepth 100000
set_option maxHeartbeats 400000
def isU (x : Int) : Prop := 0 ≤ x ∧ x < 18446744073709551616
def satM (x : Int) : Int := min x 18446744073709551615
theorem sat_ret {n m : Int} {b : Bool} {h : Heap} {K : Value → Heap → Prop} (hK : K (.int .u64 (if b then n else m)) h) : Ret env (.func 40) [.int .u64 n, .bool b, .int .u64 m] h K := by
  refine F40 rfl ?_
  cases b with
  | true =>
    repeat' (first | done | with_reducible (first | refine y1 ?_ (by omega) | refine y2 ?_ (by omega) | refine y3 (fun _ => ?_) (fun _ => ?_) | refine y4 ?_ (by omega) (by omega) | refine y5 ?_ (by omega) | refine y6 ?_ (by with_unfolding_all rfl) | refine y7 ?_ (by with_unfolding_all rfl) | refine y8 ?_ (by with_unfolding_all rfl) | refine y9 ?_ (by with_unfolding_all rfl) | refine ya ?_ (by with_unfolding_all rfl)) | (simp -dsimp only [↓cw_ops, ↓cw_seq, ↓cw_ret, ↓cw_cond, ↓seqK_normal, ↓seqK_ret, ↓getK_same, ↓getK_ne, ↓evK_tmp, ↓evK_int, ↓condV_var, ↓opsW_nil, ↓opsW_d, ↓opW_move, ↓opW_assign, ↓resK_one, ↓setAll_cons, ↓setAll_nil, ↓r40_2_w, ↓s40_3_w, ↓s40_4_w, ↓r40_5_w, ↓s40_6_w, ↓s40_7_w, ↓r40_8_w, ↓s40_9_w, brK_true, ne_eq, Nat.reduceEqDiff, Nat.reduceAdd, not_false_eq_true, Nat.one_ne_zero]))
    exact hK
  | false =>
    repeat' (first | done | with_reducible (first | refine y1 ?_ (by omega) | refine y2 ?_ (by omega) | refine y3 (fun _ => ?_) (fun _ => ?_) | refine y4 ?_ (by omega) (by omega) | refine y5 ?_ (by omega) | refine y6 ?_ (by with_unfolding_all rfl) | refine y7 ?_ (by with_unfolding_all rfl) | refine y8 ?_ (by with_unfolding_all rfl) | refine y9 ?_ (by with_unfolding_all rfl) | refine ya ?_ (by with_unfolding_all rfl)) | (simp -dsimp only [↓cw_skip, ↓cw_ops, ↓cw_seq, ↓cw_ret, ↓cw_cond, ↓seqK_normal, ↓getK_same, ↓getK_ne, ↓evK_tmp, ↓evK_int, ↓condV_var, ↓opsW_nil, ↓opsW_d, ↓opW_move, ↓opW_assign, ↓resK_one, ↓setAll_cons, ↓setAll_nil, ↓r40_0_w, ↓s40_1_w, ↓s40_4_w, ↓r40_5_w, ↓s40_6_w, ↓s40_7_w, ↓r40_8_w, ↓s40_9_w, brK_false, ne_eq, Nat.reduceEqDiff, Nat.reduceAdd, not_false_eq_true, Bool.false_eq_true]))
    exact hK
theorem mul_ret {x y : Int} {h : Heap} {K : Value → Heap → Prop} (hx : isU x) (hy : isU y) (hK : K (.tuple #[.int .u64 (if x * y < 18446744073709551616 then x * y else 0), .bool (decide (x * y < 18446744073709551616))]) h) : Ret env (.func 39) [.int .u64 x, .int .u64 y] h K := by
  have h0 := Int.mul_nonneg hx.1 hy.1
  refine F39 rfl ?_
  repeat' (first | done | with_reducible (first | refine y1 ?_ (by omega) | refine y2 ?_ (by omega) | refine y3 (fun _ => ?_) (fun _ => ?_) | refine y4 ?_ (by omega) (by omega) | refine y5 ?_ (by omega) | refine y6 ?_ (by with_unfolding_all rfl) | refine y7 ?_ (by with_unfolding_all rfl) | refine y8 ?_ (by with_unfolding_all rfl) | refine y9 ?_ (by with_unfolding_all rfl) | refine ya ?_ (by with_unfolding_all rfl)) | (simp -dsimp only [↓cw_ops, ↓cw_seq, ↓seqK_normal, ↓getK_same, ↓getK_ne, ↓evK_tmp, ↓evK_int, ↓evK_bool, ↓opsW_nil, ↓opsW_d, ↓opW_move, ↓opW_assign, ↓evs_nil, ↓evs_cons, ↓opW_call, ↓setAll_cons, ↓setAll_nil, ↓r39_2_w, ↓s39_3_w, ↓r39_4_w, ↓s39_5_w, ne_eq, Nat.reduceEqDiff, Nat.reduceAdd, not_false_eq_true, Nat.one_ne_zero]))
  refine mul64_ret hx hy ?_
  by_cases hf : x * y < 18446744073709551616
  · rw [if_pos hf, decide_eq_true hf] at hK
    have e1 : x * y / 18446744073709551616 = 0 := by omega
    have e2 : x * y % 18446744073709551616 = x * y := by omega
    rw [e1, e2]
    repeat' (first | done | with_reducible (first | refine y1 ?_ (by omega) | refine y2 ?_ (by omega) | refine y3 (fun _ => ?_) (fun _ => ?_) | refine y4 ?_ (by omega) (by omega) | refine y5 ?_ (by omega) | refine y6 ?_ (by with_unfolding_all rfl) | refine y7 ?_ (by with_unfolding_all rfl) | refine y8 ?_ (by with_unfolding_all rfl) | refine y9 ?_ (by with_unfolding_all rfl) | refine ya ?_ (by with_unfolding_all rfl)) | (simp -dsimp only [↓cw_ops, ↓cw_seq, ↓seqK_normal, ↓getK_same, ↓getK_ne, ↓evK_tmp, ↓evK_int, ↓opsW_nil, ↓opsW_d, ↓opW_move, ↓opW_assign, ↓opW_bin, ↓bin_eql, ↓evs_nil, ↓evs_cons, ↓opW_call, ↓opW_extract, ↓ext_tuple, ↓r39_0_w, ↓s39_1_w, List.getElem?_cons_zero, List.getElem?_cons_succ, onV_some', brK_true, ne_eq, Nat.reduceEqDiff, not_false_eq_true]))
    refine sat_ret ?_
    repeat' (first | done | with_reducible (first | refine y1 ?_ (by omega) | refine y2 ?_ (by omega) | refine y3 (fun _ => ?_) (fun _ => ?_) | refine y4 ?_ (by omega) (by omega) | refine y5 ?_ (by omega) | refine y6 ?_ (by with_unfolding_all rfl) | refine y7 ?_ (by with_unfolding_all rfl) | refine y8 ?_ (by with_unfolding_all rfl) | refine y9 ?_ (by with_unfolding_all rfl) | refine ya ?_ (by with_unfolding_all rfl)) | (simp -dsimp only [↓cw_ret, ↓seqK_normal, ↓getK_same, ↓getK_ne, ↓evK_tmp, ↓evK_int, ↓opsW_nil, ↓opsW_d, ↓opW_move, ↓opW_assign, ↓opW_bin, ↓bin_eql, ↓resK_two, brK_true, ne_eq, Nat.reduceEqDiff, not_false_eq_true]))
    exact hK
  · rw [if_neg hf, decide_eq_false hf] at hK
    have e1 : x * y / 18446744073709551616 ≠ 0 := by omega
    repeat' (first | done | with_reducible (first | refine y1 ?_ (by omega) | refine y2 ?_ (by omega) | refine y3 (fun _ => ?_) (fun _ => ?_) | refine y4 ?_ (by omega) (by omega) | refine y5 ?_ (by omega) | refine y6 ?_ (by with_unfolding_all rfl) | refine y7 ?_ (by with_unfolding_all rfl) | refine y8 ?_ (by with_unfolding_all rfl) | refine y9 ?_ (by with_unfolding_all rfl) | refine ya ?_ (by with_unfolding_all rfl)) | (simp -dsimp only [↓cw_ops, ↓cw_seq, ↓seqK_normal, ↓getK_same, ↓getK_ne, ↓evK_tmp, ↓evK_int, ↓opsW_nil, ↓opsW_d, ↓opW_move, ↓opW_assign, ↓opW_bin, ↓bin_eql, ↓evs_nil, ↓evs_cons, ↓opW_call, ↓opW_extract, ↓ext_tuple, ↓r39_0_w, ↓s39_1_w, List.getElem?_cons_zero, List.getElem?_cons_succ, onV_some', ne_eq, Nat.reduceEqDiff, not_false_eq_true]))
    refine sat_ret ?_
    repeat' (first | done | with_reducible (first | refine y1 ?_ (by omega) | refine y2 ?_ (by omega) | refine y3 (fun _ => ?_) (fun _ => ?_) | refine y4 ?_ (by omega) (by omega) | refine y5 ?_ (by omega) | refine y6 ?_ (by with_unfolding_all rfl) | refine y7 ?_ (by with_unfolding_all rfl) | refine y8 ?_ (by with_unfolding_all rfl) | refine y9 ?_ (by with_unfolding_all rfl) | refine ya ?_ (by with_unfolding_all rfl)) | (simp -dsimp only [↓cw_ret, ↓seqK_normal, ↓getK_same, ↓getK_ne, ↓evK_tmp, ↓evK_int, ↓opsW_nil, ↓opsW_d, ↓opW_move, ↓opW_assign, ↓opW_bin, ↓bin_eql, ↓resK_two, ne_eq, Nat.reduceEqDiff, not_false_eq_true, Bool.false_eq_true]))
    exact hK
theorem mulSat_ret {x y : Int} {h : Heap} {K : Value → Heap → Prop} (hx : isU x) (hy : isU y) (hK : K (.int .u64 (satM (x * y))) h) : Ret env (.func 18) [.int .u64 x, .int .u64 y] h K := by
  refine F18 rfl ?_
  repeat' (first | done | with_reducible (first | refine y1 ?_ (by omega) | refine y2 ?_ (by omega) | refine y3 (fun _ => ?_) (fun _ => ?_) | refine y4 ?_ (by omega) (by omega) | refine y5 ?_ (by omega) | refine y6 ?_ (by with_unfolding_all rfl) | refine y7 ?_ (by with_unfolding_all rfl) | refine y8 ?_ (by with_unfolding_all rfl) | refine y9 ?_ (by with_unfolding_all rfl) | refine ya ?_ (by with_unfolding_all rfl)) | (simp -dsimp only [↓cw_ops, ↓cw_seq, ↓seqK_normal, ↓getK_same, ↓getK_ne, ↓evK_tmp, ↓evK_int, ↓opsW_nil, ↓opsW_d, ↓opW_move, ↓opW_assign, ↓evs_nil, ↓evs_cons, ↓opW_call, ↓setAll_cons, ↓setAll_nil, ↓r18_2_w, ↓s18_3_w, ↓r18_4_w, ↓s18_5_w, ne_eq, Nat.reduceEqDiff, Nat.reduceAdd, not_false_eq_true, Nat.one_ne_zero]))
  refine mul_ret hx hy ?_
  by_cases hf : x * y < 18446744073709551616
  · rw [if_pos hf, decide_eq_true hf]
    rw [show satM (x * y) = x * y by unfold satM; omega] at hK
    repeat' (first | done | with_reducible (first | refine y1 ?_ (by omega) | refine y2 ?_ (by omega) | refine y3 (fun _ => ?_) (fun _ => ?_) | refine y4 ?_ (by omega) (by omega) | refine y5 ?_ (by omega) | refine y6 ?_ (by with_unfolding_all rfl) | refine y7 ?_ (by with_unfolding_all rfl) | refine y8 ?_ (by with_unfolding_all rfl) | refine y9 ?_ (by with_unfolding_all rfl) | refine ya ?_ (by with_unfolding_all rfl)) | (simp -dsimp only [↓cw_ops, ↓cw_seq, ↓seqK_normal, ↓getK_same, ↓getK_ne, ↓evK_tmp, ↓evK_int, ↓opsW_nil, ↓opsW_d, ↓opW_move, ↓opW_assign, ↓evs_nil, ↓evs_cons, ↓opW_call, ↓opW_extract, ↓ext_tuple, ↓r18_0_w, ↓s18_1_w, List.getElem?_cons_zero, List.getElem?_cons_succ, onV_some', ne_eq, Nat.reduceEqDiff, not_false_eq_true]))
    refine sat_ret ?_
    repeat' (first | done | with_reducible (first | refine y1 ?_ (by omega) | refine y2 ?_ (by omega) | refine y3 (fun _ => ?_) (fun _ => ?_) | refine y4 ?_ (by omega) (by omega) | refine y5 ?_ (by omega) | refine y6 ?_ (by with_unfolding_all rfl) | refine y7 ?_ (by with_unfolding_all rfl) | refine y8 ?_ (by with_unfolding_all rfl) | refine y9 ?_ (by with_unfolding_all rfl) | refine ya ?_ (by with_unfolding_all rfl)) | (simp -dsimp only [↓cw_ret, ↓seqK_normal, ↓getK_same, ↓evK_tmp, ↓opsW_nil, ↓opsW_d, ↓opW_assign, ↓resK_one]))
    exact hK
  · rw [if_neg hf, decide_eq_false hf]
    rw [show satM (x * y) = 18446744073709551615 by unfold satM; omega] at hK
    repeat' (first | done | with_reducible (first | refine y1 ?_ (by omega) | refine y2 ?_ (by omega) | refine y3 (fun _ => ?_) (fun _ => ?_) | refine y4 ?_ (by omega) (by omega) | refine y5 ?_ (by omega) | refine y6 ?_ (by with_unfolding_all rfl) | refine y7 ?_ (by with_unfolding_all rfl) | refine y8 ?_ (by with_unfolding_all rfl) | refine y9 ?_ (by with_unfolding_all rfl) | refine ya ?_ (by with_unfolding_all rfl)) | (simp -dsimp only [↓cw_ops, ↓cw_seq, ↓seqK_normal, ↓getK_same, ↓getK_ne, ↓evK_tmp, ↓evK_int, ↓opsW_nil, ↓opsW_d, ↓opW_move, ↓opW_assign, ↓evs_nil, ↓evs_cons, ↓opW_call, ↓opW_extract, ↓ext_tuple, ↓r18_0_w, ↓s18_1_w, List.getElem?_cons_zero, List.getElem?_cons_succ, onV_some', ne_eq, Nat.reduceEqDiff, not_false_eq_true]))
    refine sat_ret ?_
    repeat' (first | done | with_reducible (first | refine y1 ?_ (by omega) | refine y2 ?_ (by omega) | refine y3 (fun _ => ?_) (fun _ => ?_) | refine y4 ?_ (by omega) (by omega) | refine y5 ?_ (by omega) | refine y6 ?_ (by with_unfolding_all rfl) | refine y7 ?_ (by with_unfolding_all rfl) | refine y8 ?_ (by with_unfolding_all rfl) | refine y9 ?_ (by with_unfolding_all rfl) | refine ya ?_ (by with_unfolding_all rfl)) | (simp -dsimp only [↓cw_ret, ↓seqK_normal, ↓getK_same, ↓evK_tmp, ↓opsW_nil, ↓opsW_d, ↓opW_assign, ↓resK_one, Bool.false_eq_true]))
    exact hK
theorem add_ret {x y : Int} {h : Heap} {K : Value → Heap → Prop} (hx : isU x) (hy : isU y) (hK : K (.tuple #[.int .u64 (if x + y < 18446744073709551616 then x + y else 0), .bool (decide (x + y < 18446744073709551616))]) h) : Ret env (.func 41) [.int .u64 x, .int .u64 y] h K := by
  obtain ⟨hx0, hx1⟩ := hx
  obtain ⟨hy0, hy1⟩ := hy
  refine F41 rfl ?_
  repeat' (first | done | with_reducible (first | refine y1 ?_ (by omega) | refine y2 ?_ (by omega) | refine y3 (fun _ => ?_) (fun _ => ?_) | refine y4 ?_ (by omega) (by omega) | refine y5 ?_ (by omega) | refine y6 ?_ (by with_unfolding_all rfl) | refine y7 ?_ (by with_unfolding_all rfl) | refine y8 ?_ (by with_unfolding_all rfl) | refine y9 ?_ (by with_unfolding_all rfl) | refine ya ?_ (by with_unfolding_all rfl)) | (simp -dsimp only [↓cw_ops, ↓cw_seq, ↓seqK_normal, ↓getK_same, ↓getK_ne, ↓evK_tmp, ↓evK_int, ↓evK_bool, ↓opsW_nil, ↓opsW_d, ↓opW_move, ↓opW_assign, ↓evs_nil, ↓evs_cons, ↓opW_call, ↓setAll_cons, ↓setAll_nil, ↓r41_2_w, ↓s41_3_w, ↓r41_4_w, ↓s41_5_w, ne_eq, Nat.reduceEqDiff, Nat.reduceAdd, not_false_eq_true, Nat.one_ne_zero]))
  refine Ret.ext (v := .tuple #[.int .u64 ((x + y + 0) % 18446744073709551616), .int .u64 ((x + y + 0) / 18446744073709551616)]) ?_ ?_
  · have : extKnown (extAdd 67) 6 67 [.int .u64 x, .int .u64 y, .int .u64 0] = extAdd 67 67 [.int .u64 x, .int .u64 y, .int .u64 0] := rfl
    show extKnown (extAdd 67) 6 67 [.int .u64 x, .int .u64 y, .int .u64 0] = _
    rw [this]
    unfold extAdd
    simp only [Nat.beq_refl, cond_true, decide_eq_true hx0, decide_eq_true hy0, Int.le_refl, decide_true, Bool.and_self, show decide ((0 : Int) ≤ 1) = true from rfl]
  rw [Int.add_zero]
  by_cases hf : x + y < 18446744073709551616
  · rw [if_pos hf, decide_eq_true hf] at hK
    have e1 : (x + y) / 18446744073709551616 = 0 := by omega
    have e2 : (x + y) % 18446744073709551616 = x + y := by omega
    rw [e1, e2]
    repeat' (first | done | with_reducible (first | refine y1 ?_ (by omega) | refine y2 ?_ (by omega) | refine y3 (fun _ => ?_) (fun _ => ?_) | refine y4 ?_ (by omega) (by omega) | refine y5 ?_ (by omega) | refine y6 ?_ (by with_unfolding_all rfl) | refine y7 ?_ (by with_unfolding_all rfl) | refine y8 ?_ (by with_unfolding_all rfl) | refine y9 ?_ (by with_unfolding_all rfl) | refine ya ?_ (by with_unfolding_all rfl)) | (simp -dsimp only [↓cw_ops, ↓cw_seq, ↓seqK_normal, ↓getK_same, ↓getK_ne, ↓evK_tmp, ↓evK_int, ↓opsW_nil, ↓opsW_d, ↓opW_move, ↓opW_assign, ↓opW_bin, ↓bin_eql, ↓evs_nil, ↓evs_cons, ↓opW_call, ↓opW_extract, ↓ext_tuple, ↓r41_0_w, ↓s41_1_w, List.getElem?_cons_zero, List.getElem?_cons_succ, onV_some', brK_true, ne_eq, Nat.reduceEqDiff, not_false_eq_true]))
    refine sat_ret ?_
    repeat' (first | done | with_reducible (first | refine y1 ?_ (by omega) | refine y2 ?_ (by omega) | refine y3 (fun _ => ?_) (fun _ => ?_) | refine y4 ?_ (by omega) (by omega) | refine y5 ?_ (by omega) | refine y6 ?_ (by with_unfolding_all rfl) | refine y7 ?_ (by with_unfolding_all rfl) | refine y8 ?_ (by with_unfolding_all rfl) | refine y9 ?_ (by with_unfolding_all rfl) | refine ya ?_ (by with_unfolding_all rfl)) | (simp -dsimp only [↓cw_ret, ↓seqK_normal, ↓getK_same, ↓getK_ne, ↓evK_tmp, ↓evK_int, ↓opsW_nil, ↓opsW_d, ↓opW_move, ↓opW_assign, ↓opW_bin, ↓bin_eql, ↓resK_two, brK_true, ne_eq, Nat.reduceEqDiff, not_false_eq_true]))
    exact hK
  · rw [if_neg hf, decide_eq_false hf] at hK
    have e1 : (x + y) / 18446744073709551616 ≠ 0 := by omega
    repeat' (first | done | with_reducible (first | refine y1 ?_ (by omega) | refine y2 ?_ (by omega) | refine y3 (fun _ => ?_) (fun _ => ?_) | refine y4 ?_ (by omega) (by omega) | refine y5 ?_ (by omega) | refine y6 ?_ (by with_unfolding_all rfl) | refine y7 ?_ (by with_unfolding_all rfl) | refine y8 ?_ (by with_unfolding_all rfl) | refine y9 ?_ (by with_unfolding_all rfl) | refine ya ?_ (by with_unfolding_all rfl)) | (simp -dsimp only [↓cw_ops, ↓cw_seq, ↓seqK_normal, ↓getK_same, ↓getK_ne, ↓evK_tmp, ↓evK_int, ↓opsW_nil, ↓opsW_d, ↓opW_move, ↓opW_assign, ↓opW_bin, ↓bin_eql, ↓evs_nil, ↓evs_cons, ↓opW_call, ↓opW_extract, ↓ext_tuple, ↓r41_0_w, ↓s41_1_w, List.getElem?_cons_zero, List.getElem?_cons_succ, onV_some', ne_eq, Nat.reduceEqDiff, not_false_eq_true]))
    refine sat_ret ?_
    repeat' (first | done | with_reducible (first | refine y1 ?_ (by omega) | refine y2 ?_ (by omega) | refine y3 (fun _ => ?_) (fun _ => ?_) | refine y4 ?_ (by omega) (by omega) | refine y5 ?_ (by omega) | refine y6 ?_ (by with_unfolding_all rfl) | refine y7 ?_ (by with_unfolding_all rfl) | refine y8 ?_ (by with_unfolding_all rfl) | refine y9 ?_ (by with_unfolding_all rfl) | refine ya ?_ (by with_unfolding_all rfl)) | (simp -dsimp only [↓cw_ret, ↓seqK_normal, ↓getK_same, ↓getK_ne, ↓evK_tmp, ↓evK_int, ↓opsW_nil, ↓opsW_d, ↓opW_move, ↓opW_assign, ↓opW_bin, ↓bin_eql, ↓resK_two, ne_eq, Nat.reduceEqDiff, not_false_eq_true, Bool.false_eq_true]))
    exact hK
theorem addSat_ret {x y : Int} {h : Heap} {K : Value → Heap → Prop} (hx : isU x) (hy : isU y) (hK : K (.int .u64 (satM (x + y))) h) : Ret env (.func 19) [.int .u64 x, .int .u64 y] h K := by
  refine F19 rfl ?_
  repeat' (first | done | with_reducible (first | refine y1 ?_ (by omega) | refine y2 ?_ (by omega) | refine y3 (fun _ => ?_) (fun _ => ?_) | refine y4 ?_ (by omega) (by omega) | refine y5 ?_ (by omega) | refine y6 ?_ (by with_unfolding_all rfl) | refine y7 ?_ (by with_unfolding_all rfl) | refine y8 ?_ (by with_unfolding_all rfl) | refine y9 ?_ (by with_unfolding_all rfl) | refine ya ?_ (by with_unfolding_all rfl)) | (simp -dsimp only [↓cw_ops, ↓cw_seq, ↓seqK_normal, ↓getK_same, ↓getK_ne, ↓evK_tmp, ↓evK_int, ↓opsW_nil, ↓opsW_d, ↓opW_move, ↓opW_assign, ↓evs_nil, ↓evs_cons, ↓opW_call, ↓setAll_cons, ↓setAll_nil, ↓r19_2_w, ↓s19_3_w, ↓r19_4_w, ↓s19_5_w, ne_eq, Nat.reduceEqDiff, Nat.reduceAdd, not_false_eq_true, Nat.one_ne_zero]))
  refine add_ret hx hy ?_
  by_cases hf : x + y < 18446744073709551616
  · rw [if_pos hf, decide_eq_true hf]
    rw [show satM (x + y) = x + y by unfold satM; omega] at hK
    repeat' (first | done | with_reducible (first | refine y1 ?_ (by omega) | refine y2 ?_ (by omega) | refine y3 (fun _ => ?_) (fun _ => ?_) | refine y4 ?_ (by omega) (by omega) | refine y5 ?_ (by omega) | refine y6 ?_ (by with_unfolding_all rfl) | refine y7 ?_ (by with_unfolding_all rfl) | refine y8 ?_ (by with_unfolding_all rfl) | refine y9 ?_ (by with_unfolding_all rfl) | refine ya ?_ (by with_unfolding_all rfl)) | (simp -dsimp only [↓cw_ops, ↓cw_seq, ↓seqK_normal, ↓getK_same, ↓getK_ne, ↓evK_tmp, ↓evK_int, ↓opsW_nil, ↓opsW_d, ↓opW_move, ↓opW_assign, ↓evs_nil, ↓evs_cons, ↓opW_call, ↓opW_extract, ↓ext_tuple, ↓r19_0_w, ↓s19_1_w, List.getElem?_cons_zero, List.getElem?_cons_succ, onV_some', ne_eq, Nat.reduceEqDiff, not_false_eq_true]))
    refine sat_ret ?_
    repeat' (first | done | with_reducible (first | refine y1 ?_ (by omega) | refine y2 ?_ (by omega) | refine y3 (fun _ => ?_) (fun _ => ?_) | refine y4 ?_ (by omega) (by omega) | refine y5 ?_ (by omega) | refine y6 ?_ (by with_unfolding_all rfl) | refine y7 ?_ (by with_unfolding_all rfl) | refine y8 ?_ (by with_unfolding_all rfl) | refine y9 ?_ (by with_unfolding_all rfl) | refine ya ?_ (by with_unfolding_all rfl)) | (simp -dsimp only [↓cw_ret, ↓seqK_normal, ↓getK_same, ↓evK_tmp, ↓opsW_nil, ↓opsW_d, ↓opW_assign, ↓resK_one]))
    exact hK
  · rw [if_neg hf, decide_eq_false hf]
    rw [show satM (x + y) = 18446744073709551615 by unfold satM; omega] at hK
    repeat' (first | done | with_reducible (first | refine y1 ?_ (by omega) | refine y2 ?_ (by omega) | refine y3 (fun _ => ?_) (fun _ => ?_) | refine y4 ?_ (by omega) (by omega) | refine y5 ?_ (by omega) | refine y6 ?_ (by with_unfolding_all rfl) | refine y7 ?_ (by with_unfolding_all rfl) | refine y8 ?_ (by with_unfolding_all rfl) | refine y9 ?_ (by with_unfolding_all rfl) | refine ya ?_ (by with_unfolding_all rfl)) | (simp -dsimp only [↓cw_ops, ↓cw_seq, ↓seqK_normal, ↓getK_same, ↓getK_ne, ↓evK_tmp, ↓evK_int, ↓opsW_nil, ↓opsW_d, ↓opW_move, ↓opW_assign, ↓evs_nil, ↓evs_cons, ↓opW_call, ↓opW_extract, ↓ext_tuple, ↓r19_0_w, ↓s19_1_w, List.getElem?_cons_zero, List.getElem?_cons_succ, onV_some', ne_eq, Nat.reduceEqDiff, not_false_eq_true]))
    refine sat_ret ?_
    repeat' (first | done | with_reducible (first | refine y1 ?_ (by omega) | refine y2 ?_ (by omega) | refine y3 (fun _ => ?_) (fun _ => ?_) | refine y4 ?_ (by omega) (by omega) | refine y5 ?_ (by omega) | refine y6 ?_ (by with_unfolding_all rfl) | refine y7 ?_ (by with_unfolding_all rfl) | refine y8 ?_ (by with_unfolding_all rfl) | refine y9 ?_ (by with_unfolding_all rfl) | refine ya ?_ (by with_unfolding_all rfl)) | (simp -dsimp only [↓cw_ret, ↓seqK_normal, ↓getK_same, ↓evK_tmp, ↓opsW_nil, ↓opsW_d, ↓opW_assign, ↓resK_one, Bool.false_eq_true]))
    exact hK
theorem over_iff {x y : Int} (hx : isU x) (hy : isU y) (h0 : x ≠ 0) : 18446744073709551615 / x < y ↔ ¬ x * y < 18446744073709551616 := by
  obtain ⟨hx0, hx1⟩ := hx
  have hx' : 0 < x := by omega
  constructor
  · intro h hc
    have : y * x ≤ 18446744073709551615 := by rw [Int.mul_comm]; omega
    have := (Int.le_ediv_iff_mul_le hx').2 this
    omega
  · intro h
    apply Classical.byContradiction
    intro hc
    have : y ≤ 18446744073709551615 / x := by omega
    have := (Int.le_ediv_iff_mul_le hx').1 this
    rw [Int.mul_comm] at this
    omega
theorem refMul_ret {x y : Int} {h : Heap} {K : Value → Heap → Prop} (hx : isU x) (hy : isU y) (hK : K (.tuple #[.int .u64 (if x * y < 18446744073709551616 then x * y else 0), .bool (decide (x * y < 18446744073709551616))]) h) : Ret env (.func 42) [.int .u64 x, .int .u64 y] h K := by
  have hx0 := hx.1
  have hx1 := hx.2
  have hm := Int.mul_nonneg hx.1 hy.1
  have td : (18446744073709551615 : Int).tdiv x = 18446744073709551615 / x := Int.tdiv_eq_ediv_of_nonneg (by decide)
  have hd : 0 ≤ 18446744073709551615 / x ∧ 18446744073709551615 / x ≤ 18446744073709551615 := ⟨Int.ediv_nonneg (by decide) hx0, Int.ediv_le_self _ (by decide)⟩
  have wd : IntKind.wrap .u64 ((18446744073709551615 : Int).tdiv x) = 18446744073709551615 / x := by rw [td]; exact wrap_u64 hd.1 hd.2
  refine F42 rfl ?_
  by_cases h0 : x = 0
  · subst h0
    rw [if_pos (by omega), decide_eq_true (by omega)] at hK
    repeat' (first | done | with_reducible (first | refine y1 ?_ (by omega) | refine y2 ?_ (by omega) | refine y3 (fun _ => ?_) (fun _ => ?_) | refine y4 ?_ (by omega) (by omega) | refine y5 ?_ (by omega) | refine y6 ?_ (by with_unfolding_all rfl) | refine y7 ?_ (by with_unfolding_all rfl) | refine y8 ?_ (by with_unfolding_all rfl) | refine y9 ?_ (by with_unfolding_all rfl) | refine ya ?_ (by with_unfolding_all rfl)) | (simp -dsimp only [↓cw_skip, ↓cw_ops, ↓cw_seq, ↓cw_ret, ↓cw_cond, ↓seqK_normal, ↓getK_same, ↓getK_ne, ↓evK_tmp, ↓evK_int, ↓evK_bool, ↓condV_var, ↓gdV_var, ↓opsW_nil, ↓opsW_d, ↓opsW_gd, ↓opW_move, ↓opW_assign, ↓opW_pick, ↓opW_bin, ↓bin_mul, ↓bin_neq, ↓resK_two, ↓setAll_cons, ↓setAll_nil, ↓r42_0_w, ↓s42_1_w, ↓s42_4_w, ↓r42_5_w, ↓s42_6_w, ↓s42_7_w, ↓r42_8_w, ↓s42_9_w, brK_true, brK_false, ne_eq, Nat.reduceEqDiff, Nat.reduceAdd, not_false_eq_true, Nat.one_ne_zero, Bool.false_eq_true]))
    rw [wrap_u64 (by omega) (by omega)]
    exact hK
  · have ho := over_iff hx hy h0
    by_cases hf : x * y < 18446744073709551616
    · rw [if_pos hf, decide_eq_true hf] at hK
      have hno : ¬ 18446744073709551615 / x < y := fun hh => ho.1 hh hf
      repeat' (first | done | with_reducible (first | refine y1 ?_ (by omega) | refine y2 ?_ (by omega) | refine y3 (fun _ => ?_) (fun _ => ?_) | refine y4 ?_ (by omega) (by omega) | refine y5 ?_ (by omega) | refine y6 ?_ (by with_unfolding_all rfl) | refine y7 ?_ (by with_unfolding_all rfl) | refine y8 ?_ (by with_unfolding_all rfl) | refine y9 ?_ (by with_unfolding_all rfl) | refine ya ?_ (by with_unfolding_all rfl)) | (simp -dsimp only [↓cw_skip, ↓cw_ops, ↓cw_seq, ↓cw_ret, ↓cw_cond, ↓seqK_normal, ↓getK_same, ↓getK_ne, ↓evK_tmp, ↓evK_int, ↓evK_bool, ↓condV_var, ↓gdV_var, ↓opsW_nil, ↓opsW_d, ↓opsW_gd, ↓opW_move, ↓opW_assign, ↓opW_pick, ↓opW_bin, ↓bin_mul, ↓bin_quo, ↓bin_neq, ↓bin_gtr, ↓resK_two, ↓setAll_cons, ↓setAll_nil, ↓r42_0_w, ↓s42_1_w, ↓s42_4_w, ↓r42_5_w, ↓s42_6_w, ↓s42_7_w, ↓r42_8_w, ↓s42_9_w, brK_true, brK_false, ne_eq, Nat.reduceEqDiff, Nat.reduceAdd, not_false_eq_true, Nat.one_ne_zero, Bool.false_eq_true,  wd]))
      rw [wrap_u64 (by omega) (by omega)]
      exact hK
    · rw [if_neg hf, decide_eq_false hf] at hK
      have hyes : 18446744073709551615 / x < y := ho.2 hf
      repeat' (first | done | with_reducible (first | refine y1 ?_ (by omega) | refine y2 ?_ (by omega) | refine y3 (fun _ => ?_) (fun _ => ?_) | refine y4 ?_ (by omega) (by omega) | refine y5 ?_ (by omega) | refine y6 ?_ (by with_unfolding_all rfl) | refine y7 ?_ (by with_unfolding_all rfl) | refine y8 ?_ (by with_unfolding_all rfl) | refine y9 ?_ (by with_unfolding_all rfl) | refine ya ?_ (by with_unfolding_all rfl)) | (simp -dsimp only [↓cw_ops, ↓cw_seq, ↓cw_ret, ↓cw_cond, ↓seqK_normal, ↓seqK_ret, ↓getK_same, ↓getK_ne, ↓evK_tmp, ↓evK_int, ↓evK_bool, ↓condV_var, ↓gdV_var, ↓opsW_nil, ↓opsW_d, ↓opsW_gd, ↓opW_move, ↓opW_assign, ↓opW_pick, ↓opW_bin, ↓bin_quo, ↓bin_neq, ↓bin_gtr, ↓resK_two, ↓setAll_cons, ↓setAll_nil, ↓r42_2_w, ↓s42_3_w, ↓s42_4_w, ↓r42_5_w, ↓s42_6_w, ↓s42_7_w, ↓r42_8_w, ↓s42_9_w, brK_true, ne_eq, Nat.reduceEqDiff, Nat.reduceAdd, not_false_eq_true, Nat.one_ne_zero, wd]))
      exact hK
theorem rmul_ret {x y : Int} {h : Heap} {K : Value → Heap → Prop} (hx : isU x) (hy : isU y) (hK : K (.int .u64 (satM (x * y))) h) : Ret env (.func 20) [.int .u64 x, .int .u64 y] h K := by
  refine F20 rfl ?_
  repeat' (first | done | with_reducible (first | refine y1 ?_ (by omega) | refine y2 ?_ (by omega) | refine y3 (fun _ => ?_) (fun _ => ?_) | refine y4 ?_ (by omega) (by omega) | refine y5 ?_ (by omega) | refine y6 ?_ (by with_unfolding_all rfl) | refine y7 ?_ (by with_unfolding_all rfl) | refine y8 ?_ (by with_unfolding_all rfl) | refine y9 ?_ (by with_unfolding_all rfl) | refine ya ?_ (by with_unfolding_all rfl)) | (simp -dsimp only [↓cw_ops, ↓cw_seq, ↓seqK_normal, ↓getK_same, ↓getK_ne, ↓evK_tmp, ↓evK_int, ↓opsW_nil, ↓opsW_d, ↓opW_move, ↓opW_assign, ↓evs_nil, ↓evs_cons, ↓opW_call, ↓setAll_cons, ↓setAll_nil, ↓r20_8_w, ↓s20_9_w, ↓r20_10_w, ↓s20_11_w, ne_eq, Nat.reduceEqDiff, Nat.reduceAdd, not_false_eq_true, Nat.one_ne_zero]))
  refine refMul_ret hx hy ?_
  by_cases hf : x * y < 18446744073709551616
  · rw [if_pos hf, decide_eq_true hf]
    rw [show satM (x * y) = x * y by unfold satM; omega] at hK
    repeat' (first | done | with_reducible (first | refine y1 ?_ (by omega) | refine y2 ?_ (by omega) | refine y3 (fun _ => ?_) (fun _ => ?_) | refine y4 ?_ (by omega) (by omega) | refine y5 ?_ (by omega) | refine y6 ?_ (by with_unfolding_all rfl) | refine y7 ?_ (by with_unfolding_all rfl) | refine y8 ?_ (by with_unfolding_all rfl) | refine y9 ?_ (by with_unfolding_all rfl) | refine ya ?_ (by with_unfolding_all rfl)) | (simp -dsimp only [↓cw_skip, ↓cw_ops, ↓cw_seq, ↓cw_ret, ↓cw_cond, ↓seqK_normal, ↓getK_same, ↓getK_ne, ↓evK_tmp, ↓condV_var, ↓opsW_nil, ↓opsW_d, ↓opW_move, ↓opW_assign, ↓resK_one, ↓opW_un, ↓un_not, ↓opW_extract, ↓ext_tuple, ↓r20_0_w, ↓s20_1_w, ↓s20_4_w, ↓r20_5_w, ↓s20_6_w, ↓s20_7_w, List.getElem?_cons_zero, List.getElem?_cons_succ, onV_some', brK_false, ne_eq, Nat.reduceEqDiff, not_false_eq_true, Bool.false_eq_true,  Bool.not_true]))
    exact hK
  · rw [if_neg hf, decide_eq_false hf]
    rw [show satM (x * y) = 18446744073709551615 by unfold satM; omega] at hK
    repeat' (first | done | with_reducible (first | refine y1 ?_ (by omega) | refine y2 ?_ (by omega) | refine y3 (fun _ => ?_) (fun _ => ?_) | refine y4 ?_ (by omega) (by omega) | refine y5 ?_ (by omega) | refine y6 ?_ (by with_unfolding_all rfl) | refine y7 ?_ (by with_unfolding_all rfl) | refine y8 ?_ (by with_unfolding_all rfl) | refine y9 ?_ (by with_unfolding_all rfl) | refine ya ?_ (by with_unfolding_all rfl)) | (simp -dsimp only [↓cw_ops, ↓cw_seq, ↓cw_ret, ↓cw_cond, ↓seqK_normal, ↓seqK_ret, ↓getK_same, ↓getK_ne, ↓evK_tmp, ↓evK_int, ↓condV_var, ↓opsW_nil, ↓opsW_d, ↓opW_move, ↓opW_assign, ↓resK_one, ↓opW_un, ↓un_not, ↓opW_extract, ↓ext_tuple, ↓r20_2_w, ↓s20_3_w, ↓s20_4_w, ↓r20_5_w, ↓s20_6_w, ↓s20_7_w, List.getElem?_cons_zero, List.getElem?_cons_succ, onV_some', brK_true, ne_eq, Nat.reduceEqDiff, not_false_eq_true, Bool.not_false]))
    exact hK
end Go.Proofs.Ytdjnedamphifcaa

namespace Go.Proofs.Ytdjnedamphifcaa
open Go.Ev
set_option maxRecDepth 100000
set_option maxHeartbeats 400000
/-! a configuration, and the bound -/
structure CfgD where
  ps : Int
  ring : Int
  gs : Int
  contexts : Int
  domains : Int
  nodes : Int
  slots : Int
  refills : Int
  audit : Int
  slice : Int
  cpu : Int
  period : Int
  budget : Int
  each : Int
  pa : Option Addr
  pn : Nat
  pc : Nat
def CfgD.cells (c : CfgD) : List Value := [.int .i64 c.ps, .int .i64 c.ring, .int .i64 c.gs, .int .i64 c.contexts, .int .i64 c.domains, .int .i64 c.nodes, .int .i64 c.slots, .int .i64 c.refills, .int .i64 c.audit, .int .i64 c.slice,
  .int .u64 c.cpu, .int .u64 c.period, .int .u64 c.budget, .int .u64 c.each, .slice c.pa c.pn c.pc]
theorem CfgD.one (c : CfgD) : c.cells.all oneCell = true := rfl
theorem CfgD.c0 (c : CfgD) : c.cells[0]? = some (.int .i64 c.ps) := rfl
theorem CfgD.c1 (c : CfgD) : c.cells[1]? = some (.int .i64 c.ring) := rfl
theorem CfgD.c2 (c : CfgD) : c.cells[2]? = some (.int .i64 c.gs) := rfl
theorem CfgD.c3 (c : CfgD) : c.cells[3]? = some (.int .i64 c.contexts) := rfl
theorem CfgD.c4 (c : CfgD) : c.cells[4]? = some (.int .i64 c.domains) := rfl
theorem CfgD.c5 (c : CfgD) : c.cells[5]? = some (.int .i64 c.nodes) := rfl
theorem CfgD.c6 (c : CfgD) : c.cells[6]? = some (.int .i64 c.slots) := rfl
theorem CfgD.c7 (c : CfgD) : c.cells[7]? = some (.int .i64 c.refills) := rfl
theorem CfgD.c8 (c : CfgD) : c.cells[8]? = some (.int .i64 c.audit) := rfl
theorem CfgD.c9 (c : CfgD) : c.cells[9]? = some (.int .i64 c.slice) := rfl
theorem CfgD.c10 (c : CfgD) : c.cells[10]? = some (.int .u64 c.cpu) := rfl
theorem CfgD.c11 (c : CfgD) : c.cells[11]? = some (.int .u64 c.period) := rfl
theorem CfgD.c12 (c : CfgD) : c.cells[12]? = some (.int .u64 c.budget) := rfl
theorem CfgD.c13 (c : CfgD) : c.cells[13]? = some (.int .u64 c.each) := rfl
theorem CfgD.c14 (c : CfgD) : c.cells[14]? = some (.slice c.pa c.pn c.pc) := rfl
/-- what a configuration that may be is -/
structure CfgOK (c : CfgD) : Prop where
  ps : 1 ≤ c.ps ∧ c.ps ≤ 8
  ring : 2 ≤ c.ring ∧ c.ring ≤ 32
  gs : 1 ≤ c.gs ∧ c.gs ≤ 64
  contexts : 1 ≤ c.contexts ∧ c.contexts ≤ 32
  domains : 1 ≤ c.domains ∧ c.domains ≤ 32
  nodes : 3 ≤ c.nodes ∧ c.nodes ≤ 512
  slots : 3 ≤ c.slots ∧ c.slots ≤ 32
  refills : 2 ≤ c.refills ∧ c.refills ≤ 16
  audit : 1 ≤ c.audit ∧ c.audit ≤ 256
  slice : 1 ≤ c.slice ∧ c.slice ≤ 64
  cpu : 1 ≤ c.cpu ∧ c.cpu ≤ 4294967296
  period : 1 ≤ c.period ∧ c.period ≤ 4294967296
  budget : 1 ≤ c.budget ∧ c.budget ≤ 4294967296
  each : 1 ≤ c.each ∧ c.each ≤ 4294967296
structure CBox (h : Heap) (i : Nat) (c : CfgD) : Prop where
  lt : i < h.n
  get : ∀ j v, c.cells[j]? = some v → cellAt h ⟨i, j, none⟩ = some v
theorem CBox.ext {B : Nat} {h h' : Heap} {i : Nat} {c : CfgD} (v : CBox h i c) (e : ExtB B h h') (hi : i < B) : CBox h' i c :=
  ⟨Nat.lt_of_lt_of_le v.lt e.n, fun j x hj => cellAt_ext e hi (v.get j x hj)⟩
theorem CBox.new (h : Heap) (c : CfgD) (t : TypeId) : CBox (newBlk h (.cells c.cells t true)) h.n c := ⟨by simp [newBlk], fun j v hj => cellAt_new hj⟩
theorem CBox.all {h : Heap} {i : Nat} {c : CfgD} (v : CBox h i c) : cellsAt h ⟨i, 0, none⟩ 15 = some c.cells :=
  cellsAt_pts c.cells (by simp [CfgD.cells]) fun j x hj => by rw [Nat.zero_add]; exact v.get j x hj
theorem same_int {k : IntKind} {n : Int} : (sameV 50 (.int k n) (.int k n) = true) = True := by simp [sameV]
def boundV (c : CfgD) (k : Int) : Int := if k < 1 then 0 else satM (satM (4 * (c.slice + 3) * k) * (c.ring + c.gs + 2))
theorem bound_ret {c : CfgD} {k : Int} {h : Heap} {K : Value → Heap → Prop} (ok : CfgOK c) (hk : k ≤ 9223372036854775807) (hK : ∀ h', ExtB h.n h h' → K (.int .u64 (boundV c k)) h') : Ret env (.func 9) [.agg ⟨c.cells⟩, .int .i64 k] h K := by
  obtain ⟨s1, s2⟩ := ok.slice
  obtain ⟨r1, r2⟩ := ok.ring
  obtain ⟨g1, g2⟩ := ok.gs
  refine F9 rfl ?_
  by_cases hk1 : k < 1
  · repeat' (first | done | with_reducible (first | refine y1 ?_ (by omega) | refine y2 ?_ (by omega) | refine y3 (fun _ => ?_) (fun _ => ?_) | refine y4 ?_ (by omega) (by omega) | refine y5 ?_ (by omega) | refine y6 ?_ (by with_unfolding_all rfl) | refine y7 ?_ (by with_unfolding_all rfl) | refine y8 ?_ (by with_unfolding_all rfl) | refine y9 ?_ (by with_unfolding_all rfl) | refine ya ?_ (by with_unfolding_all rfl)) | (simp -dsimp only [↓cw_ops, ↓cw_seq, ↓cw_ret, ↓cw_cond, ↓seqK_normal, ↓seqK_ret, ↓getK_same, ↓getK_ne, ↓evK_tmp, ↓evK_int, ↓condV_var, ↓opsW_nil, ↓opsW_d, ↓opW_move, ↓opW_assign, ↓opW_bin, ↓bin_lss, ↓resK_one, ↓setAll_cons, ↓setAll_nil, ↓opW_box, ↓box_agg, ↓r9_4_w, ↓s9_5_w, ↓s9_6_w, ↓r9_7_w, ↓s9_8_w, ↓s9_9_w, ↓r9_10_w, ↓s9_11_w, brK_true, true_and, ne_eq, Nat.reduceEqDiff, Nat.reduceAdd, not_false_eq_true, Nat.one_ne_zero, c.one]))
    rw [boundV, if_pos hk1] at hK
    exact hK _ (ExtB.new _ (Nat.le_refl _))
  rw [boundV, if_neg hk1] at hK
  have w9 : IntKind.wrap .u64 (max c.slice 0) = c.slice := by rw [wrap_u64 (by omega) (by omega)]; omega
  have w1 : IntKind.wrap .u64 (max c.ring 0) = c.ring := by rw [wrap_u64 (by omega) (by omega)]; omega
  have w2 : IntKind.wrap .u64 (max c.gs 0) = c.gs := by rw [wrap_u64 (by omega) (by omega)]; omega
  have wk : IntKind.wrap .u64 k = k := wrap_u64 (by omega) (by omega)
  repeat' (first | done | with_reducible (first | refine y1 ?_ (by omega) | refine y2 ?_ (by omega) | refine y3 (fun _ => ?_) (fun _ => ?_) | refine y4 ?_ (by omega) (by omega) | refine y5 ?_ (by omega) | refine y6 ?_ (by with_unfolding_all rfl) | refine y7 ?_ (by with_unfolding_all rfl) | refine y8 ?_ (by with_unfolding_all rfl) | refine y9 ?_ (by with_unfolding_all rfl) | refine ya ?_ (by with_unfolding_all rfl)) | (simp -dsimp only [↓cw_skip, ↓cw_ops, ↓cw_seq, ↓cw_cond, ↓seqK_normal, ↓getK_same, ↓getK_ne, ↓evK_tmp, ↓evK_int, ↓condV_var, ↓opsW_nil, ↓opsW_d, ↓opW_move, ↓opW_assign, ↓opW_bin, ↓bin_lss, ↓ld1_some, ↓fldA_some, ↓evs_nil, ↓evs_cons, ↓opW_call, ↓setAll_cons, ↓setAll_nil, ↓opW_box, ↓box_agg, ↓cint_int, ↓opW_max, ↓max_int, ↓ld_3, ↓fa_25_9, ↓cv_3_22, ↓r9_2_w, ↓s9_3_w, ↓s9_6_w, ↓r9_7_w, ↓s9_8_w, ↓s9_9_w, ↓r9_10_w, ↓s9_11_w, cellAt_newE, onV_some', brK_false, true_and, ne_eq, Nat.reduceEqDiff, Nat.reduceAdd, not_false_eq_true, Nat.one_ne_zero, Addr.add_lit, Bool.false_eq_true,  c.one, c.c9, w9]))
  repeat' (first | done | with_reducible (first | refine y1 ?_ (by omega) | refine y2 ?_ (by omega) | refine y3 (fun _ => ?_) (fun _ => ?_) | refine y4 ?_ (by omega) (by omega) | refine y5 ?_ (by omega) | refine y6 ?_ (by with_unfolding_all rfl) | refine y7 ?_ (by with_unfolding_all rfl) | refine y8 ?_ (by with_unfolding_all rfl) | refine y9 ?_ (by with_unfolding_all rfl) | refine ya ?_ (by with_unfolding_all rfl)) | (simp -dsimp only [↓cw_skip, ↓cw_ops, ↓cw_plan, ↓cw_seq, ↓cw_block, ↓cw_exit, ↓cw_ret, ↓cw_cond, ↓seqK_normal, ↓seqK_exit, ↓seqK_ret, ↓blockK_normal, ↓blockK_ret, ↓blockK_same, ↓blockK_ne, ↓loopK_normal, ↓loopK_exit, ↓loopK_ret, ↓getK_same, ↓getK_ne, ↓getK_leaf, ↓evK_tmp, ↓evK_int, ↓evK_bool, ↓evK_string, ↓evK_float, ↓evK_nilptr, ↓evK_nilslice, ↓evK_nilmap, ↓evK_nilFunc, ↓evK_nilIface, ↓evK_func, ↓condV_true, ↓condV_false, ↓condV_var, ↓gdV_tt, ↓gdV_tf, ↓gdV_ft, ↓gdV_ff, ↓gdV_var, ↓gdV_undef, ↓opsW_nil, ↓opsW_d, ↓opsW_n, ↓opsW_gd, ↓opsW_gn, ↓planW_nil, ↓planW_d, ↓planW_n, ↓planW_gd, ↓planW_gn, ↓agK_nil, ↓opW_move, ↓opW_assign, ↓opW_pick, ↓opW_bin, ↓bin_add, ↓bin_sub, ↓bin_mul, ↓bin_quo, ↓bin_rem, ↓bin_shl, ↓bin_shr, ↓bin_eql, ↓bin_neq, ↓bin_lss, ↓bin_leq, ↓bin_gtr, ↓bin_geq, ↓ld1_some, ↓ldN_some, ↓fldA_some, ↓idxS_some, ↓evs_nil, ↓evs_cons, ↓opW_call, ↓opW_callV, ↓lenS_some, ↓resK_one, ↓resK_one', ↓resK_two, ↓resK_two', ↓setAll_cons, ↓setAll_nil, ↓opW_box, ↓box_int, ↓box_bool, ↓box_string, ↓box_slice, ↓box_pointer, ↓box_map, ↓box_func, ↓box_agg, ↓evp_nil, ↓evp_cons, ↓idxA_some, ↓bin_eqlS, ↓bin_neqS, ↓evK_agg, ↓opW_un, ↓un_not, ↓un_neg, ↓cint_int, ↓part_one, ↓opW_extract, ↓ext_tuple, ↓opW_makeFuncF, ↓opW_nilCheck, ↓callV_some, ↓opW_lookup, ↓opW_mapUpdate, ↓opW_delete, ↓opW_slice, ↓evo_none, ↓evo_some, ↓agK_load, ↓agK_loadG, ↓resK_nil, ↓resK_nil', ↓resK_cellR, ↓resK_cellN, ↓resK_ct, ↓cap_nil, ↓bin_and, ↓agV_same, ↓agV_ne, ↓opW_max, ↓max_int, ↓agl_3, ↓agl_25, ↓ld_25, ↓len_26, ↓fa_25_0, ↓ld_3, ↓mm_53, ↓ia_26, ↓ld_52, ↓al_52, ↓st_52, ↓fa_52_0, ↓ld_50, ↓fa_52_1, ↓bd_55, ↓bd_54, ↓fa_52_2, ↓fd_54_0, ↓fa_25_9, ↓cv_3_22, ↓fa_25_1, ↓fa_25_2, ↓bd_52, ↓bsl_26_1, ↓ap_26_26, ↓fa_25_14, ↓ld_23, ↓len_23, ↓ia_23, ↓ld_80, ↓len_80, ↓agl_82, ↓agl_59, ↓bd_89, ↓fa_89_2, ↓st_82, ↓fa_25_3, ↓fa_25_7, ↓fa_89_3, ↓st_83, ↓fa_25_4, ↓fa_25_10, ↓ld_22, ↓fa_25_11, ↓fa_89_4, ↓st_84, ↓fa_25_6, ↓fa_25_5, ↓fa_89_5, ↓st_85, ↓fa_89_6, ↓st_86, ↓bd_96, ↓fa_89_7, ↓st_87, ↓bd_59, ↓al_59, ↓st_59, ↓ld_83, ↓fa_25_12, ↓fa_25_13, ↓ld_84, ↓ld_59, ↓ld_82, ↓bd_64, ↓ld_86, ↓fa_106_1, ↓ld_104, ↓bsl_38_1, ↓ld_85, ↓bd_112, ↓bd_129, ↓fa_129_0, ↓ld_127, ↓bd_131, ↓bsl_127_1, ↓ap_127_127, ↓st_127, ↓fa_129_1, ↓ld_38, ↓ap_38_38, ↓st_38, ↓bd_134, ↓fa_134_0, ↓ld_132, ↓bd_139, ↓bsl_132_1, ↓ap_132_132, ↓st_132, ↓bd_142, ↓fa_142_0, ↓ld_140, ↓ia_140, ↓fa_144_0, ↓st_22, ↓fa_142_1, ↓bd_144, ↓bd_148, ↓agl_103, ↓bd_150, ↓bd_106, ↓fa_106_0, ↓ld_103, ↓bd_154, ↓bsl_103_1, ↓ap_103_103, ↓st_103, ↓bd_157, ↓bsl_135_1, ↓bd_137, ↓al_160, ↓st_160, ↓fa_160_6, ↓fa_160_4, ↓fa_160_1, ↓fa_59_0, ↓fa_144_6, ↓st_3, ↓ia_132, ↓fa_139_2, ↓fa_137_3, ↓ld_64, ↓len_38, ↓ia_38, ↓ia_127, ↓fa_131_1, ↓st_4, ↓fa_131_2, ↓st_64, ↓fa_131_0, ↓fa_150_0, ↓agl_112, ↓ld_112, ↓fa_148_3, ↓ld_146, ↓len_146, ↓ia_146, ↓fa_167_0, ↓fa_112_2, ↓ld_110, ↓fa_167_4, ↓fa_148_2, ↓fa_148_4, ↓bd_167, ↓bsl_146_1, ↓ap_146_146, ↓st_146, ↓ia_174, ↓ld_9, ↓fa_144_1, ↓ld_144, ↓st_144, ↓bd_177, ↓len_132, ↓fa_139_1, ↓ld_4, ↓fa_139_3, ↓ld_137, ↓st_137, ↓fa_139_0, ↓len_140, ↓fa_59_1, ↓agl_160, ↓al_144, ↓fa_144_5, ↓fa_144_2, ↓fa_144_3, ↓fa_144_4, ↓fa_144_7, ↓bd_160, ↓fa_160_5, ↓fa_160_9, ↓fa_160_7, ↓ld_160, ↓fa_64_0, ↓ld_60, ↓fa_64_9, ↓fa_64_5, ↓fa_64_6, ↓fa_64_1, ↓cv_3_5, ↓fa_112_0, ↓ld_109, ↓fa_112_1, ↓agl_22, ↓ia_40, ↓cv_22_3, ↓bsl_174_14, ↓neqA_59, ↓eqlA_59, ↓len_185, ↓ia_185, ↓fa_148_0, ↓fa_148_1, ↓fa_167_2, ↓fa_167_3, ↓bsl_40_14, ↓fa_25_8, ↓bsl_38_10, ↓bsl_40_4, ↓bsl_185_1, ↓ap_185_185, ↓p9_0_w, ↓s9_1_w, ↓r9_2_w, ↓s9_3_w, ↓r9_4_w, ↓s9_5_w, ↓s9_6_w, ↓r9_7_w, ↓s9_8_w, ↓s9_9_w, ↓r9_10_w, ↓s9_11_w, cellAt_newE, cellAt_newO, cellsAt_newE, cellsAt_newO, newBlk_n, Nat.lt_add_one, List.getElem?_cons_zero, List.getElem?_cons_succ, List.length_cons, List.length_nil, onV_some', brK_true, brK_false, brK_not, Nat.le_refl, true_and, and_true, ne_eq, Nat.reduceEqDiff, Nat.reduceAdd, not_false_eq_true, not_true_eq_false, Nat.one_ne_zero, Nat.zero_ne_one, Nat.add_zero, Addr.add_lit, Int.toNat_natCast, Bool.true_eq_false, Bool.false_eq_true,  c.one, c.c1, c.c2, c.c9, w9, w1, w2, wk, same_int]))
  refine addSat_ret (x := c.slice) (y := 3) ⟨by omega, by omega⟩ ⟨by omega, by omega⟩ ?_
  rw [show satM (c.slice + 3) = c.slice + 3 by unfold satM; omega]
  repeat' (first | done | with_reducible (first | refine y1 ?_ (by omega) | refine y2 ?_ (by omega) | refine y3 (fun _ => ?_) (fun _ => ?_) | refine y4 ?_ (by omega) (by omega) | refine y5 ?_ (by omega) | refine y6 ?_ (by with_unfolding_all rfl) | refine y7 ?_ (by with_unfolding_all rfl) | refine y8 ?_ (by with_unfolding_all rfl) | refine y9 ?_ (by with_unfolding_all rfl) | refine ya ?_ (by with_unfolding_all rfl)) | (simp -dsimp only [↓getK_same, ↓evK_tmp, ↓evK_int, ↓opsW_d, ↓evs_nil, ↓evs_cons, ↓opW_call]))
  refine mulSat_ret (x := 4) (y := c.slice + 3) ⟨by omega, by omega⟩ ⟨by omega, by omega⟩ ?_
  rw [show satM (4 * (c.slice + 3)) = 4 * (c.slice + 3) by unfold satM; omega]
  repeat' (first | done | with_reducible (first | refine y1 ?_ (by omega) | refine y2 ?_ (by omega) | refine y3 (fun _ => ?_) (fun _ => ?_) | refine y4 ?_ (by omega) (by omega) | refine y5 ?_ (by omega) | refine y6 ?_ (by with_unfolding_all rfl) | refine y7 ?_ (by with_unfolding_all rfl) | refine y8 ?_ (by with_unfolding_all rfl) | refine y9 ?_ (by with_unfolding_all rfl) | refine ya ?_ (by with_unfolding_all rfl)) | (simp -dsimp only [↓cw_plan, ↓cw_seq, ↓seqK_normal, ↓getK_same, ↓getK_ne, ↓evK_tmp, ↓evK_int, ↓opsW_nil, ↓opsW_d, ↓planW_d, ↓agK_nil, ↓opW_move, ↓opW_assign, ↓ld1_some, ↓fldA_some, ↓evs_nil, ↓evs_cons, ↓opW_call, ↓setAll_cons, ↓setAll_nil, ↓cint_int, ↓opW_max, ↓max_int, ↓ld_3, ↓cv_3_22, ↓fa_25_1, ↓fa_25_2, ↓p9_0_w, ↓s9_1_w, cellAt_newE, newBlk_n, onV_some', Nat.le_refl, true_and, ne_eq, Nat.reduceEqDiff, Nat.reduceAdd, not_false_eq_true, Addr.add_lit, c.c1, c.c2, wk]))
  have hu : ∀ x : Int, 0 ≤ x → isU (satM x) := fun x hx => ⟨by unfold satM; omega, by unfold satM; omega⟩
  refine mulSat_ret (x := 4 * (c.slice + 3)) (y := k) ⟨by omega, by omega⟩ ⟨by omega, by omega⟩ ?_
  have h4 : 0 ≤ 4 * (c.slice + 3) * k := Int.mul_nonneg (by omega) (by omega)
  repeat' (first | done | with_reducible (first | refine y1 ?_ (by omega) | refine y2 ?_ (by omega) | refine y3 (fun _ => ?_) (fun _ => ?_) | refine y4 ?_ (by omega) (by omega) | refine y5 ?_ (by omega) | refine y6 ?_ (by with_unfolding_all rfl) | refine y7 ?_ (by with_unfolding_all rfl) | refine y8 ?_ (by with_unfolding_all rfl) | refine y9 ?_ (by with_unfolding_all rfl) | refine ya ?_ (by with_unfolding_all rfl)) | (simp -dsimp only [↓getK_same, ↓getK_ne, ↓evK_tmp, ↓planW_d, ↓agK_nil, ↓ld1_some, ↓evs_nil, ↓evs_cons, ↓opW_call, ↓agK_load, ↓agV_same, ↓agV_ne, ↓agl_3, cellAt_newE, onV_some', true_and, and_true, ne_eq, Nat.reduceEqDiff, Nat.reduceAdd, not_false_eq_true, Addr.add_lit, c.c1, c.c2, w1, w2, same_int]))
  refine addSat_ret (x := c.ring) (y := c.gs) ⟨by omega, by omega⟩ ⟨by omega, by omega⟩ ?_
  rw [show satM (c.ring + c.gs) = c.ring + c.gs by unfold satM; omega]
  repeat' (first | done | with_reducible (first | refine y1 ?_ (by omega) | refine y2 ?_ (by omega) | refine y3 (fun _ => ?_) (fun _ => ?_) | refine y4 ?_ (by omega) (by omega) | refine y5 ?_ (by omega) | refine y6 ?_ (by with_unfolding_all rfl) | refine y7 ?_ (by with_unfolding_all rfl) | refine y8 ?_ (by with_unfolding_all rfl) | refine y9 ?_ (by with_unfolding_all rfl) | refine ya ?_ (by with_unfolding_all rfl)) | (simp -dsimp only [↓getK_same, ↓evK_tmp, ↓evK_int, ↓planW_d, ↓agK_nil, ↓evs_nil, ↓evs_cons, ↓opW_call, true_and]))
  refine addSat_ret (x := c.ring + c.gs) (y := 2) ⟨by omega, by omega⟩ ⟨by omega, by omega⟩ ?_
  rw [show satM (c.ring + c.gs + 2) = c.ring + c.gs + 2 by unfold satM; omega]
  repeat' (first | done | with_reducible (first | refine y1 ?_ (by omega) | refine y2 ?_ (by omega) | refine y3 (fun _ => ?_) (fun _ => ?_) | refine y4 ?_ (by omega) (by omega) | refine y5 ?_ (by omega) | refine y6 ?_ (by with_unfolding_all rfl) | refine y7 ?_ (by with_unfolding_all rfl) | refine y8 ?_ (by with_unfolding_all rfl) | refine y9 ?_ (by with_unfolding_all rfl) | refine ya ?_ (by with_unfolding_all rfl)) | (simp -dsimp only [↓getK_same, ↓getK_ne, ↓evK_tmp, ↓planW_d, ↓agK_nil, ↓evs_nil, ↓evs_cons, ↓opW_call, true_and, ne_eq, Nat.reduceEqDiff, not_false_eq_true]))
  refine mulSat_ret (x := satM (4 * (c.slice + 3) * k)) (y := c.ring + c.gs + 2) (hu _ h4) ⟨by omega, by omega⟩ ?_
  repeat' (first | done | with_reducible (first | refine y1 ?_ (by omega) | refine y2 ?_ (by omega) | refine y3 (fun _ => ?_) (fun _ => ?_) | refine y4 ?_ (by omega) (by omega) | refine y5 ?_ (by omega) | refine y6 ?_ (by with_unfolding_all rfl) | refine y7 ?_ (by with_unfolding_all rfl) | refine y8 ?_ (by with_unfolding_all rfl) | refine y9 ?_ (by with_unfolding_all rfl) | refine ya ?_ (by with_unfolding_all rfl)) | (simp -dsimp only [↓cw_ret, ↓seqK_normal, ↓getK_same, ↓evK_tmp, ↓planW_nil, ↓planW_d, ↓agK_nil, ↓opW_assign, ↓resK_one, newBlk_n, Nat.le_refl, true_and]))
  exact hK _ (ExtB.new _ (Nat.le_refl _))
theorem refBound_ret {c : CfgD} {k : Int} {h : Heap} {K : Value → Heap → Prop} (ok : CfgOK c) (hk : k ≤ 9223372036854775807) (hK : ∀ h', ExtB h.n h h' → K (.int .u64 (boundV c k)) h') : Ret env (.func 10) [.agg ⟨c.cells⟩, .int .i64 k] h K := by
  obtain ⟨s1, s2⟩ := ok.slice
  obtain ⟨r1, r2⟩ := ok.ring
  obtain ⟨g1, g2⟩ := ok.gs
  refine F10 rfl ?_
  by_cases hk1 : k < 1
  · repeat' (first | done | with_reducible (first | refine y1 ?_ (by omega) | refine y2 ?_ (by omega) | refine y3 (fun _ => ?_) (fun _ => ?_) | refine y4 ?_ (by omega) (by omega) | refine y5 ?_ (by omega) | refine y6 ?_ (by with_unfolding_all rfl) | refine y7 ?_ (by with_unfolding_all rfl) | refine y8 ?_ (by with_unfolding_all rfl) | refine y9 ?_ (by with_unfolding_all rfl) | refine ya ?_ (by with_unfolding_all rfl)) | (simp -dsimp only [↓cw_ops, ↓cw_seq, ↓cw_ret, ↓cw_cond, ↓seqK_normal, ↓seqK_ret, ↓getK_same, ↓getK_ne, ↓evK_tmp, ↓evK_int, ↓condV_var, ↓opsW_nil, ↓opsW_d, ↓opW_move, ↓opW_assign, ↓opW_bin, ↓bin_lss, ↓resK_one, ↓setAll_cons, ↓setAll_nil, ↓opW_box, ↓box_agg, ↓r10_2_w, ↓s10_3_w, ↓s10_4_w, ↓r10_5_w, ↓s10_6_w, ↓s10_7_w, ↓r10_8_w, ↓s10_9_w, brK_true, true_and, ne_eq, Nat.reduceEqDiff, Nat.reduceAdd, not_false_eq_true, Nat.one_ne_zero, c.one]))
    rw [boundV, if_pos hk1] at hK
    exact hK _ (ExtB.new _ (Nat.le_refl _))
  rw [boundV, if_neg hk1] at hK
  have hu : ∀ x : Int, 0 ≤ x → isU (satM x) := fun x hx => ⟨by unfold satM; omega, by unfold satM; omega⟩
  have h4 : 0 ≤ 4 * (c.slice + 3) * k := Int.mul_nonneg (by omega) (by omega)
  have v1 : IntKind.wrap .i64 (c.slice + 3) = c.slice + 3 := wrap_i64 (by omega) (by omega)
  have v2 : IntKind.wrap .i64 (4 * (c.slice + 3)) = 4 * (c.slice + 3) := wrap_i64 (by omega) (by omega)
  have v3 : IntKind.wrap .i64 (c.ring + c.gs) = c.ring + c.gs := wrap_i64 (by omega) (by omega)
  have v4 : IntKind.wrap .i64 (c.ring + c.gs + 2) = c.ring + c.gs + 2 := wrap_i64 (by omega) (by omega)
  have w1 : IntKind.wrap .u64 (4 * (c.slice + 3)) = 4 * (c.slice + 3) := wrap_u64 (by omega) (by omega)
  have w2 : IntKind.wrap .u64 (c.ring + c.gs + 2) = c.ring + c.gs + 2 := wrap_u64 (by omega) (by omega)
  have wk : IntKind.wrap .u64 k = k := wrap_u64 (by omega) (by omega)
  repeat' (first | done | with_reducible (first | refine y1 ?_ (by omega) | refine y2 ?_ (by omega) | refine y3 (fun _ => ?_) (fun _ => ?_) | refine y4 ?_ (by omega) (by omega) | refine y5 ?_ (by omega) | refine y6 ?_ (by with_unfolding_all rfl) | refine y7 ?_ (by with_unfolding_all rfl) | refine y8 ?_ (by with_unfolding_all rfl) | refine y9 ?_ (by with_unfolding_all rfl) | refine ya ?_ (by with_unfolding_all rfl)) | (simp -dsimp only [↓cw_skip, ↓cw_ops, ↓cw_plan, ↓cw_seq, ↓cw_cond, ↓seqK_normal, ↓getK_same, ↓getK_ne, ↓evK_tmp, ↓evK_int, ↓condV_var, ↓opsW_nil, ↓opsW_d, ↓planW_d, ↓agK_nil, ↓opW_move, ↓opW_assign, ↓opW_bin, ↓bin_add, ↓bin_mul, ↓bin_lss, ↓ld1_some, ↓fldA_some, ↓evs_nil, ↓evs_cons, ↓opW_call, ↓setAll_cons, ↓setAll_nil, ↓opW_box, ↓box_agg, ↓cint_int, ↓ld_3, ↓fa_25_9, ↓cv_3_22, ↓fa_25_1, ↓fa_25_2, ↓p10_0_w, ↓s10_1_w, ↓s10_4_w, ↓r10_5_w, ↓s10_6_w, ↓s10_7_w, ↓r10_8_w, ↓s10_9_w, cellAt_newE, newBlk_n, onV_some', brK_false, Nat.le_refl, true_and, ne_eq, Nat.reduceEqDiff, Nat.reduceAdd, not_false_eq_true, Nat.one_ne_zero, Addr.add_lit, Bool.false_eq_true,  c.one, c.c1, c.c2, c.c9, v1, v2, w1, wk]))
  refine rmul_ret (x := 4 * (c.slice + 3)) (y := k) ⟨by omega, by omega⟩ ⟨by omega, by omega⟩ ?_
  repeat' (first | done | with_reducible (first | refine y1 ?_ (by omega) | refine y2 ?_ (by omega) | refine y3 (fun _ => ?_) (fun _ => ?_) | refine y4 ?_ (by omega) (by omega) | refine y5 ?_ (by omega) | refine y6 ?_ (by with_unfolding_all rfl) | refine y7 ?_ (by with_unfolding_all rfl) | refine y8 ?_ (by with_unfolding_all rfl) | refine y9 ?_ (by with_unfolding_all rfl) | refine ya ?_ (by with_unfolding_all rfl)) | (simp -dsimp only [↓getK_same, ↓getK_ne, ↓evK_tmp, ↓planW_d, ↓agK_nil, ↓ld1_some, ↓evs_nil, ↓evs_cons, ↓opW_call, ↓agK_load, ↓agV_same, ↓agV_ne, ↓agl_3, cellAt_newE, onV_some', true_and, and_true, ne_eq, Nat.reduceEqDiff, Nat.reduceAdd, not_false_eq_true, Addr.add_lit, c.c1, c.c2, v3, v4, w2, same_int]))
  refine rmul_ret (x := satM (4 * (c.slice + 3) * k)) (y := c.ring + c.gs + 2) (hu _ h4) ⟨by omega, by omega⟩ ?_
  repeat' (first | done | with_reducible (first | refine y1 ?_ (by omega) | refine y2 ?_ (by omega) | refine y3 (fun _ => ?_) (fun _ => ?_) | refine y4 ?_ (by omega) (by omega) | refine y5 ?_ (by omega) | refine y6 ?_ (by with_unfolding_all rfl) | refine y7 ?_ (by with_unfolding_all rfl) | refine y8 ?_ (by with_unfolding_all rfl) | refine y9 ?_ (by with_unfolding_all rfl) | refine ya ?_ (by with_unfolding_all rfl)) | (simp -dsimp only [↓cw_ret, ↓seqK_normal, ↓getK_same, ↓evK_tmp, ↓planW_nil, ↓planW_d, ↓agK_nil, ↓opW_assign, ↓resK_one, newBlk_n, Nat.le_refl, true_and]))
  exact hK _ (ExtB.new _ (Nat.le_refl _))
end Go.Proofs.Ytdjnedamphifcaa

namespace Go.Proofs.Ytdjnedamphifcaa
open Go.Ev
set_option maxRecDepth 100000
set_option maxHeartbeats 400000
/-! rounds -/
def tickD : ActD := ⟨2, 0, 0, 0⟩
def startD (p v : Nat) : ActD := ⟨1, p, v, 0⟩
def cellL (ps vs p v : Nat) : List ActD := if p = v ∧ 1 < ps then [] else List.replicate vs (startD p v)
def rowL (ps vs p m : Nat) : List ActD := (List.range m).flatMap (cellL ps vs p)
def rowsL (ps vs m : Nat) : List ActD := (List.range m).flatMap fun p => rowL ps vs p ps
def roundL (ps vs : Nat) : List ActD := tickD :: rowsL ps vs ps
def roundsL (ps vs n : Nat) : List ActD := (List.range n).flatMap fun _ => roundL ps vs
theorem rowL_succ (ps vs p m : Nat) : rowL ps vs p (m + 1) = rowL ps vs p m ++ cellL ps vs p m := by simp [rowL, List.range_succ]
theorem rowsL_succ (ps vs m : Nat) : rowsL ps vs (m + 1) = rowsL ps vs m ++ rowL ps vs m ps := by simp [rowsL, List.range_succ]
theorem roundsL_succ (ps vs n : Nat) : roundsL ps vs (n + 1) = roundsL ps vs n ++ roundL ps vs := by simp [roundsL, List.range_succ]
theorem cellL_len (ps vs p v : Nat) : (cellL ps vs p v).length ≤ vs := by
  unfold cellL; split <;> simp
theorem rowL_len (ps vs p m : Nat) : (rowL ps vs p m).length ≤ m * vs := by
  induction m with
  | zero => simp [rowL]
  | succ m ih => rw [rowL_succ, List.length_append, Nat.add_mul, Nat.one_mul]; have := cellL_len ps vs p m; omega
theorem rowsL_len (ps vs m : Nat) : (rowsL ps vs m).length ≤ m * (ps * vs) := by
  induction m with
  | zero => simp [rowsL]
  | succ m ih => rw [rowsL_succ, List.length_append, Nat.add_mul, Nat.one_mul]; have := rowL_len ps vs m ps; omega
def actsF (L : List ActD) : List Value := (L.map ActD.cells).flatten
theorem actsF_len (L : List ActD) : (actsF L).length = L.length * 4 := by
  induction L with
  | nil => rfl
  | cons x L ih => simp only [actsF, List.map_cons, List.flatten_cons, List.length_append, List.length_cons] at ih ⊢; rw [ih, Nat.add_mul]; simp [ActD.cells]; omega
theorem actsF_append (L M : List ActD) : actsF (L ++ M) = actsF L ++ actsF M := by simp [actsF]
theorem actsF_one (x : ActD) : actsF [x] = x.cells := by simp [actsF]
def OA (B : Nat) (h : Heap) (fr : Fr) (L : List ActD) : Prop := ∃ v, fr.get 6 = some v ∧ OwnS B h 52 v L.length (actsF L)
theorem OA.of {B : Nat} {h : Heap} {fr fr' : Fr} {L : List ActD} (o : OA B h fr L) (e : fr'.get 6 = fr.get 6) : OA B h fr' L := by
  obtain ⟨v, h1, h2⟩ := o; exact ⟨v, e.trans h1, h2⟩
theorem wPhase {B p v vs : Nat} {fr : Fr} {h : Heap} {Kr : Ex → Fr → Heap → Prop} {L : List ActD} (hB : B ≤ h.n) (hvs : vs ≤ 4) (hL : L.length + 10 ≤ 100000) (o : OA B h fr L)
    (g7 : fr.get 7 = some (.int .i64 p)) (g8 : fr.get 8 = some (.int .i64 v)) (g34 : fr.get 34 = some (.int .i64 vs)) (g35 : fr.get 35 = some (.int .i64 (0 : Int)))
    (hK : ∀ fr' h', (∀ t, t < 34 → t ≠ 6 → fr'.get t = fr.get t) → OA B h' fr' (L ++ List.replicate vs (startD p v)) → ExtB B h h' → Kr .normal fr' h') : s11_18.wp env 48 none fr h Kr := by
  repeat' (first | done | with_reducible (first | refine y1 ?_ (by omega) | refine y2 ?_ (by omega) | refine y3 (fun _ => ?_) (fun _ => ?_) | refine y4 ?_ (by omega) (by omega) | refine y5 ?_ (by omega) | refine y6 ?_ (by with_unfolding_all rfl) | refine y7 ?_ (by with_unfolding_all rfl) | refine y8 ?_ (by with_unfolding_all rfl) | refine y9 ?_ (by with_unfolding_all rfl) | refine ya ?_ (by with_unfolding_all rfl)) | (simp -dsimp only [↓cw_block, ↓s11_17_w, ↓s11_18_w]))
  refine cw_loopI (fun n fr' h' => ∃ k : Nat, k ≤ vs ∧ n = vs - k ∧ fr'.get 35 = some (.int .i64 k) ∧ (∀ t, t < 34 → t ≠ 6 → fr'.get t = fr.get t) ∧ OA B h' fr' (L ++ List.replicate k (startD p v)) ∧ ExtB B h h') vs ?_ (by omega) ?_
  · exact ⟨0, by omega, by omega, by simpa using g35, fun _ _ _ => rfl, by simpa using o, ExtB.refl _ _⟩
  rintro n fr2 h' ⟨k, hk, rfl, f35, hfr, ⟨u, f6, own⟩, X⟩ hag
  have e35 := getK_of f35
  have e34 := getK_of ((hag 34 rfl).trans g34)
  have e7 := getK_of ((hfr 7 (by decide) (by decide)).trans g7)
  have e8 := getK_of ((hfr 8 (by decide) (by decide)).trans g8)
  have e6 := getK_of f6
  have hn := X.n
  by_cases hlt : k < vs
  · repeat' (first | done | with_reducible (first | refine y1 ?_ (by omega) | refine y2 ?_ (by omega) | refine y3 (fun _ => ?_) (fun _ => ?_) | refine y4 ?_ (by omega) (by omega) | refine y5 ?_ (by omega) | refine y6 ?_ (by with_unfolding_all rfl) | refine y7 ?_ (by with_unfolding_all rfl) | refine y8 ?_ (by with_unfolding_all rfl) | refine y9 ?_ (by with_unfolding_all rfl) | refine ya ?_ (by with_unfolding_all rfl)) | (simp -dsimp only [↓cw_skip, ↓cw_ops, ↓cw_seq, ↓cw_block, ↓cw_cond, ↓seqK_normal, ↓getK_same, ↓getK_ne, ↓evK_tmp, ↓evK_int, ↓condV_var, ↓opsW_nil, ↓opsW_d, ↓opW_move, ↓opW_bin, ↓bin_lss, ↓evp_nil, ↓evp_cons, ↓bd_52, ↓bsl_26_1, ↓ap_26_26, ↓r11_10_w, ↓s11_11_w, ↓s11_12_w, ↓s11_13_w, ↓s11_14_w, ↓r11_15_w, ↓s11_16_w, brK_true, ne_eq, Nat.reduceEqDiff, not_false_eq_true, ↓e35, ↓e34, ↓e7, ↓e8, ↓e6]))
    refine app_one own (by omega) (actsF_len _) (by rw [List.length_append, List.length_replicate]; omega) rfl rfl (by decide) rfl fun v' h2 o2 x2 => ?_
    repeat' (first | done | with_reducible (first | refine y1 ?_ (by omega) | refine y2 ?_ (by omega) | refine y3 (fun _ => ?_) (fun _ => ?_) | refine y4 ?_ (by omega) (by omega) | refine y5 ?_ (by omega) | refine y6 ?_ (by with_unfolding_all rfl) | refine y7 ?_ (by with_unfolding_all rfl) | refine y8 ?_ (by with_unfolding_all rfl) | refine y9 ?_ (by with_unfolding_all rfl) | refine ya ?_ (by with_unfolding_all rfl)) | (simp -dsimp only [↓cw_ops, ↓seqK_normal, ↓blockK_normal, ↓loopK_normal, ↓getK_same, ↓getK_ne, ↓evK_tmp, ↓evK_int, ↓opsW_nil, ↓opsW_d, ↓opW_move, ↓opW_assign, ↓opW_bin, ↓bin_add, ↓r11_8_w, ↓s11_9_w, ne_eq, Nat.reduceEqDiff, not_false_eq_true, ↓e35]))
    have e : actsF (L ++ List.replicate k (startD p v)) ++ (startD p v).cells = actsF (L ++ List.replicate (k + 1) (startD p v)) := by
      rw [← actsF_one, ← actsF_append, List.append_assoc, ← List.replicate_succ']
    refine ⟨vs - (k + 1), by omega, k + 1, by omega, rfl, by simp [T.get_set, wrap_succ (show k ≤ 4611686018427387904 by omega)], fun t ht hne => ?_, ⟨v', by simp [T.get_set], ?_⟩, X.trans x2⟩
    · rw [← hfr t ht hne]; simp only [T.get_set]; repeat' (first | rfl | (rw [if_neg (by omega)]))
    · have o3 : OwnS B h2 52 v' ((L ++ List.replicate k (startD p v)).length + 1) (actsF (L ++ List.replicate k (startD p v)) ++ (startD p v).cells) := o2
      rw [e] at o3
      simpa [Nat.add_assoc] using o3
  · have e : k = vs := by omega
    subst e
    repeat' (first | done | with_reducible (first | refine y1 ?_ (by omega) | refine y2 ?_ (by omega) | refine y3 (fun _ => ?_) (fun _ => ?_) | refine y4 ?_ (by omega) (by omega) | refine y5 ?_ (by omega) | refine y6 ?_ (by with_unfolding_all rfl) | refine y7 ?_ (by with_unfolding_all rfl) | refine y8 ?_ (by with_unfolding_all rfl) | refine y9 ?_ (by with_unfolding_all rfl) | refine ya ?_ (by with_unfolding_all rfl)) | (simp -dsimp only [↓cw_ops, ↓cw_seq, ↓cw_exit, ↓cw_cond, ↓seqK_normal, ↓seqK_exit, ↓blockK_same, ↓loopK_exit, ↓getK_same, ↓evK_tmp, ↓condV_var, ↓opsW_nil, ↓opsW_d, ↓opW_bin, ↓bin_lss, ↓s11_13_w, ↓s11_14_w, ↓r11_15_w, ↓s11_16_w, brK_false, Bool.false_eq_true,  ↓e35, ↓e34]))
    refine hK _ h' (fun t ht hne => ?_) ⟨u, by simp only [T.get_set]; simpa using f6, own⟩ X
    rw [← hfr t ht hne]; simp only [T.get_set]; repeat' (first | rfl | (rw [if_neg (by omega)]))
theorem vrPhase {B p ps vs : Nat} {fr : Fr} {h : Heap} {Kr : Ex → Fr → Heap → Prop} {L : List ActD} (hB : B ≤ h.n) (hvs : vs ≤ 4) (hps : ps ≤ 8) (hL : L.length + 50 ≤ 100000) (o : OA B h fr L)
    (g0 : fr.get 0 = some (.int .i64 ps)) (g1 : fr.get 1 = some (.int .i64 vs)) (g7 : fr.get 7 = some (.int .i64 p)) (g22 : fr.get 22 = some (.int .i64 ps)) (g23 : fr.get 23 = some (.int .i64 (0 : Int)))
    (hK : ∀ fr' h', (∀ t, t < 20 → t ≠ 6 → t ≠ 8 → fr'.get t = fr.get t) → OA B h' fr' (L ++ rowL ps vs p ps) → ExtB B h h' → Kr .normal fr' h') : s11_33.wp env 48 none fr h Kr := by
  repeat' (first | done | with_reducible (first | refine y1 ?_ (by omega) | refine y2 ?_ (by omega) | refine y3 (fun _ => ?_) (fun _ => ?_) | refine y4 ?_ (by omega) (by omega) | refine y5 ?_ (by omega) | refine y6 ?_ (by with_unfolding_all rfl) | refine y7 ?_ (by with_unfolding_all rfl) | refine y8 ?_ (by with_unfolding_all rfl) | refine y9 ?_ (by with_unfolding_all rfl) | refine ya ?_ (by with_unfolding_all rfl)) | (simp -dsimp only [↓cw_block, ↓s11_32_w, ↓s11_33_w]))
  refine cw_loopI (fun n fr' h' => ∃ k : Nat, k ≤ ps ∧ n = ps - k ∧ fr'.get 23 = some (.int .i64 k) ∧ (∀ t, t < 20 → t ≠ 6 → t ≠ 8 → fr'.get t = fr.get t) ∧ OA B h' fr' (L ++ rowL ps vs p k) ∧ ExtB B h h') ps ?_ (by omega) ?_
  · exact ⟨0, by omega, by omega, by simpa using g23, fun _ _ _ _ => rfl, by simpa [rowL] using o, ExtB.refl _ _⟩
  rintro n fr2 h' ⟨k, hk, rfl, f23, hfr, oa, X⟩ hag
  have e23 := getK_of f23
  have f22 := (hag 22 rfl).trans g22
  have e22 := getK_of f22
  have e7 := getK_of ((hfr 7 (by decide) (by decide) (by decide)).trans g7)
  have e0 := getK_of ((hfr 0 (by decide) (by decide) (by decide)).trans g0)
  have e1 := getK_of ((hfr 1 (by decide) (by decide) (by decide)).trans g1)
  have hn := X.n
  have hrl := rowL_len ps vs p k
  have hkv : k * vs ≤ 32 := by
    have : k * vs ≤ 8 * 4 := Nat.mul_le_mul (by omega) hvs
    omega
  by_cases hlt : k < ps
  · by_cases hskip : p = k ∧ 1 < ps
    · have e : rowL ps vs p (k + 1) = rowL ps vs p k := by rw [rowL_succ, cellL, if_pos hskip, List.append_nil]
      obtain ⟨rfl, h1⟩ := hskip
      repeat' (first | done | with_reducible (first | refine y1 ?_ (by omega) | refine y2 ?_ (by omega) | refine y3 (fun _ => ?_) (fun _ => ?_) | refine y4 ?_ (by omega) (by omega) | refine y5 ?_ (by omega) | refine y6 ?_ (by with_unfolding_all rfl) | refine y7 ?_ (by with_unfolding_all rfl) | refine y8 ?_ (by with_unfolding_all rfl) | refine y9 ?_ (by with_unfolding_all rfl) | refine ya ?_ (by with_unfolding_all rfl)) | (simp -dsimp only [↓cw_skip, ↓cw_ops, ↓cw_seq, ↓cw_block, ↓cw_exit, ↓cw_cond, ↓seqK_normal, ↓seqK_exit, ↓blockK_same, ↓loopK_normal, ↓getK_same, ↓getK_ne, ↓evK_tmp, ↓evK_int, ↓condV_var, ↓gdV_var, ↓opsW_nil, ↓opsW_d, ↓opsW_gd, ↓opW_move, ↓opW_assign, ↓opW_pick, ↓opW_bin, ↓bin_add, ↓bin_eql, ↓bin_lss, ↓bin_gtr, ↓r11_6_w, ↓s11_7_w, ↓s11_21_w, ↓r11_22_w, ↓s11_23_w, ↓s11_24_w, ↓r11_25_w, ↓s11_26_w, ↓s11_27_w, ↓s11_28_w, ↓s11_29_w, ↓r11_30_w, ↓s11_31_w, brK_true, ne_eq, Nat.reduceEqDiff, not_false_eq_true, ↓e23, ↓e22, ↓e7, ↓e0]))
      refine ⟨ps - (p + 1), by omega, p + 1, by omega, rfl, by simp [T.get_set, wrap_succ (show p ≤ 4611686018427387904 by omega)], fun t ht h6 h8 => ?_, by rw [e]; exact oa.of (by simp [T.get_set]), X⟩
      rw [← hfr t ht h6 h8]; simp only [T.get_set]; repeat' (first | rfl | (rw [if_neg (by omega)]))
    · have e : rowL ps vs p (k + 1) = rowL ps vs p k ++ List.replicate vs (startD p k) := by rw [rowL_succ, cellL, if_neg hskip]
      have w1 : max (vs : Int) 0 = vs := by omega
      by_cases hpk : p = k
      · have h1 : ps = 1 := by omega
        repeat' (first | done | with_reducible (first | refine y1 ?_ (by omega) | refine y2 ?_ (by omega) | refine y3 (fun _ => ?_) (fun _ => ?_) | refine y4 ?_ (by omega) (by omega) | refine y5 ?_ (by omega) | refine y6 ?_ (by with_unfolding_all rfl) | refine y7 ?_ (by with_unfolding_all rfl) | refine y8 ?_ (by with_unfolding_all rfl) | refine y9 ?_ (by with_unfolding_all rfl) | refine ya ?_ (by with_unfolding_all rfl)) | (simp -dsimp only [↓cw_skip, ↓cw_ops, ↓cw_seq, ↓cw_block, ↓cw_cond, ↓seqK_normal, ↓getK_same, ↓getK_ne, ↓evK_tmp, ↓evK_int, ↓condV_var, ↓gdV_var, ↓opsW_nil, ↓opsW_d, ↓opsW_gd, ↓opW_move, ↓opW_assign, ↓opW_pick, ↓opW_bin, ↓bin_eql, ↓bin_lss, ↓bin_gtr, ↓opW_max, ↓max_int, ↓r11_19_w, ↓s11_20_w, ↓s11_21_w, ↓r11_22_w, ↓s11_23_w, ↓s11_24_w, ↓r11_25_w, ↓s11_26_w, ↓s11_27_w, ↓s11_28_w, ↓s11_29_w, ↓r11_30_w, ↓s11_31_w, brK_true, brK_false, ne_eq, Nat.reduceEqDiff, not_false_eq_true, Bool.false_eq_true,  ↓e23, ↓e22, ↓e7, ↓e0, ↓e1, w1]))
        refine wPhase (p := p) (v := k) (vs := vs) (L := L ++ rowL ps vs p k) (by omega) hvs (by rw [List.length_append]; omega) (oa.of (by simp [T.get_set])) (by simp only [T.get_set]; simpa using (hfr 7 (by decide) (by decide) (by decide)).trans g7) (by simp [T.get_set]) (by simp [T.get_set]) (by simp [T.get_set]) fun fr3 h3 f3 o3 x3 => ?_
        have k23 := getK_of ((f3 23 (by decide) (by decide)).trans (by simp only [T.get_set]; simpa using f23))
        rw [List.append_assoc, ← e] at o3
        repeat' (first | done | with_reducible (first | refine y1 ?_ (by omega) | refine y2 ?_ (by omega) | refine y3 (fun _ => ?_) (fun _ => ?_) | refine y4 ?_ (by omega) (by omega) | refine y5 ?_ (by omega) | refine y6 ?_ (by with_unfolding_all rfl) | refine y7 ?_ (by with_unfolding_all rfl) | refine y8 ?_ (by with_unfolding_all rfl) | refine y9 ?_ (by with_unfolding_all rfl) | refine ya ?_ (by with_unfolding_all rfl)) | (simp -dsimp only [↓cw_ops, ↓seqK_normal, ↓blockK_normal, ↓loopK_normal, ↓getK_same, ↓evK_tmp, ↓evK_int, ↓opsW_nil, ↓opsW_d, ↓opW_move, ↓opW_bin, ↓bin_add, ↓r11_6_w, ↓s11_7_w, ↓k23]))
        refine ⟨ps - (k + 1), by omega, k + 1, by omega, rfl, by simp [T.get_set, wrap_succ (show k ≤ 4611686018427387904 by omega)], fun t ht h6 h8 => ?_, o3.of (by simp [T.get_set]), X.trans x3⟩
        rw [← hfr t ht h6 h8]
        have := f3 t (by omega) h6
        simp only [T.get_set] at this ⊢
        rw [if_neg (by omega), if_neg (by omega), this]
        repeat' (first | rfl | (rw [if_neg (by omega)]))
      · repeat' (first | done | with_reducible (first | refine y1 ?_ (by omega) | refine y2 ?_ (by omega) | refine y3 (fun _ => ?_) (fun _ => ?_) | refine y4 ?_ (by omega) (by omega) | refine y5 ?_ (by omega) | refine y6 ?_ (by with_unfolding_all rfl) | refine y7 ?_ (by with_unfolding_all rfl) | refine y8 ?_ (by with_unfolding_all rfl) | refine y9 ?_ (by with_unfolding_all rfl) | refine ya ?_ (by with_unfolding_all rfl)) | (simp -dsimp only [↓cw_skip, ↓cw_ops, ↓cw_seq, ↓cw_block, ↓cw_cond, ↓seqK_normal, ↓getK_same, ↓getK_ne, ↓evK_tmp, ↓evK_int, ↓evK_bool, ↓condV_var, ↓gdV_var, ↓opsW_nil, ↓opsW_d, ↓opsW_gd, ↓opW_move, ↓opW_assign, ↓opW_pick, ↓opW_bin, ↓bin_eql, ↓bin_lss, ↓opW_max, ↓max_int, ↓r11_19_w, ↓s11_20_w, ↓s11_21_w, ↓r11_22_w, ↓s11_23_w, ↓s11_24_w, ↓r11_25_w, ↓s11_26_w, ↓s11_27_w, ↓s11_28_w, ↓s11_29_w, ↓r11_30_w, ↓s11_31_w, brK_true, brK_false, ne_eq, Nat.reduceEqDiff, not_false_eq_true, Bool.false_eq_true,  ↓e23, ↓e22, ↓e7, ↓e1, w1]))
        refine wPhase (p := p) (v := k) (vs := vs) (L := L ++ rowL ps vs p k) (by omega) hvs (by rw [List.length_append]; omega) (oa.of (by simp [T.get_set])) (by simp only [T.get_set]; simpa using (hfr 7 (by decide) (by decide) (by decide)).trans g7) (by simp [T.get_set]) (by simp [T.get_set]) (by simp [T.get_set]) fun fr3 h3 f3 o3 x3 => ?_
        have k23 := getK_of ((f3 23 (by decide) (by decide)).trans (by simp only [T.get_set]; simpa using f23))
        rw [List.append_assoc, ← e] at o3
        repeat' (first | done | with_reducible (first | refine y1 ?_ (by omega) | refine y2 ?_ (by omega) | refine y3 (fun _ => ?_) (fun _ => ?_) | refine y4 ?_ (by omega) (by omega) | refine y5 ?_ (by omega) | refine y6 ?_ (by with_unfolding_all rfl) | refine y7 ?_ (by with_unfolding_all rfl) | refine y8 ?_ (by with_unfolding_all rfl) | refine y9 ?_ (by with_unfolding_all rfl) | refine ya ?_ (by with_unfolding_all rfl)) | (simp -dsimp only [↓cw_ops, ↓seqK_normal, ↓blockK_normal, ↓loopK_normal, ↓getK_same, ↓evK_tmp, ↓evK_int, ↓opsW_nil, ↓opsW_d, ↓opW_move, ↓opW_bin, ↓bin_add, ↓r11_6_w, ↓s11_7_w, ↓k23]))
        refine ⟨ps - (k + 1), by omega, k + 1, by omega, rfl, by simp [T.get_set, wrap_succ (show k ≤ 4611686018427387904 by omega)], fun t ht h6 h8 => ?_, o3.of (by simp [T.get_set]), X.trans x3⟩
        rw [← hfr t ht h6 h8]
        have := f3 t (by omega) h6
        simp only [T.get_set] at this ⊢
        rw [if_neg (by omega), if_neg (by omega), this]
        repeat' (first | rfl | (rw [if_neg (by omega)]))
  · have e : k = ps := by omega
    subst e
    repeat' (first | done | with_reducible (first | refine y1 ?_ (by omega) | refine y2 ?_ (by omega) | refine y3 (fun _ => ?_) (fun _ => ?_) | refine y4 ?_ (by omega) (by omega) | refine y5 ?_ (by omega) | refine y6 ?_ (by with_unfolding_all rfl) | refine y7 ?_ (by with_unfolding_all rfl) | refine y8 ?_ (by with_unfolding_all rfl) | refine y9 ?_ (by with_unfolding_all rfl) | refine ya ?_ (by with_unfolding_all rfl)) | (simp -dsimp only [↓cw_ops, ↓cw_seq, ↓cw_exit, ↓cw_cond, ↓seqK_normal, ↓seqK_exit, ↓blockK_same, ↓loopK_exit, ↓getK_same, ↓evK_tmp, ↓condV_var, ↓opsW_nil, ↓opsW_d, ↓opW_bin, ↓bin_lss, ↓s11_28_w, ↓s11_29_w, ↓r11_30_w, ↓s11_31_w, brK_false, Bool.false_eq_true,  ↓e23, ↓e22]))
    refine hK _ h' (fun t ht h6 h8 => ?_) (oa.of (by simp [T.get_set])) X
    rw [← hfr t ht h6 h8]; simp only [T.get_set]; repeat' (first | rfl | (rw [if_neg (by omega)]))
end Go.Proofs.Ytdjnedamphifcaa

namespace Go.Proofs.Ytdjnedamphifcaa
open Go.Ev
set_option maxRecDepth 100000
set_option maxHeartbeats 400000
theorem prPhase {B ps vs : Nat} {fr : Fr} {h : Heap} {Kr : Ex → Fr → Heap → Prop} {L : List ActD} (hB : B ≤ h.n) (hvs : vs ≤ 4) (hps : ps ≤ 8) (hL : L.length + 400 ≤ 100000) (o : OA B h fr L)
    (g0 : fr.get 0 = some (.int .i64 ps)) (g1 : fr.get 1 = some (.int .i64 vs)) (g18 : fr.get 18 = some (.int .i64 ps)) (g19 : fr.get 19 = some (.int .i64 (0 : Int)))
    (hK : ∀ fr' h', (∀ t, t < 13 → t ≠ 6 → t ≠ 7 → t ≠ 8 → fr'.get t = fr.get t) → OA B h' fr' (L ++ rowsL ps vs ps) → ExtB B h h' → Kr .normal fr' h') : s11_44.wp env 48 none fr h Kr := by
  repeat' (first | done | with_reducible (first | refine y1 ?_ (by omega) | refine y2 ?_ (by omega) | refine y3 (fun _ => ?_) (fun _ => ?_) | refine y4 ?_ (by omega) (by omega) | refine y5 ?_ (by omega) | refine y6 ?_ (by with_unfolding_all rfl) | refine y7 ?_ (by with_unfolding_all rfl) | refine y8 ?_ (by with_unfolding_all rfl) | refine y9 ?_ (by with_unfolding_all rfl) | refine ya ?_ (by with_unfolding_all rfl)) | (simp -dsimp only [↓cw_block, ↓s11_43_w, ↓s11_44_w]))
  refine cw_loopI (fun n fr' h' => ∃ k : Nat, k ≤ ps ∧ n = ps - k ∧ fr'.get 19 = some (.int .i64 k) ∧ (∀ t, t < 13 → t ≠ 6 → t ≠ 7 → t ≠ 8 → fr'.get t = fr.get t) ∧ OA B h' fr' (L ++ rowsL ps vs k) ∧ ExtB B h h') ps ?_ (by omega) ?_
  · exact ⟨0, by omega, by omega, by simpa using g19, fun _ _ _ _ _ => rfl, by simpa [rowsL] using o, ExtB.refl _ _⟩
  rintro n fr2 h' ⟨k, hk, rfl, f19, hfr, oa, X⟩ hag
  have e19 := getK_of f19
  have f18 := (hag 18 rfl).trans g18
  have e18 := getK_of f18
  have f0 := (hfr 0 (by decide) (by decide) (by decide) (by decide)).trans g0
  have f1 := (hfr 1 (by decide) (by decide) (by decide) (by decide)).trans g1
  have e0 := getK_of f0
  have e1 := getK_of f1
  have hn := X.n
  have hrl := rowsL_len ps vs k
  have hkv : k * (ps * vs) ≤ 256 := by
    have h1 : ps * vs ≤ 8 * 4 := Nat.mul_le_mul hps hvs
    have : k * (ps * vs) ≤ 8 * 32 := Nat.mul_le_mul (by omega) (by omega)
    omega
  by_cases hlt : k < ps
  · have e := rowsL_succ ps vs k
    repeat' (first | done | with_reducible (first | refine y1 ?_ (by omega) | refine y2 ?_ (by omega) | refine y3 (fun _ => ?_) (fun _ => ?_) | refine y4 ?_ (by omega) (by omega) | refine y5 ?_ (by omega) | refine y6 ?_ (by with_unfolding_all rfl) | refine y7 ?_ (by with_unfolding_all rfl) | refine y8 ?_ (by with_unfolding_all rfl) | refine y9 ?_ (by with_unfolding_all rfl) | refine ya ?_ (by with_unfolding_all rfl)) | (simp -dsimp only [↓cw_skip, ↓cw_ops, ↓cw_seq, ↓cw_block, ↓cw_cond, ↓seqK_normal, ↓getK_same, ↓getK_ne, ↓evK_tmp, ↓evK_int, ↓condV_var, ↓opsW_nil, ↓opsW_d, ↓opW_move, ↓opW_assign, ↓opW_bin, ↓bin_lss, ↓r11_34_w, ↓s11_35_w, ↓r11_36_w, ↓s11_37_w, ↓s11_38_w, ↓s11_39_w, ↓s11_40_w, ↓r11_41_w, ↓s11_42_w, brK_true, ne_eq, Nat.reduceEqDiff, not_false_eq_true, ↓e19, ↓e18, ↓e0]))
    refine vrPhase (p := k) (vs := vs) (ps := ps) (L := L ++ rowsL ps vs k) (by omega) hvs hps (by rw [List.length_append]; omega) (oa.of (by simp [T.get_set])) (by simp only [T.get_set]; simpa using f0) (by simp only [T.get_set]; simpa using f1) (by simp [T.get_set]) (by simp [T.get_set]) (by simp [T.get_set]) fun fr3 h3 f3 o3 x3 => ?_
    have k19 := getK_of ((f3 19 (by decide) (by decide) (by decide)).trans (by simp only [T.get_set]; simpa using f19))
    rw [List.append_assoc, ← e] at o3
    repeat' (first | done | with_reducible (first | refine y1 ?_ (by omega) | refine y2 ?_ (by omega) | refine y3 (fun _ => ?_) (fun _ => ?_) | refine y4 ?_ (by omega) (by omega) | refine y5 ?_ (by omega) | refine y6 ?_ (by with_unfolding_all rfl) | refine y7 ?_ (by with_unfolding_all rfl) | refine y8 ?_ (by with_unfolding_all rfl) | refine y9 ?_ (by with_unfolding_all rfl) | refine ya ?_ (by with_unfolding_all rfl)) | (simp -dsimp only [↓cw_ops, ↓seqK_normal, ↓blockK_normal, ↓loopK_normal, ↓getK_same, ↓evK_tmp, ↓evK_int, ↓opsW_nil, ↓opsW_d, ↓opW_move, ↓opW_bin, ↓bin_add, ↓r11_4_w, ↓s11_5_w, ↓k19]))
    refine ⟨ps - (k + 1), by omega, k + 1, by omega, rfl, by simp [T.get_set, wrap_succ (show k ≤ 4611686018427387904 by omega)], fun t ht h6 h7 h8 => ?_, o3.of (by simp [T.get_set]), X.trans x3⟩
    rw [← hfr t ht h6 h7 h8]
    have := f3 t (by omega) h6 h8
    simp only [T.get_set] at this ⊢
    rw [if_neg (by omega), if_neg (by omega), this]
    repeat' (first | rfl | (rw [if_neg (by omega)]))
  · have e : k = ps := by omega
    subst e
    repeat' (first | done | with_reducible (first | refine y1 ?_ (by omega) | refine y2 ?_ (by omega) | refine y3 (fun _ => ?_) (fun _ => ?_) | refine y4 ?_ (by omega) (by omega) | refine y5 ?_ (by omega) | refine y6 ?_ (by with_unfolding_all rfl) | refine y7 ?_ (by with_unfolding_all rfl) | refine y8 ?_ (by with_unfolding_all rfl) | refine y9 ?_ (by with_unfolding_all rfl) | refine ya ?_ (by with_unfolding_all rfl)) | (simp -dsimp only [↓cw_ops, ↓cw_seq, ↓cw_exit, ↓cw_cond, ↓seqK_normal, ↓seqK_exit, ↓blockK_same, ↓loopK_exit, ↓getK_same, ↓evK_tmp, ↓condV_var, ↓opsW_nil, ↓opsW_d, ↓opW_bin, ↓bin_lss, ↓s11_39_w, ↓s11_40_w, ↓r11_41_w, ↓s11_42_w, brK_false, Bool.false_eq_true,  ↓e19, ↓e18]))
    refine hK _ h' (fun t ht h6 h7 h8 => ?_) (oa.of (by simp [T.get_set])) X
    rw [← hfr t ht h6 h7 h8]; simp only [T.get_set]; repeat' (first | rfl | (rw [if_neg (by omega)]))
theorem roundsL_len (ps vs n : Nat) : (roundsL ps vs n).length ≤ n * (1 + ps * (ps * vs)) := by
  induction n with
  | zero => simp [roundsL]
  | succ n ih =>
    rw [roundsL_succ, List.length_append, Nat.add_mul, Nat.one_mul]
    have := rowsL_len ps vs ps
    have : (roundL ps vs).length = (rowsL ps vs ps).length + 1 := rfl
    omega
theorem rounds_ret {ps vs n : Nat} {h : Heap} {K : Value → Heap → Prop} (hps : ps ≤ 8) (hvs : vs ≤ 4) (hn : n ≤ 20)
    (hK : ∀ v h', OwnS h.n h' 52 v (roundsL ps vs n).length (actsF (roundsL ps vs n)) → ExtB h.n h h' → K v h') : Ret env (.func 11) [.int .i64 ps, .int .i64 vs, .int .i64 n] h K := by
  have w1 : max (n : Int) 0 = n := by omega
  have w2 : max (ps : Int) 0 = ps := by omega
  refine F11 rfl ?_
  repeat' (first | done | with_reducible (first | refine y1 ?_ (by omega) | refine y2 ?_ (by omega) | refine y3 (fun _ => ?_) (fun _ => ?_) | refine y4 ?_ (by omega) (by omega) | refine y5 ?_ (by omega) | refine y6 ?_ (by with_unfolding_all rfl) | refine y7 ?_ (by with_unfolding_all rfl) | refine y8 ?_ (by with_unfolding_all rfl) | refine y9 ?_ (by with_unfolding_all rfl) | refine ya ?_ (by with_unfolding_all rfl)) | (simp -dsimp only [↓cw_ops, ↓cw_seq, ↓cw_block, ↓seqK_normal, ↓getK_same, ↓getK_ne, ↓evK_tmp, ↓evK_int, ↓evK_nilslice, ↓opsW_nil, ↓opsW_d, ↓opW_move, ↓opW_assign, ↓setAll_cons, ↓setAll_nil, ↓opW_max, ↓max_int, ↓s11_54_w, ↓s11_55_w, ↓r11_56_w, ↓s11_57_w, ↓s11_58_w, ↓r11_59_w, ↓s11_60_w, ne_eq, Nat.reduceEqDiff, Nat.reduceAdd, not_false_eq_true, w1]))
  refine cw_loopI (fun m fr' h' => ∃ k : Nat, k ≤ n ∧ m = n - k ∧ fr'.get 11 = some (.int .i64 k) ∧ OA h.n h' fr' (roundsL ps vs k) ∧ ExtB h.n h h') n ?_ (by omega) ?_
  · exact ⟨0, by omega, by omega, by simp [T.get_set], ⟨.slice none 0 0, by simp [T.get_set], .nil⟩, ExtB.refl _ _⟩
  rintro m fr2 h' ⟨k, hk, rfl, f11, ⟨u, f6, own⟩, X⟩ hag
  have e11 := getK_of f11
  have f10 : fr2.get 10 = some (.int .i64 n) := (hag 10 rfl).trans (by simp [T.get_set])
  have e10 := getK_of f10
  have f0 : fr2.get 0 = some (.int .i64 ps) := (hag 0 rfl).trans (by simp [T.get_set])
  have f1 : fr2.get 1 = some (.int .i64 vs) := (hag 1 rfl).trans (by simp [T.get_set])
  have e0 := getK_of f0
  have e1 := getK_of f1
  have e6 := getK_of f6
  have hn' := X.n
  have hrl := roundsL_len ps vs k
  have hkv : k * (1 + ps * (ps * vs)) ≤ 20 * 257 := Nat.mul_le_mul (by omega) (by
    have h1 : ps * vs ≤ 8 * 4 := Nat.mul_le_mul hps hvs
    have : ps * (ps * vs) ≤ 8 * 32 := Nat.mul_le_mul (by omega) (by omega)
    omega)
  by_cases hlt : k < n
  · have e := roundsL_succ ps vs k
    repeat' (first | done | with_reducible (first | refine y1 ?_ (by omega) | refine y2 ?_ (by omega) | refine y3 (fun _ => ?_) (fun _ => ?_) | refine y4 ?_ (by omega) (by omega) | refine y5 ?_ (by omega) | refine y6 ?_ (by with_unfolding_all rfl) | refine y7 ?_ (by with_unfolding_all rfl) | refine y8 ?_ (by with_unfolding_all rfl) | refine y9 ?_ (by with_unfolding_all rfl) | refine ya ?_ (by with_unfolding_all rfl)) | (simp -dsimp only [↓cw_skip, ↓cw_ops, ↓cw_seq, ↓cw_block, ↓cw_cond, ↓seqK_normal, ↓getK_same, ↓getK_ne, ↓evK_tmp, ↓evK_int, ↓condV_var, ↓opsW_nil, ↓opsW_d, ↓opW_move, ↓opW_bin, ↓bin_lss, ↓evp_nil, ↓evp_cons, ↓bd_52, ↓bsl_26_1, ↓ap_26_26, ↓r11_47_w, ↓s11_48_w, ↓s11_49_w, ↓s11_50_w, ↓s11_51_w, ↓r11_52_w, ↓s11_53_w, brK_true, ne_eq, Nat.reduceEqDiff, not_false_eq_true, ↓e11, ↓e10, ↓e6]))
    refine app_one own hn' (actsF_len _) (by omega) rfl rfl (by decide) rfl fun v' h2 o2 x2 => ?_
    have o3 : OwnS h.n h2 52 v' (roundsL ps vs k ++ [tickD]).length (actsF (roundsL ps vs k ++ [tickD])) := by
      rw [actsF_append, actsF_one, List.length_append]; exact o2
    have hn2 := x2.n
    repeat' (first | done | with_reducible (first | refine y1 ?_ (by omega) | refine y2 ?_ (by omega) | refine y3 (fun _ => ?_) (fun _ => ?_) | refine y4 ?_ (by omega) (by omega) | refine y5 ?_ (by omega) | refine y6 ?_ (by with_unfolding_all rfl) | refine y7 ?_ (by with_unfolding_all rfl) | refine y8 ?_ (by with_unfolding_all rfl) | refine y9 ?_ (by with_unfolding_all rfl) | refine ya ?_ (by with_unfolding_all rfl)) | (simp -dsimp only [↓cw_ops, ↓cw_seq, ↓seqK_normal, ↓getK_same, ↓getK_ne, ↓evK_tmp, ↓evK_int, ↓opsW_nil, ↓opsW_d, ↓opW_move, ↓opW_assign, ↓opW_max, ↓max_int, ↓r11_45_w, ↓s11_46_w, ne_eq, Nat.reduceEqDiff, not_false_eq_true, ↓e0, w2]))
    refine prPhase (vs := vs) (ps := ps) (L := roundsL ps vs k ++ [tickD]) (by omega) hvs hps (by rw [List.length_append]; simp; omega) ⟨v', by simp [T.get_set], o3⟩ (by simp only [T.get_set]; simpa using f0) (by simp only [T.get_set]; simpa using f1) (by simp [T.get_set]) (by simp [T.get_set]) fun fr3 h3 f3 o3 x3 => ?_
    have k11 := getK_of ((f3 11 (by decide) (by decide) (by decide) (by decide)).trans (by simp only [T.get_set]; simpa using f11))
    rw [List.append_assoc, List.singleton_append, ← roundL, ← e] at o3
    repeat' (first | done | with_reducible (first | refine y1 ?_ (by omega) | refine y2 ?_ (by omega) | refine y3 (fun _ => ?_) (fun _ => ?_) | refine y4 ?_ (by omega) (by omega) | refine y5 ?_ (by omega) | refine y6 ?_ (by with_unfolding_all rfl) | refine y7 ?_ (by with_unfolding_all rfl) | refine y8 ?_ (by with_unfolding_all rfl) | refine y9 ?_ (by with_unfolding_all rfl) | refine ya ?_ (by with_unfolding_all rfl)) | (simp -dsimp only [↓cw_ops, ↓seqK_normal, ↓blockK_normal, ↓loopK_normal, ↓getK_same, ↓evK_tmp, ↓evK_int, ↓opsW_nil, ↓opsW_d, ↓opW_move, ↓opW_bin, ↓bin_add, ↓r11_2_w, ↓s11_3_w, ↓k11]))
    exact ⟨n - (k + 1), by omega, k + 1, by omega, rfl, by simp [T.get_set, wrap_succ (show k ≤ 4611686018427387904 by omega)], o3.of (by simp [T.get_set]), (X.trans x2).trans x3⟩
  · have e : k = n := by omega
    subst e
    repeat' (first | done | with_reducible (first | refine y1 ?_ (by omega) | refine y2 ?_ (by omega) | refine y3 (fun _ => ?_) (fun _ => ?_) | refine y4 ?_ (by omega) (by omega) | refine y5 ?_ (by omega) | refine y6 ?_ (by with_unfolding_all rfl) | refine y7 ?_ (by with_unfolding_all rfl) | refine y8 ?_ (by with_unfolding_all rfl) | refine y9 ?_ (by with_unfolding_all rfl) | refine ya ?_ (by with_unfolding_all rfl)) | (simp -dsimp only [↓cw_ops, ↓cw_seq, ↓cw_exit, ↓cw_ret, ↓cw_cond, ↓seqK_normal, ↓seqK_exit, ↓blockK_same, ↓loopK_exit, ↓getK_same, ↓getK_ne, ↓evK_tmp, ↓condV_var, ↓opsW_nil, ↓opsW_d, ↓opW_move, ↓opW_assign, ↓opW_bin, ↓bin_lss, ↓resK_one, ↓r11_0_w, ↓s11_1_w, ↓s11_50_w, ↓s11_51_w, ↓r11_52_w, ↓s11_53_w, brK_false, ne_eq, Nat.reduceEqDiff, not_false_eq_true, Bool.false_eq_true,  ↓e11, ↓e10, ↓e6]))
    exact hK _ h' own X
end Go.Proofs.Ytdjnedamphifcaa

namespace Go.Proofs.Ytdjnedamphifcaa
open Go.Ev
set_option maxRecDepth 100000
set_option maxHeartbeats 400000
/-! rounds are fair -/
def oth (ps : Nat) : Nat := if ps = 1 then 1 else ps * (ps - 1)
theorem cellL_len' (ps vs p v : Nat) : (cellL ps vs p v).length = if p = v ∧ 1 < ps then 0 else vs := by
  unfold cellL; split <;> simp
theorem rowL_len' (ps vs p m : Nat) : (rowL ps vs p m).length = (if 1 < ps ∧ p < m then m - 1 else m) * vs := by
  induction m with
  | zero => simp [rowL]
  | succ m ih =>
    rw [rowL_succ, List.length_append, ih, cellL_len']
    by_cases h1 : 1 < ps
    · by_cases h2 : p < m
      · rw [if_pos ⟨h1, h2⟩, if_neg (by omega), if_pos ⟨h1, by omega⟩]
        obtain ⟨q, rfl⟩ : ∃ q, m = q + 1 := ⟨m - 1, by omega⟩
        simp only [Nat.add_sub_cancel, Nat.add_mul, Nat.one_mul]
      · by_cases h3 : p = m
        · subst h3
          rw [if_neg (by omega), if_pos ⟨rfl, h1⟩, if_pos ⟨h1, by omega⟩]; simp
        · rw [if_neg (by omega), if_neg (by omega), if_neg (by omega), Nat.add_mul, Nat.one_mul]
    · rw [if_neg (by omega), if_neg (by omega), if_neg (by omega), Nat.add_mul, Nat.one_mul]
theorem rowsL_len' (ps vs m : Nat) (hm : m ≤ ps) : (rowsL ps vs m).length = m * ((if 1 < ps then ps - 1 else ps) * vs) := by
  induction m with
  | zero => simp [rowsL]
  | succ m ih =>
    rw [rowsL_succ, List.length_append, ih (by omega), rowL_len', Nat.add_mul, Nat.one_mul]
    congr 2
    by_cases h1 : 1 < ps
    · rw [if_pos h1, if_pos ⟨h1, by omega⟩]
    · rw [if_neg h1, if_neg (by omega)]
theorem roundL_len' {ps : Nat} (vs : Nat) (h : 1 ≤ ps) : (roundL ps vs).length = 1 + oth ps * vs := by
  have : (roundL ps vs).length = (rowsL ps vs ps).length + 1 := rfl
  rw [this, rowsL_len' ps vs ps (Nat.le_refl _)]
  unfold oth
  by_cases h1 : ps = 1
  · subst h1; simp; omega
  · rw [if_pos (by omega), if_neg h1, Nat.mul_assoc]; omega
theorem roundsL_len' {ps : Nat} (vs n : Nat) (h : 1 ≤ ps) : (roundsL ps vs n).length = n * (1 + oth ps * vs) := by
  induction n with
  | zero => simp [roundsL]
  | succ n ih => rw [roundsL_succ, List.length_append, ih, roundL_len' vs h, Nat.add_mul, Nat.one_mul]
theorem again_get (ps vs : Nat) : ∀ (n i : Nat), i < n * (roundL ps vs).length → (roundsL ps vs n)[i]? = (roundL ps vs)[i % (roundL ps vs).length]? := by
  intro n
  induction n with
  | zero => intro i h; simp at h
  | succ n ih =>
    intro i h
    have hl : (roundsL ps vs n).length = n * (roundL ps vs).length := by
      clear ih h
      induction n with
      | zero => simp [roundsL]
      | succ n ih => rw [roundsL_succ, List.length_append, ih, Nat.add_mul, Nat.one_mul]
    rw [roundsL_succ]
    by_cases hi : i < n * (roundL ps vs).length
    · rw [List.getElem?_append_left (by omega), ih i hi]
    · rw [List.getElem?_append_right (by omega), hl]
      rw [Nat.add_mul, Nat.one_mul] at h
      congr 1
      obtain ⟨j, rfl⟩ : ∃ j, i = n * (roundL ps vs).length + j := ⟨i - n * (roundL ps vs).length, by omega⟩
      rw [Nat.add_sub_cancel_left, Nat.mul_comm n, Nat.mul_add_mod, Nat.mod_eq_of_lt (by omega)]
theorem win_mem {ps vs n i : Nat} {x : ActD} (hi : i + (roundL ps vs).length ≤ n * (roundL ps vs).length) (hx : x ∈ roundL ps vs) : x ∈ win (roundsL ps vs n) i (roundL ps vs).length := by
  obtain ⟨q, hq, rfl⟩ := List.getElem_of_mem hx
  have hd := Nat.div_add_mod i (roundL ps vs).length
  have hr : i % (roundL ps vs).length < (roundL ps vs).length := Nat.mod_lt _ (by omega)
  obtain ⟨j, hj, hjm⟩ : ∃ j, j < (roundL ps vs).length ∧ (i + j) % (roundL ps vs).length = q := by
    by_cases hle : i % (roundL ps vs).length ≤ q
    · refine ⟨q - i % (roundL ps vs).length, by omega, ?_⟩
      rw [show i + (q - i % (roundL ps vs).length) = (roundL ps vs).length * (i / (roundL ps vs).length) + q by omega, Nat.mul_add_mod, Nat.mod_eq_of_lt hq]
    · refine ⟨(roundL ps vs).length + q - i % (roundL ps vs).length, by omega, ?_⟩
      rw [show i + ((roundL ps vs).length + q - i % (roundL ps vs).length) = (roundL ps vs).length * (i / (roundL ps vs).length) + ((roundL ps vs).length + q) by omega, Nat.mul_add_mod, Nat.add_mod_left, Nat.mod_eq_of_lt hq]
  have hg := again_get ps vs n (i + j) (by omega)
  rw [hjm, List.getElem?_eq_getElem hq] at hg
  refine List.mem_of_getElem? (i := j) ?_
  unfold win
  rw [List.getElem?_take_of_lt hj, List.getElem?_drop]
  exact hg
theorem hasL_mem {W : List ActD} {x : ActD} {p v : Int} (hx : x ∈ W) (h : hit x p v) : hasL W p v = true := by
  simp only [hasL, List.any_eq_true, decide_eq_true_eq]; exact ⟨x, hx, h⟩
theorem start_mem {ps vs p v : Nat} (hp : p < ps) (hv : v < ps) (hvs : 0 < vs) (h : p ≠ v ∨ ps = 1) : startD p v ∈ roundL ps vs := by
  refine List.mem_cons_of_mem _ ?_
  simp only [rowsL, rowL, List.mem_flatMap, List.mem_range]
  refine ⟨p, hp, v, hv, ?_⟩
  unfold cellL
  rw [if_neg (by omega)]
  simp; omega
theorem rounds_fair {ps vs : Nat} (n : Nat) (hp : 1 ≤ ps) (hvs : 0 < vs) : IsP ps ((1 + oth ps * vs : Nat) : Int) (roundsL ps vs n) := by
  have hl := roundL_len' vs hp
  refine ⟨by omega, fun i hi => ?_⟩
  rw [roundsL_len' vs n hp] at hi
  simp only [Int.toNat_natCast] at hi ⊢
  rw [← hl] at hi ⊢
  refine ⟨hasL_mem (win_mem hi (List.mem_cons_self ..)) (by unfold hit tickD; simp), fun h1 => ?_, fun p hp' v hv hne => ?_⟩
  · exact hasL_mem (x := startD 0 0) (win_mem hi (start_mem (by omega) (by omega) hvs (.inr h1))) (by unfold hit startD; simp)
  · exact hasL_mem (win_mem hi (start_mem hp' hv hvs (.inl hne))) (by unfold hit startD; simp)
end Go.Proofs.Ytdjnedamphifcaa

