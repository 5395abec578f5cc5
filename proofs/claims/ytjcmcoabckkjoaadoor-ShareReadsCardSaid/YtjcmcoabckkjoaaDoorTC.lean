/- The library's math, walked; share.Of of a number's text. -/
import Derived.Test.YtjcmcoabckkjoaaDoorLU
import Derived.Lib.AtoiTie
set_option linter.unusedSimpArgs false
set_option linter.unusedVariables false
namespace Go.Proofs.YtjcmcoabckkjoaaDoor.Li
open Go.Ev
set_option maxRecDepth 100000
set_option maxHeartbeats 400000
section
variable {E : Env} {t : TypeId} {c : Bool} {k : IntKind} {a b : Int} {K : Value → Prop}
theorem bin_andnot : binK E .andNot t c (.int k a) (.int k b) K = K (.int k (k.wrap (BitVec.ofInt k.bits a &&& ~~~BitVec.ofInt k.bits b).toNat)) := by simp [binK, abin]
end
theorem clear_sign {r : Nat} (hr : r < 18446744073709551616) : IntKind.wrap .u64 ((BitVec.ofInt IntKind.u64.bits (r : Int) &&& ~~~BitVec.ofInt IntKind.u64.bits 9223372036854775808).toNat : Int) = ((rungN r : Nat) : Int) := by
  have h1 : (BitVec.ofInt IntKind.u64.bits (r : Int) &&& ~~~BitVec.ofInt IntKind.u64.bits 9223372036854775808).toNat = r % 9223372036854775808 := by
    show (BitVec.ofInt 64 (r : Int) &&& ~~~BitVec.ofInt 64 9223372036854775808).toNat = _
    rw [show ~~~BitVec.ofInt 64 9223372036854775808 = BitVec.ofNat 64 9223372036854775807 by decide, BitVec.toNat_and, BitVec.ofInt_natCast, BitVec.toNat_ofNat, BitVec.toNat_ofNat, Nat.mod_eq_of_lt (by omega), Nat.mod_eq_of_lt (by omega)]
    exact Nat.and_two_pow_sub_one_eq_mod r 63
  rw [h1]; exact wrap_u64 (by omega) (by omega)
theorem clear_exp {r : Nat} (hr : r < 9223372036854775808) : IntKind.wrap .u64 ((BitVec.ofInt IntKind.u64.bits (r : Int) &&& ~~~BitVec.ofInt IntKind.u64.bits 9218868437227405312).toNat : Int) = ((r % 4503599627370496 : Nat) : Int) := by
  have h1 : (BitVec.ofInt IntKind.u64.bits (r : Int) &&& ~~~BitVec.ofInt IntKind.u64.bits 9218868437227405312).toNat = r % 4503599627370496 := by
    show (BitVec.ofInt 64 (r : Int) &&& ~~~BitVec.ofInt 64 9218868437227405312).toNat = _
    have e : ~~~BitVec.ofInt 64 9218868437227405312 = BitVec.ofNat 64 9223372036854775808 ||| BitVec.ofNat 64 4503599627370495 := by decide
    rw [e, BitVec.and_or_distrib_left, BitVec.toNat_or, BitVec.toNat_and, BitVec.toNat_and, BitVec.ofInt_natCast, BitVec.toNat_ofNat, BitVec.toNat_ofNat, BitVec.toNat_ofNat, Nat.mod_eq_of_lt (by omega), Nat.mod_eq_of_lt (by omega), Nat.mod_eq_of_lt (by omega)]
    have h2 := Nat.and_two_pow_sub_one_eq_mod r 52
    rw [show (2 : Nat) ^ 52 - 1 = 4503599627370495 from rfl, show (2 : Nat) ^ 52 = 4503599627370496 from rfl] at h2
    have h3 : r &&& 9223372036854775808 = 0 := by
      apply Nat.eq_of_testBit_eq
      intro i
      rw [Nat.testBit_and, Nat.zero_testBit, show (9223372036854775808 : Nat) = 2 ^ 63 from rfl, Nat.testBit_two_pow]
      by_cases hi : 63 = i
      · subst hi; rw [Nat.testBit_lt_two_pow hr]; rfl
      · simp [hi]
    rw [h2, h3, Nat.zero_or]
  rw [h1]; exact wrap_u64 (by omega) (by omega)
theorem or_field {a f : Nat} (ha : a < 4503599627370496) (hf : f < 2048) : IntKind.wrap .u64 ((BitVec.ofInt IntKind.u64.bits (a : Int) ||| BitVec.ofInt IntKind.u64.bits ((f * 4503599627370496 : Nat) : Int)).toNat : Int) = ((f * 4503599627370496 + a : Nat) : Int) := by
  have h1 : (BitVec.ofInt IntKind.u64.bits (a : Int) ||| BitVec.ofInt IntKind.u64.bits ((f * 4503599627370496 : Nat) : Int)).toNat = f * 4503599627370496 + a := by
    show (BitVec.ofInt 64 (a : Int) ||| BitVec.ofInt 64 ((f * 4503599627370496 : Nat) : Int)).toNat = _
    rw [BitVec.toNat_or, BitVec.ofInt_natCast, BitVec.ofInt_natCast, BitVec.toNat_ofNat, BitVec.toNat_ofNat, Nat.mod_eq_of_lt (by omega), Nat.mod_eq_of_lt (by omega), Nat.or_comm]
    have := Nat.shiftLeft_add_eq_or_of_lt (i := 52) (show a < 2 ^ 52 from ha) f
    rw [Nat.shiftLeft_eq, show (2 : Nat) ^ 52 = 4503599627370496 from rfl] at this
    exact this.symm
  rw [h1]; exact wrap_u64 (by omega) (by omega)
/-! math -/
theorem nanf_ret {h : Heap} {K : Value → Heap → Prop} (hK : K (.float .f64 9221120237041090561) h) : Ret env (.func 48) [] h K := by
  refine F48 rfl ?_
  repeat' (first | done | with_reducible (first | refine y1 ?_ (by omega) | refine y2 ?_ (by omega) | refine y3 (fun _ => ?_) (fun _ => ?_) | refine y4 ?_ (by omega) (by omega) | refine y5 ?_ (by omega) | refine y6 ?_ (by with_unfolding_all rfl) | refine y7 ?_ (by with_unfolding_all rfl) | refine y8 ?_ (by with_unfolding_all rfl) | refine y9 ?_ (by with_unfolding_all rfl) | refine ya ?_ (by with_unfolding_all rfl)) | (simp -dsimp only [↓cw_ops, ↓cw_seq, ↓seqK_normal, ↓evK_int, ↓evK_float, ↓opsW_nil, ↓opsW_d, ↓opW_assign, ↓evs_nil, ↓evs_cons, ↓opW_call, ↓r48_0_w, ↓s48_1_w, ↓r48_2_w, ↓s48_3_w]))
  refine from_u ?_
  repeat' (first | done | with_reducible (first | refine y1 ?_ (by omega) | refine y2 ?_ (by omega) | refine y3 (fun _ => ?_) (fun _ => ?_) | refine y4 ?_ (by omega) (by omega) | refine y5 ?_ (by omega) | refine y6 ?_ (by with_unfolding_all rfl) | refine y7 ?_ (by with_unfolding_all rfl) | refine y8 ?_ (by with_unfolding_all rfl) | refine y9 ?_ (by with_unfolding_all rfl) | refine ya ?_ (by with_unfolding_all rfl)) | (simp -dsimp only [↓cw_ret, ↓seqK_normal, ↓getK_same, ↓evK_tmp, ↓opsW_nil, ↓opsW_d, ↓opW_assign, ↓resK_one]))
  exact hK
theorem inf_ret {h : Heap} {K : Value → Heap → Prop} (hK : K (.float .f64 9218868437227405312) h) : Ret env (.func 38) [.int .i64 1] h K := by
  refine F38 rfl ?_
  repeat' (first | done | with_reducible (first | refine y1 ?_ (by omega) | refine y2 ?_ (by omega) | refine y3 (fun _ => ?_) (fun _ => ?_) | refine y4 ?_ (by omega) (by omega) | refine y5 ?_ (by omega) | refine y6 ?_ (by with_unfolding_all rfl) | refine y7 ?_ (by with_unfolding_all rfl) | refine y8 ?_ (by with_unfolding_all rfl) | refine y9 ?_ (by with_unfolding_all rfl) | refine ya ?_ (by with_unfolding_all rfl)) | (simp -dsimp only [↓cw_ops, ↓cw_seq, ↓cw_cond, ↓seqK_normal, ↓getK_same, ↓getK_ne, ↓evK_tmp, ↓evK_int, ↓evK_float, ↓condV_var, ↓opsW_nil, ↓opsW_d, ↓opW_move, ↓opW_assign, ↓opW_bin, ↓bin_geq, ↓evs_nil, ↓evs_cons, ↓opW_call, ↓setAll_cons, ↓setAll_nil, ↓r38_0_w, ↓s38_1_w, ↓r38_2_w, ↓s38_3_w, ↓s38_6_w, ↓r38_7_w, ↓s38_8_w, ↓s38_9_w, ↓r38_10_w, ↓s38_11_w, ↓r38_12_w, ↓s38_13_w, brK_true, ne_eq, Nat.reduceEqDiff, not_false_eq_true]))
  refine from_u ?_
  repeat' (first | done | with_reducible (first | refine y1 ?_ (by omega) | refine y2 ?_ (by omega) | refine y3 (fun _ => ?_) (fun _ => ?_) | refine y4 ?_ (by omega) (by omega) | refine y5 ?_ (by omega) | refine y6 ?_ (by with_unfolding_all rfl) | refine y7 ?_ (by with_unfolding_all rfl) | refine y8 ?_ (by with_unfolding_all rfl) | refine y9 ?_ (by with_unfolding_all rfl) | refine ya ?_ (by with_unfolding_all rfl)) | (simp -dsimp only [↓cw_ret, ↓seqK_normal, ↓getK_same, ↓evK_tmp, ↓opsW_nil, ↓opsW_d, ↓opW_assign, ↓resK_one]))
  exact hK
theorem ninf_ret {h : Heap} {K : Value → Heap → Prop} (hK : K (.float .f64 18442240474082181120) h) : Ret env (.func 38) [.int .i64 (-1)] h K := by
  refine F38 rfl ?_
  repeat' (first | done | with_reducible (first | refine y1 ?_ (by omega) | refine y2 ?_ (by omega) | refine y3 (fun _ => ?_) (fun _ => ?_) | refine y4 ?_ (by omega) (by omega) | refine y5 ?_ (by omega) | refine y6 ?_ (by with_unfolding_all rfl) | refine y7 ?_ (by with_unfolding_all rfl) | refine y8 ?_ (by with_unfolding_all rfl) | refine y9 ?_ (by with_unfolding_all rfl) | refine ya ?_ (by with_unfolding_all rfl)) | (simp -dsimp only [↓cw_ops, ↓cw_seq, ↓cw_cond, ↓seqK_normal, ↓getK_same, ↓getK_ne, ↓evK_tmp, ↓evK_int, ↓evK_float, ↓condV_var, ↓opsW_nil, ↓opsW_d, ↓opW_move, ↓opW_assign, ↓opW_bin, ↓bin_geq, ↓evs_nil, ↓evs_cons, ↓opW_call, ↓setAll_cons, ↓setAll_nil, ↓r38_0_w, ↓s38_1_w, ↓r38_4_w, ↓s38_5_w, ↓s38_6_w, ↓r38_7_w, ↓s38_8_w, ↓s38_9_w, ↓r38_10_w, ↓s38_11_w, ↓r38_12_w, ↓s38_13_w, brK_false, ne_eq, Nat.reduceEqDiff, not_false_eq_true, Bool.false_eq_true]))
  refine from_u ?_
  repeat' (first | done | with_reducible (first | refine y1 ?_ (by omega) | refine y2 ?_ (by omega) | refine y3 (fun _ => ?_) (fun _ => ?_) | refine y4 ?_ (by omega) (by omega) | refine y5 ?_ (by omega) | refine y6 ?_ (by with_unfolding_all rfl) | refine y7 ?_ (by with_unfolding_all rfl) | refine y8 ?_ (by with_unfolding_all rfl) | refine y9 ?_ (by with_unfolding_all rfl) | refine ya ?_ (by with_unfolding_all rfl)) | (simp -dsimp only [↓cw_ret, ↓seqK_normal, ↓getK_same, ↓evK_tmp, ↓opsW_nil, ↓opsW_d, ↓opW_assign, ↓resK_one]))
  exact hK
theorem czero_ret {h : Heap} {K : Value → Heap → Prop} (hK : K (.float .f64 9223372036854775808) h) : Ret env (.func 39) [.float .f64 0, .float .f64 13830554455654793216] h K := by
  refine F39 rfl ?_
  have w1 : IntKind.wrap .u64 ((BitVec.ofInt IntKind.u64.bits ((0 : Nat) : Int) &&& ~~~BitVec.ofInt IntKind.u64.bits 9223372036854775808).toNat : Int) = 0 := by decide
  have w2 : IntKind.wrap .u64 ((BitVec.ofInt IntKind.u64.bits ((13830554455654793216 : Nat) : Int) &&& BitVec.ofInt IntKind.u64.bits 9223372036854775808).toNat : Int) = 9223372036854775808 := by decide
  have w3 : IntKind.wrap .u64 ((BitVec.ofInt IntKind.u64.bits 0 ||| BitVec.ofInt IntKind.u64.bits 9223372036854775808).toNat : Int) = 9223372036854775808 := by decide
  repeat' (first | done | with_reducible (first | refine y1 ?_ (by omega) | refine y2 ?_ (by omega) | refine y3 (fun _ => ?_) (fun _ => ?_) | refine y4 ?_ (by omega) (by omega) | refine y5 ?_ (by omega) | refine y6 ?_ (by with_unfolding_all rfl) | refine y7 ?_ (by with_unfolding_all rfl) | refine y8 ?_ (by with_unfolding_all rfl) | refine y9 ?_ (by with_unfolding_all rfl) | refine ya ?_ (by with_unfolding_all rfl)) | (simp -dsimp only [↓cw_ops, ↓cw_seq, ↓seqK_normal, ↓getK_same, ↓getK_ne, ↓evK_tmp, ↓evK_float, ↓opsW_nil, ↓opsW_d, ↓opW_move, ↓opW_assign, ↓evs_nil, ↓evs_cons, ↓opW_call, ↓setAll_cons, ↓setAll_nil, ↓r39_0_w, ↓s39_1_w, ↓r39_2_w, ↓s39_3_w, ne_eq, Nat.reduceEqDiff, Nat.reduceAdd, not_false_eq_true, Nat.one_ne_zero]))
  refine bits_fl ?_
  repeat' (first | done | with_reducible (first | refine y1 ?_ (by omega) | refine y2 ?_ (by omega) | refine y3 (fun _ => ?_) (fun _ => ?_) | refine y4 ?_ (by omega) (by omega) | refine y5 ?_ (by omega) | refine y6 ?_ (by with_unfolding_all rfl) | refine y7 ?_ (by with_unfolding_all rfl) | refine y8 ?_ (by with_unfolding_all rfl) | refine y9 ?_ (by with_unfolding_all rfl) | refine ya ?_ (by with_unfolding_all rfl)) | (simp -dsimp only [↓getK_same, ↓getK_ne, ↓evK_tmp, ↓evK_int, ↓opsW_d, ↓opW_move, ↓opW_bin, ↓evs_nil, ↓evs_cons, ↓opW_call, ↓setAll_cons, ↓setAll_nil, ne_eq, Nat.reduceEqDiff, Nat.reduceAdd, not_false_eq_true, bin_andnot]))
  rw [w1]
  refine bits_fl ?_
  repeat' (first | done | with_reducible (first | refine y1 ?_ (by omega) | refine y2 ?_ (by omega) | refine y3 (fun _ => ?_) (fun _ => ?_) | refine y4 ?_ (by omega) (by omega) | refine y5 ?_ (by omega) | refine y6 ?_ (by with_unfolding_all rfl) | refine y7 ?_ (by with_unfolding_all rfl) | refine y8 ?_ (by with_unfolding_all rfl) | refine y9 ?_ (by with_unfolding_all rfl) | refine ya ?_ (by with_unfolding_all rfl)) | (simp -dsimp only [↓getK_same, ↓getK_ne, ↓evK_tmp, ↓evK_int, ↓opsW_d, ↓opW_bin, ↓evs_nil, ↓evs_cons, ↓opW_call, ↓bin_and, ne_eq, Nat.reduceEqDiff, not_false_eq_true, bin_or]))
  rw [w2, w3]
  refine from_u ?_
  repeat' (first | done | with_reducible (first | refine y1 ?_ (by omega) | refine y2 ?_ (by omega) | refine y3 (fun _ => ?_) (fun _ => ?_) | refine y4 ?_ (by omega) (by omega) | refine y5 ?_ (by omega) | refine y6 ?_ (by with_unfolding_all rfl) | refine y7 ?_ (by with_unfolding_all rfl) | refine y8 ?_ (by with_unfolding_all rfl) | refine y9 ?_ (by with_unfolding_all rfl) | refine ya ?_ (by with_unfolding_all rfl)) | (simp -dsimp only [↓cw_ret, ↓seqK_normal, ↓getK_same, ↓evK_tmp, ↓opsW_nil, ↓opsW_d, ↓opW_assign, ↓resK_one]))
  exact hK
theorem abs_ret {n : Nat} {h : Heap} {K : Value → Heap → Prop} (hn : n < 18446744073709551616) (hK : K (.float .f64 (rungN n)) h) : Ret env (.func 90) [.float .f64 n] h K := by
  refine F90 rfl ?_
  repeat' (first | done | with_reducible (first | refine y1 ?_ (by omega) | refine y2 ?_ (by omega) | refine y3 (fun _ => ?_) (fun _ => ?_) | refine y4 ?_ (by omega) (by omega) | refine y5 ?_ (by omega) | refine y6 ?_ (by with_unfolding_all rfl) | refine y7 ?_ (by with_unfolding_all rfl) | refine y8 ?_ (by with_unfolding_all rfl) | refine y9 ?_ (by with_unfolding_all rfl) | refine ya ?_ (by with_unfolding_all rfl)) | (simp -dsimp only [↓cw_ops, ↓cw_seq, ↓seqK_normal, ↓getK_same, ↓getK_ne, ↓evK_tmp, ↓evK_float, ↓opsW_nil, ↓opsW_d, ↓opW_move, ↓opW_assign, ↓evs_nil, ↓evs_cons, ↓opW_call, ↓setAll_cons, ↓setAll_nil, ↓r90_0_w, ↓s90_1_w, ↓r90_2_w, ↓s90_3_w, ne_eq, Nat.reduceEqDiff, not_false_eq_true]))
  refine bits_fl ?_
  repeat' (first | done | with_reducible (first | refine y1 ?_ (by omega) | refine y2 ?_ (by omega) | refine y3 (fun _ => ?_) (fun _ => ?_) | refine y4 ?_ (by omega) (by omega) | refine y5 ?_ (by omega) | refine y6 ?_ (by with_unfolding_all rfl) | refine y7 ?_ (by with_unfolding_all rfl) | refine y8 ?_ (by with_unfolding_all rfl) | refine y9 ?_ (by with_unfolding_all rfl) | refine ya ?_ (by with_unfolding_all rfl)) | (simp -dsimp only [↓getK_same, ↓evK_tmp, ↓evK_int, ↓opsW_d, ↓opW_bin, ↓evs_nil, ↓evs_cons, ↓opW_call, bin_andnot]))
  rw [clear_sign hn]
  refine from_u ?_
  repeat' (first | done | with_reducible (first | refine y1 ?_ (by omega) | refine y2 ?_ (by omega) | refine y3 (fun _ => ?_) (fun _ => ?_) | refine y4 ?_ (by omega) (by omega) | refine y5 ?_ (by omega) | refine y6 ?_ (by with_unfolding_all rfl) | refine y7 ?_ (by with_unfolding_all rfl) | refine y8 ?_ (by with_unfolding_all rfl) | refine y9 ?_ (by with_unfolding_all rfl) | refine ya ?_ (by with_unfolding_all rfl)) | (simp -dsimp only [↓cw_ret, ↓seqK_normal, ↓getK_same, ↓evK_tmp, ↓opsW_nil, ↓opsW_d, ↓opW_assign, ↓resK_one, Int.toNat_natCast]))
  exact hK
theorem isInf_no {n : Nat} {h : Heap} {K : Value → Heap → Prop} (hn : n < 18446744073709551616) (hr : rungN n ≠ 9218868437227405312) (hK : K (.bool false) h) : Ret env (.func 71) [.float .f64 n, .int .i64 0] h K := by
  refine F71 rfl ?_
  have hlt : rungN n < 18446744073709551616 := by unfold rungN; omega
  have e := ord_max hlt
  rw [decide_eq_false hr] at e
  repeat' (first | done | with_reducible (first | refine y1 ?_ (by omega) | refine y2 ?_ (by omega) | refine y3 (fun _ => ?_) (fun _ => ?_) | refine y4 ?_ (by omega) (by omega) | refine y5 ?_ (by omega) | refine y6 ?_ (by with_unfolding_all rfl) | refine y7 ?_ (by with_unfolding_all rfl) | refine y8 ?_ (by with_unfolding_all rfl) | refine y9 ?_ (by with_unfolding_all rfl) | refine ya ?_ (by with_unfolding_all rfl)) | (simp -dsimp only [↓cw_ops, ↓cw_seq, ↓cw_cond, ↓seqK_normal, ↓getK_same, ↓getK_ne, ↓evK_tmp, ↓evK_int, ↓evK_bool, ↓condV_var, ↓opsW_nil, ↓opsW_d, ↓opW_move, ↓opW_assign, ↓opW_bin, ↓bin_eql, ↓evs_nil, ↓evs_cons, ↓opW_call, ↓setAll_cons, ↓setAll_nil, ↓r71_2_w, ↓s71_3_w, ↓s71_9_w, ↓r71_10_w, ↓s71_11_w, ↓s71_12_w, ↓r71_13_w, ↓s71_14_w, brK_true, ne_eq, Nat.reduceEqDiff, Nat.reduceAdd, not_false_eq_true, Nat.one_ne_zero]))
  refine abs_ret hn ?_
  repeat' (first | done | with_reducible (first | refine y1 ?_ (by omega) | refine y2 ?_ (by omega) | refine y3 (fun _ => ?_) (fun _ => ?_) | refine y4 ?_ (by omega) (by omega) | refine y5 ?_ (by omega) | refine y6 ?_ (by with_unfolding_all rfl) | refine y7 ?_ (by with_unfolding_all rfl) | refine y8 ?_ (by with_unfolding_all rfl) | refine y9 ?_ (by with_unfolding_all rfl) | refine ya ?_ (by with_unfolding_all rfl)) | (simp -dsimp only [↓cw_ops, ↓cw_seq, ↓cw_ret, ↓seqK_normal, ↓getK_same, ↓evK_tmp, ↓evK_float, ↓opsW_nil, ↓opsW_d, ↓opW_move, ↓opW_assign, ↓opW_bin, ↓resK_one, ↓r71_0_w, ↓s71_1_w, bin_gtrF, e]))
  exact hK
end Go.Proofs.YtjcmcoabckkjoaaDoor.Li

namespace Go.Proofs.YtjcmcoabckkjoaaDoor.Li
open Go.Ev
set_option maxRecDepth 100000
set_option maxHeartbeats 400000
theorem ord_small {M e : Nat} (h1 : 4503599627370496 ≤ M) (h2 : M < 9007199254740992) (h0 : 1 ≤ e) (he : e ≤ 2045) : (Ieee.double.order (e * 4503599627370496 + M) 4503599627370496 == some .lt) = false := by
  have hy := read_at (M := 4503599627370496) (e := 0) (by decide) (by decide) (by decide)
  rw [Nat.zero_mul, Nat.zero_add] at hy
  unfold Ieee.Format.order
  rw [read_at h1 h2 he, hy]
  have hb : min ((e : Int) - 1074) (((0 : Nat) : Int) - 1074) = -1074 := by omega
  simp only [Ieee.Datum.order, hb]
  have s1 : ((e : Int) - 1074 - -1074).toNat = e := by omega
  have s2 : (((0 : Nat) : Int) - 1074 - -1074).toNat = 0 := by omega
  rw [s1, s2, signed_up]
  have hs : Ieee.signed false M e = ((M * 2 ^ e : Nat) : Int) := by simp [Ieee.signed, Nat.shiftLeft_eq]
  have hge : M * 2 ≤ M * 2 ^ e := Nat.mul_le_mul_left _ (by
    calc 2 = 2 ^ 1 := rfl
      _ ≤ 2 ^ e := Nat.pow_le_pow_right (by decide) h0)
  rw [hs, if_neg (by decide), cmp_gt (by omega)]
  rfl
theorem norm_ret {M e : Nat} {h : Heap} {K : Value → Heap → Prop} (h1 : 4503599627370496 ≤ M) (h2 : M < 9007199254740992) (h0 : 1 ≤ e) (he : e ≤ 2045) (hK : K (.tuple #[.float .f64 (e * 4503599627370496 + M), .int .i64 0]) h) : Ret env (.func 100) [.float .f64 (e * 4503599627370496 + M)] h K := by
  refine F100 rfl ?_
  have hr : rungN (e * 4503599627370496 + M) = e * 4503599627370496 + M := by unfold rungN; omega
  have o := ord_small h1 h2 h0 he
  repeat' (first | done | with_reducible (first | refine y1 ?_ (by omega) | refine y2 ?_ (by omega) | refine y3 (fun _ => ?_) (fun _ => ?_) | refine y4 ?_ (by omega) (by omega) | refine y5 ?_ (by omega) | refine y6 ?_ (by with_unfolding_all rfl) | refine y7 ?_ (by with_unfolding_all rfl) | refine y8 ?_ (by with_unfolding_all rfl) | refine y9 ?_ (by with_unfolding_all rfl) | refine ya ?_ (by with_unfolding_all rfl)) | (simp -dsimp only [↓cw_ops, ↓cw_seq, ↓seqK_normal, ↓getK_same, ↓getK_ne, ↓evK_tmp, ↓evK_int, ↓evK_float, ↓opsW_nil, ↓opsW_d, ↓opW_move, ↓opW_assign, ↓evs_nil, ↓evs_cons, ↓opW_call, ↓setAll_cons, ↓setAll_nil, ↓r100_5_w, ↓s100_6_w, ↓s100_7_w, ↓r100_8_w, ↓s100_9_w, ne_eq, Nat.reduceEqDiff, not_false_eq_true]))
  refine abs_ret (by omega) ?_
  rw [hr]
  repeat' (first | done | with_reducible (first | refine y1 ?_ (by omega) | refine y2 ?_ (by omega) | refine y3 (fun _ => ?_) (fun _ => ?_) | refine y4 ?_ (by omega) (by omega) | refine y5 ?_ (by omega) | refine y6 ?_ (by with_unfolding_all rfl) | refine y7 ?_ (by with_unfolding_all rfl) | refine y8 ?_ (by with_unfolding_all rfl) | refine y9 ?_ (by with_unfolding_all rfl) | refine ya ?_ (by with_unfolding_all rfl)) | (simp -dsimp only [↓cw_skip, ↓cw_ops, ↓cw_seq, ↓cw_ret, ↓cw_cond, ↓seqK_normal, ↓getK_same, ↓getK_ne, ↓evK_tmp, ↓evK_int, ↓evK_float, ↓condV_var, ↓opsW_nil, ↓opsW_d, ↓opW_move, ↓opW_assign, ↓opW_bin, ↓resK_two, ↓setAll_cons, ↓setAll_nil, ↓r100_0_w, ↓s100_1_w, ↓s100_4_w, brK_false, ne_eq, Nat.reduceEqDiff, not_false_eq_true, Bool.false_eq_true,  bin_lssF, o]))
  exact hK
theorem pw52 : (2 : Int) ^ min (52 : Int).toNat IntKind.u64.bits = 4503599627370496 := by decide
theorem shr52 {x : Nat} : (x : Int).fdiv (2 ^ min (52 : Int).toNat IntKind.u64.bits) = ((x / 4503599627370496 : Nat) : Int) := fdiv_pow x 52 (by decide)
theorem and2047 {x : Nat} (hx : x < 2048) : IntKind.wrap .i64 ((BitVec.ofInt IntKind.i64.bits (x : Int) &&& BitVec.ofInt IntKind.i64.bits 2047).toNat : Int) = (x : Int) := by
  have h1 : (BitVec.ofInt IntKind.i64.bits (x : Int) &&& BitVec.ofInt IntKind.i64.bits 2047).toNat = x := by
    show (BitVec.ofInt 64 (x : Int) &&& BitVec.ofInt 64 ((2047 : Nat) : Int)).toNat = _
    rw [BitVec.toNat_and, BitVec.ofInt_natCast, BitVec.ofInt_natCast, BitVec.toNat_ofNat, BitVec.toNat_ofNat, Nat.mod_eq_of_lt (by omega), Nat.mod_eq_of_lt (by omega)]
    have := Nat.and_two_pow_sub_one_eq_mod x 11
    rw [show (2 : Nat) ^ 11 - 1 = 2047 from rfl] at this
    rw [this]; omega
  rw [h1]; exact wrap_i64 (by omega) (by omega)
theorem shl52 {F : Nat} (hF : F < 2047) : IntKind.wrap .u64 ((F : Int) * 2 ^ min (52 : Int).toNat IntKind.u64.bits) = ((F * 4503599627370496 : Nat) : Int) := by
  rw [pw52, wrap_u64 (by omega) (by omega)]; omega
end Go.Proofs.YtjcmcoabckkjoaaDoor.Li

namespace Go.Proofs.YtjcmcoabckkjoaaDoor.Li
open Go.Ev
set_option maxRecDepth 100000
set_option maxHeartbeats 400000
theorem ldexp_walk {L M : Nat} {k : Int} {h : Heap} {K : Value → Heap → Prop} (hL : L ≤ 52) (g1 : 4503599627370496 ≤ M) (g2 : M < 9007199254740992) (hk1 : -1074 ≤ k) (hk2 : k ≤ 1100) (hhi : k + (L : Int) ≤ 1023)
    (ha : k + (L : Int) < -1022 → K (fA .mul (.float .f64 4368491638549381120) (.float .f64 ((k + (L : Int) + 1075).toNat * 4503599627370496 + M))) h)
    (hb : ¬ k + (L : Int) < -1022 → K (fA .mul (.float .f64 4607182418800017408) (.float .f64 ((k + (L : Int) + 1022).toNat * 4503599627370496 + M))) h) :
    Ret env (.func 79) [.float .f64 ((L + 1022) * 4503599627370496 + M), .int .i64 k] h K := by
  have hlt : (L + 1022) * 4503599627370496 + M < 9223372036854775808 := by omega
  have hn : negN ((L + 1022) * 4503599627370496 + M) = false := by unfold negN; exact decide_eq_false (by omega)
  have hr : rungN ((L + 1022) * 4503599627370496 + M) = (L + 1022) * 4503599627370496 + M := by unfold rungN; omega
  have hnan : isNan ((L + 1022) * 4503599627370496 + M) = false := by rw [isNan_iff, hr]; exact decide_eq_false (by omega)
  have e0 : (Ieee.double.order ((L + 1022) * 4503599627370496 + M) 0 == some .eq) = false := by
    rw [ord_zero (by omega), hnan, hr, hn, if_neg (by decide), if_neg (by omega), if_neg (by decide)]; rfl
  have q1 : ((L + 1022) * 4503599627370496 + M) / 4503599627370496 = L + 1023 := by omega
  have q2 : ((L + 1022) * 4503599627370496 + M) % 4503599627370496 = M - 4503599627370496 := by omega
  have w1 : IntKind.wrap .i64 (k + 0) = k := by rw [Int.add_zero]; exact wrap_i64 (by omega) (by omega)
  have w3 : IntKind.wrap .u64 ((L + 1023 : Nat) : Int) = ((L + 1023 : Nat) : Int) := wrap_u64 (by omega) (by omega)
  have w4 : IntKind.wrap .i64 ((L + 1023 : Nat) : Int) = ((L + 1023 : Nat) : Int) := wrap_i64 (by omega) (by omega)
  have w6 : IntKind.wrap .i64 (((L + 1023 : Nat) : Int) - 1023) = (L : Int) := by rw [wrap_i64 (by omega) (by omega)]; omega
  have w7 : IntKind.wrap .i64 (k + (L : Int)) = k + (L : Int) := wrap_i64 (by omega) (by omega)
  refine F79 rfl ?_
  repeat' (first | done | with_reducible (first | refine y1 ?_ (by omega) | refine y2 ?_ (by omega) | refine y3 (fun _ => ?_) (fun _ => ?_) | refine y4 ?_ (by omega) (by omega) | refine y5 ?_ (by omega) | refine y6 ?_ (by with_unfolding_all rfl) | refine y7 ?_ (by with_unfolding_all rfl) | refine y8 ?_ (by with_unfolding_all rfl) | refine y9 ?_ (by with_unfolding_all rfl) | refine ya ?_ (by with_unfolding_all rfl)) | (simp -dsimp only [↓cw_ops, ↓cw_seq, ↓cw_block, ↓cw_cond, ↓seqK_normal, ↓getK_same, ↓getK_ne, ↓evK_tmp, ↓evK_int, ↓evK_float, ↓condV_var, ↓opsW_nil, ↓opsW_d, ↓opW_move, ↓opW_assign, ↓opW_bin, ↓evs_nil, ↓evs_cons, ↓opW_call, ↓setAll_cons, ↓setAll_nil, ↓r79_47_w, ↓s79_48_w, ↓s79_49_w, ↓r79_50_w, ↓s79_51_w, ↓s79_52_w, ↓r79_53_w, ↓s79_54_w, brK_false, ne_eq, Nat.reduceEqDiff, Nat.reduceAdd, not_false_eq_true, Nat.one_ne_zero, Bool.false_eq_true,  bin_eqlF, e0]))
  refine isInf_no (by omega) (by rw [hr]; omega) ?_
  repeat' (first | done | with_reducible (first | refine y1 ?_ (by omega) | refine y2 ?_ (by omega) | refine y3 (fun _ => ?_) (fun _ => ?_) | refine y4 ?_ (by omega) (by omega) | refine y5 ?_ (by omega) | refine y6 ?_ (by with_unfolding_all rfl) | refine y7 ?_ (by with_unfolding_all rfl) | refine y8 ?_ (by with_unfolding_all rfl) | refine y9 ?_ (by with_unfolding_all rfl) | refine ya ?_ (by with_unfolding_all rfl)) | (simp -dsimp only [↓getK_same, ↓getK_ne, ↓evK_tmp, ↓gdV_var, ↓opsW_d, ↓opsW_gd, ↓opW_move, ↓evs_nil, ↓evs_cons, ↓opW_call, ↓setAll_cons, ↓setAll_nil, brK_true, ne_eq, Nat.reduceEqDiff, Nat.reduceAdd, not_false_eq_true, Nat.one_ne_zero]))
  refine isNaN_ret (by omega) ?_
  rw [hnan]
  repeat' (first | done | with_reducible (first | refine y1 ?_ (by omega) | refine y2 ?_ (by omega) | refine y3 (fun _ => ?_) (fun _ => ?_) | refine y4 ?_ (by omega) (by omega) | refine y5 ?_ (by omega) | refine y6 ?_ (by with_unfolding_all rfl) | refine y7 ?_ (by with_unfolding_all rfl) | refine y8 ?_ (by with_unfolding_all rfl) | refine y9 ?_ (by with_unfolding_all rfl) | refine ya ?_ (by with_unfolding_all rfl)) | (simp -dsimp only [↓cw_skip, ↓cw_ops, ↓cw_seq, ↓cw_cond, ↓seqK_normal, ↓blockK_normal, ↓getK_same, ↓getK_ne, ↓evK_tmp, ↓condV_var, ↓opsW_nil, ↓opsW_d, ↓opW_move, ↓opW_assign, ↓opW_pick, ↓evs_nil, ↓evs_cons, ↓opW_call, ↓setAll_cons, ↓setAll_nil, ↓r79_40_w, ↓s79_41_w, ↓s79_46_w, brK_false, ne_eq, Nat.reduceEqDiff, Nat.reduceAdd, not_false_eq_true, Nat.one_ne_zero, Bool.false_eq_true]))
  refine norm_ret g1 g2 (by omega) (by omega) ?_
  repeat' (first | done | with_reducible (first | refine y1 ?_ (by omega) | refine y2 ?_ (by omega) | refine y3 (fun _ => ?_) (fun _ => ?_) | refine y4 ?_ (by omega) (by omega) | refine y5 ?_ (by omega) | refine y6 ?_ (by with_unfolding_all rfl) | refine y7 ?_ (by with_unfolding_all rfl) | refine y8 ?_ (by with_unfolding_all rfl) | refine y9 ?_ (by with_unfolding_all rfl) | refine ya ?_ (by with_unfolding_all rfl)) | (simp -dsimp only [↓cw_ops, ↓cw_seq, ↓seqK_normal, ↓getK_same, ↓getK_ne, ↓evK_tmp, ↓opsW_nil, ↓opsW_d, ↓opW_move, ↓opW_assign, ↓opW_bin, ↓bin_add, ↓evs_nil, ↓evs_cons, ↓opW_call, ↓setAll_cons, ↓setAll_nil, ↓opW_extract, ↓ext_tuple, ↓r79_36_w, ↓s79_37_w, ↓r79_38_w, ↓s79_39_w, List.getElem?_cons_zero, List.getElem?_cons_succ, onV_some', ne_eq, Nat.reduceEqDiff, Nat.reduceAdd, not_false_eq_true, Nat.one_ne_zero, Nat.zero_ne_one]))
  refine bits_fl ?_
  by_cases hd : k + (L : Int) < -1022
  · have ha := ha hd
    clear hb
    obtain ⟨F, hF⟩ : ∃ F : Nat, (k + (L : Int) + 1075).toNat = F := ⟨_, rfl⟩
    have w9 : IntKind.wrap .i64 (k + (L : Int) + 53) = k + (L : Int) + 53 := wrap_i64 (by omega) (by omega)
    have w10 : IntKind.wrap .i64 (k + (L : Int) + 53 + 1023) = ((F + 1 : Nat) : Int) := by rw [wrap_i64 (by omega) (by omega)]; omega
    have w11 : IntKind.wrap .u64 ((F + 1 : Nat) : Int) = ((F + 1 : Nat) : Int) := wrap_u64 (by omega) (by omega)
    have q3 : (F + 1) * 4503599627370496 + (M - 4503599627370496) = F * 4503599627370496 + M := by omega
    have s1 := shl52 (F := F + 1) (by omega)
    have s2 := or_field (a := M - 4503599627370496) (f := F + 1) (by omega) (by omega)
    have s3 := clear_exp hlt
    have s4 := and2047 (x := L + 1023) (by omega)
    rw [hF] at ha
    rw [q2] at s3
    repeat' (first | done | with_reducible (first | refine y1 ?_ (by omega) | refine y2 ?_ (by omega) | refine y3 (fun _ => ?_) (fun _ => ?_) | refine y4 ?_ (by omega) (by omega) | refine y5 ?_ (by omega) | refine y6 ?_ (by with_unfolding_all rfl) | refine y7 ?_ (by with_unfolding_all rfl) | refine y8 ?_ (by with_unfolding_all rfl) | refine y9 ?_ (by with_unfolding_all rfl) | refine ya ?_ (by with_unfolding_all rfl)) | (simp -dsimp only [↓cw_skip, ↓cw_ops, ↓cw_seq, ↓cw_cond, ↓seqK_normal, ↓getK_same, ↓getK_ne, ↓evK_tmp, ↓evK_int, ↓evK_float, ↓condV_var, ↓opsW_nil, ↓opsW_d, ↓opW_move, ↓opW_assign, ↓opW_bin, ↓bin_add, ↓bin_sub, ↓bin_shl, ↓bin_shr, ↓bin_lss, ↓bin_gtr, ↓evs_nil, ↓evs_cons, ↓opW_call, ↓cint_int, ↓bin_and, ↓cv_23_3, ↓cv_3_23, ↓r79_0_w, ↓s79_1_w, ↓r79_2_w, ↓s79_3_w, ↓r79_4_w, ↓s79_5_w, ↓r79_6_w, ↓s79_7_w, ↓r79_8_w, ↓s79_9_w, ↓s79_10_w, ↓r79_11_w, ↓s79_12_w, ↓s79_13_w, ↓r79_14_w, ↓s79_15_w, ↓s79_24_w, ↓r79_25_w, ↓s79_26_w, ↓s79_27_w, ↓s79_30_w, ↓r79_31_w, ↓s79_32_w, ↓s79_33_w, ↓r79_34_w, ↓s79_35_w, brK_true, brK_false, ne_eq, Nat.reduceEqDiff, not_false_eq_true, Bool.false_eq_true,  w1, w4, w6, w7, w9, w10, w11, shr52, q1, s1, s2, s3, s4, bin_and, bin_or, bin_andnot]))
    refine from_u ?_
    rw [q3]
    repeat' (first | done | with_reducible (first | refine y1 ?_ (by omega) | refine y2 ?_ (by omega) | refine y3 (fun _ => ?_) (fun _ => ?_) | refine y4 ?_ (by omega) (by omega) | refine y5 ?_ (by omega) | refine y6 ?_ (by with_unfolding_all rfl) | refine y7 ?_ (by with_unfolding_all rfl) | refine y8 ?_ (by with_unfolding_all rfl) | refine y9 ?_ (by with_unfolding_all rfl) | refine ya ?_ (by with_unfolding_all rfl)) | (simp -dsimp only [↓cw_ret, ↓seqK_normal, ↓getK_same, ↓getK_ne, ↓evK_tmp, ↓opsW_nil, ↓opsW_d, ↓opW_assign, ↓opW_bin, ↓resK_one, ↓bin_mulF, ↓isF_float, ne_eq, Nat.reduceEqDiff, not_false_eq_true, Int.toNat_natCast]))
    exact ha
  · have hb := hb hd
    clear ha
    obtain ⟨F, hF⟩ : ∃ F : Nat, (k + (L : Int) + 1022).toNat = F := ⟨_, rfl⟩
    have w10 : IntKind.wrap .i64 (k + (L : Int) + 1023) = ((F + 1 : Nat) : Int) := by rw [wrap_i64 (by omega) (by omega)]; omega
    have w11 : IntKind.wrap .u64 ((F + 1 : Nat) : Int) = ((F + 1 : Nat) : Int) := wrap_u64 (by omega) (by omega)
    have q3 : (F + 1) * 4503599627370496 + (M - 4503599627370496) = F * 4503599627370496 + M := by omega
    have s1 := shl52 (F := F + 1) (by omega)
    have s2 := or_field (a := M - 4503599627370496) (f := F + 1) (by omega) (by omega)
    have s3 := clear_exp hlt
    have s4 := and2047 (x := L + 1023) (by omega)
    rw [hF] at hb
    rw [q2] at s3
    repeat' (first | done | with_reducible (first | refine y1 ?_ (by omega) | refine y2 ?_ (by omega) | refine y3 (fun _ => ?_) (fun _ => ?_) | refine y4 ?_ (by omega) (by omega) | refine y5 ?_ (by omega) | refine y6 ?_ (by with_unfolding_all rfl) | refine y7 ?_ (by with_unfolding_all rfl) | refine y8 ?_ (by with_unfolding_all rfl) | refine y9 ?_ (by with_unfolding_all rfl) | refine ya ?_ (by with_unfolding_all rfl)) | (simp -dsimp only [↓cw_skip, ↓cw_ops, ↓cw_seq, ↓cw_cond, ↓seqK_normal, ↓getK_same, ↓getK_ne, ↓evK_tmp, ↓evK_int, ↓evK_float, ↓condV_var, ↓opsW_nil, ↓opsW_d, ↓opW_move, ↓opW_assign, ↓opW_bin, ↓bin_add, ↓bin_sub, ↓bin_shl, ↓bin_shr, ↓bin_lss, ↓bin_gtr, ↓evs_nil, ↓evs_cons, ↓opW_call, ↓cint_int, ↓bin_and, ↓cv_23_3, ↓cv_3_23, ↓r79_0_w, ↓s79_1_w, ↓r79_2_w, ↓s79_3_w, ↓r79_4_w, ↓s79_5_w, ↓s79_10_w, ↓r79_11_w, ↓s79_12_w, ↓s79_13_w, ↓r79_14_w, ↓s79_15_w, ↓s79_24_w, ↓r79_25_w, ↓s79_26_w, ↓s79_27_w, ↓s79_30_w, ↓r79_31_w, ↓s79_32_w, ↓s79_33_w, ↓r79_34_w, ↓s79_35_w, brK_false, ne_eq, Nat.reduceEqDiff, not_false_eq_true, Bool.false_eq_true,  w1, w4, w6, w7, w10, w11, shr52, q1, s1, s2, s3, s4, bin_and, bin_or, bin_andnot]))
    refine from_u ?_
    rw [q3]
    repeat' (first | done | with_reducible (first | refine y1 ?_ (by omega) | refine y2 ?_ (by omega) | refine y3 (fun _ => ?_) (fun _ => ?_) | refine y4 ?_ (by omega) (by omega) | refine y5 ?_ (by omega) | refine y6 ?_ (by with_unfolding_all rfl) | refine y7 ?_ (by with_unfolding_all rfl) | refine y8 ?_ (by with_unfolding_all rfl) | refine y9 ?_ (by with_unfolding_all rfl) | refine ya ?_ (by with_unfolding_all rfl)) | (simp -dsimp only [↓cw_ret, ↓seqK_normal, ↓getK_same, ↓getK_ne, ↓evK_tmp, ↓opsW_nil, ↓opsW_d, ↓opW_assign, ↓opW_bin, ↓resK_one, ↓bin_mulF, ↓isF_float, ne_eq, Nat.reduceEqDiff, not_false_eq_true, Int.toNat_natCast]))
    exact hb
theorem rung_mant {f : Nat} : (rungN f : Nat) = (expo f + 1074).toNat * 4503599627370496 + mant f := by
  unfold expo mant
  by_cases he : expE f = 0
  · rw [if_pos he, he]
    have : (((max 0 1 : Nat) : Int) - 1075 + 1074).toNat = 0 := by decide
    rw [this, Nat.zero_mul, Nat.zero_add]
  · rw [if_neg he]
    unfold expE rungN at *
    have : (((max (f % 9223372036854775808 / 4503599627370496) 1 : Nat) : Int) - 1075 + 1074).toNat = f % 9223372036854775808 / 4503599627370496 - 1 := by omega
    rw [this]; omega
theorem mant_den {f : Nat} (fn : Fin f) : (mant f).log2 = 52 ∨ ((mant f).log2 < 52 ∧ expo f = -1074) := by
  obtain ⟨hm0, hm53⟩ := fn.mant
  have h53 := (Nat.log2_lt hm0 (k := 53)).2 hm53
  by_cases he : expE f = 0
  · have e1 : expo f = -1074 := by unfold expo; rw [he]; decide
    omega
  · left
    have h1 : 4503599627370496 ≤ mant f := by unfold mant; rw [if_neg he]; omega
    have h3 : ¬ (mant f).log2 < 52 := fun h4 => by have := (Nat.log2_lt hm0 (k := 52)).1 h4; omega
    omega
theorem expo_le {f : Nat} (fn : Fin f) : -1074 ≤ expo f ∧ expo f ≤ 971 := by have := fn.exp; unfold expo; omega
/-- a number that the format has, made of a part of it -/
theorem ldexp_ret {u f tz : Nat} {k : Int} {h : Heap} {K : Value → Heap → Prop} (fn : Fin f) (hm : mant f = u * 2 ^ tz) (hk : k = expo f + (tz : Int)) (hK : K (.float .f64 (rungN f)) h) :
    Ret env (.func 60) [.float .f64 (FloatKind.nearest .f64 (u : Int)), .int .i64 k] h K := by
  obtain ⟨hm0, hm53⟩ := fn.mant
  have hu : u ≠ 0 := fun h0 => by rw [h0, Nat.zero_mul] at hm; exact hm0 hm
  have hl : (mant f).log2 = u.log2 + tz := by rw [hm, log2_pow hu]
  have hden := mant_den fn
  have hL : u.log2 ≤ 52 := by omega
  have hex := expo_le fn
  obtain ⟨g1, g2⟩ := mant52 hu hL
  have hr := rung_mant (f := f)
  -- the part, made 53 digits long, is the number's by a power of two
  have hM : u * 2 ^ (52 - u.log2) = mant f * 2 ^ (52 - u.log2 - tz) := by
    rw [hm, Nat.mul_assoc, ← Nat.pow_add]; congr 2; omega
  rw [nearest_int hu hL]
  refine F60 rfl ?_
  repeat' (first | done | with_reducible (first | refine y1 ?_ (by omega) | refine y2 ?_ (by omega) | refine y3 (fun _ => ?_) (fun _ => ?_) | refine y4 ?_ (by omega) (by omega) | refine y5 ?_ (by omega) | refine y6 ?_ (by with_unfolding_all rfl) | refine y7 ?_ (by with_unfolding_all rfl) | refine y8 ?_ (by with_unfolding_all rfl) | refine y9 ?_ (by with_unfolding_all rfl) | refine ya ?_ (by with_unfolding_all rfl)) | (simp -dsimp only [↓cw_skip, ↓cw_ops, ↓cw_seq, ↓cw_cond, ↓seqK_normal, ↓getK_same, ↓getK_ne, ↓evK_tmp, ↓evK_bool, ↓evK_float, ↓condV_var, ↓opsW_nil, ↓opsW_d, ↓opW_move, ↓opW_assign, ↓evs_nil, ↓evs_cons, ↓opW_call, ↓setAll_cons, ↓setAll_nil, ↓r60_0_w, ↓s60_1_w, ↓s60_4_w, ↓s60_5_w, ↓r60_6_w, ↓s60_7_w, brK_false, ne_eq, Nat.reduceEqDiff, Nat.reduceAdd, not_false_eq_true, Nat.one_ne_zero, Bool.false_eq_true]))
  refine ldexp_walk hL g1 g2 (by omega) (by omega) (by omega) (fun hd => ?_) (fun hd => ?_)
  · have he := mul_norm (a := 4503599627370496) (b := u * 2 ^ (52 - u.log2)) (M := mant f) (t := 52 + (52 - u.log2 - tz)) (E := expo f) read_tiny (read_at (e := (k + (u.log2 : Int) + 1075).toNat) g1 g2 (by omega))
      (by rw [hM, Nat.pow_add, show (2 : Nat) ^ 52 = 4503599627370496 from rfl, Nat.mul_left_comm]) (by omega) hm0 hden hex.1 hex.2
    rw [he, ← hr]
    repeat' (first | done | with_reducible (first | refine y1 ?_ (by omega) | refine y2 ?_ (by omega) | refine y3 (fun _ => ?_) (fun _ => ?_) | refine y4 ?_ (by omega) (by omega) | refine y5 ?_ (by omega) | refine y6 ?_ (by with_unfolding_all rfl) | refine y7 ?_ (by with_unfolding_all rfl) | refine y8 ?_ (by with_unfolding_all rfl) | refine y9 ?_ (by with_unfolding_all rfl) | refine ya ?_ (by with_unfolding_all rfl)) | (simp -dsimp only [↓cw_ret, ↓seqK_normal, ↓getK_same, ↓evK_tmp, ↓opsW_nil, ↓opsW_d, ↓opW_assign, ↓resK_one]))
    exact hK
  · have he := mul_norm (a := 4503599627370496) (b := u * 2 ^ (52 - u.log2)) (M := mant f) (t := 52 + (52 - u.log2 - tz)) (E := expo f) read_one (read_at (e := (k + (u.log2 : Int) + 1022).toNat) g1 g2 (by omega))
      (by rw [hM, Nat.pow_add, show (2 : Nat) ^ 52 = 4503599627370496 from rfl, Nat.mul_left_comm]) (by omega) hm0 hden hex.1 hex.2
    rw [he, ← hr]
    repeat' (first | done | with_reducible (first | refine y1 ?_ (by omega) | refine y2 ?_ (by omega) | refine y3 (fun _ => ?_) (fun _ => ?_) | refine y4 ?_ (by omega) (by omega) | refine y5 ?_ (by omega) | refine y6 ?_ (by with_unfolding_all rfl) | refine y7 ?_ (by with_unfolding_all rfl) | refine y8 ?_ (by with_unfolding_all rfl) | refine y9 ?_ (by with_unfolding_all rfl) | refine ya ?_ (by with_unfolding_all rfl)) | (simp -dsimp only [↓cw_ret, ↓seqK_normal, ↓getK_same, ↓evK_tmp, ↓opsW_nil, ↓opsW_d, ↓opW_assign, ↓resK_one]))
    exact hK
end Go.Proofs.YtjcmcoabckkjoaaDoor.Li

namespace Go.Proofs.YtjcmcoabckkjoaaDoor.Li
open Go.Ev
set_option maxRecDepth 100000
set_option maxHeartbeats 400000
/-! by contract -/
theorem cutP_ret {s p : List UInt8} {h : Heap} {K : Value → Heap → Prop} (hK : K (.tuple #[strV (Lib.trimPrefix s p), .bool (Lib.hasPrefix s p)]) h) : Ret env (.func 56) [strV s, strV p] h K :=
  extLib_ret (g := cutPG) (base := ext5) rfl rfl hK
theorem cut_ret {s p : List UInt8} {h : Heap} {K : Value → Heap → Prop} (hm : isI (cellAt h ⟨3, 0, none⟩) = true) (hs : s.length < 4294967281) (hK : K (.tuple #[strV (Lib.cut s p).1, strV (Lib.cut s p).2.1, .bool (Lib.cut s p).2.2]) h) : Ret env (.func 57) [strV s, strV p] h K := by
  refine extLib_ret (g := cutG) (base := ext6) rfl ?_ hK
  unfold strV cutG
  dsimp only
  have : (Nat.blt (⟨s.toArray⟩ : ByteArray).size 4294967281 && isI (cellAt h ⟨3, 0, none⟩)) = true := by
    rw [hm, Bool.and_true, blt_eq, str_size]; exact decide_eq_true hs
  rw [this]; rfl
theorem atoi_ret {s : List UInt8} {n : Int} {h : Heap} {K : Value → Heap → Prop} (ha : Lib.atoi s = some n) (hs : s.length ≤ 18) (he : errsOk h = true) (hK : K (.tuple #[.int .i64 n, .nilIface]) h) : Ret env (.func 58) [strV s] h K := by
  have h1 : Lib.atoiAll s = .ok n := by rw [Lib.atoiAll_short s hs, ha]; rfl
  refine extDead_ret (b := false) (v := .tuple #[.int .i64 n, .nilIface]) (g := atoiG) (base := ext7) rfl ?_ hK
  unfold strV atoiG
  dsimp only
  rw [h1]
  dsimp only
  have : (Nat.ble (⟨s.toArray⟩ : ByteArray).size 1000 && errsOk h) = true := by rw [ble_eq, str_size, he, Bool.and_true]; exact decide_eq_true (by omega)
  rw [this]; rfl
/-- of whatever bytes -/
theorem atoi_any {s : List UInt8} {h : Heap} {K : Value → Heap → Prop} (hs : s.length ≤ 1000) (he : errsOk h = true) (hK : ∀ n v h', -9223372036854775808 ≤ n ∧ n ≤ 9223372036854775807 → ExtB h.n h h' → K (.tuple #[.int .i64 n, v]) h') : Ret env (.func 58) [strV s] h K := by
  have hc : (Nat.ble (⟨s.toArray⟩ : ByteArray).size 1000 && errsOk h) = true := by rw [ble_eq, str_size, he, Bool.and_true]; exact decide_eq_true (by omega)
  have hX : ExtB h.n h (newBlk h .dead) := ExtB.new _ (Nat.le_refl _)
  cases ha : Lib.atoiAll s with
  | ok n =>
    refine extDead_ret (b := false) (v := .tuple #[.int .i64 n, .nilIface]) (g := atoiG) (base := ext7) rfl ?_ (hK n .nilIface h (Lib.atoiAll_bounds ha) (ExtB.refl _ _))
    unfold strV atoiG
    dsimp only
    rw [ha, hc]; rfl
  | range =>
    refine extDead_ret (b := true) (v := .tuple #[.int .i64 (Lib.atoiSat s), errV h]) (g := atoiG) (base := ext7) rfl ?_ (hK _ _ _ (Lib.atoiSat_bounds s) hX)
    unfold strV atoiG
    dsimp only
    rw [ha, hc]; rfl
  | _ =>
    refine extDead_ret (b := true) (v := .tuple #[.int .i64 0, errV h]) (g := atoiG) (base := ext7) rfl ?_ (hK _ _ _ (by omega) hX)
    unfold strV atoiG
    dsimp only
    rw [ha, hc]; rfl
theorem toErr_ret {fn s : ByteArray} {k1 k2 n : Int} {h : Heap} {K : Value → Heap → Prop} (hs : s.size ≤ 1000) (he : errsOk h = true) (hn : n = 1 ∨ n = 2) (hK : K (errV h) (newBlk h .dead)) : Ret env (.func 76) [.string fn, .string s, .int .i64 k1, .int .i64 k2, .iface 107 (.int .i64 n)] h K := by
  refine extDead_ret (b := true) (v := errV h) (g := toErrG) (base := ext8) rfl ?_ hK
  have : (Nat.ble s.size 1000 && errsOk h && (decide (n = 1) || decide (n = 2))) = true := by
    rw [ble_eq, he, decide_eq_true hs]
    rcases hn with rfl | rfl <;> rfl
  show cond (Nat.ble s.size 1000 && errsOk h && (decide (n = 1) || decide (n = 2))) _ _ = _
  rw [this]; rfl
theorem isIf_get {o : Option Value} (h : isIf o = true) : ∃ t v, o = some (.iface t v) := by
  unfold isIf at h
  split at h
  · exact ⟨_, _, rfl⟩
  · cases h
theorem errs_ext {h h' : Heap} (hh : 5 < h.n) (X : ExtB h.n h h') (he : errsOk h = true) : errsOk h' = true := by
  unfold errsOk at he ⊢
  rw [Bool.and_eq_true] at he ⊢
  obtain ⟨t, v, e4⟩ := isIf_get he.1
  obtain ⟨t', v', e5⟩ := isIf_get he.2
  rw [cellAt_ext X (by omega) e4, cellAt_ext X hh e5]
  exact ⟨rfl, rfl⟩
/-! the texts of what is no odd number times a power -/
def clsC : List Nat := [9221120237041090561, 9218868437227405312, 18442240474082181120, 0, 9223372036854775808]
def clsV : List Value := clsC.map fun n => .float .f64 n
def ofT (v : Value) : Value := .tuple #[v, .int .i64 0]
theorem of_loop {s : List UInt8} {h : Heap} {K : Value → Heap → Prop} (hcls : ∀ n h', n ∈ clsC → ExtB h.n h h' → classB n = s → K (ofT (.float .f64 n)) h')
    (hrest : (∀ n ∈ clsC, classB n ≠ s) → ∀ fr h', ExtB h.n h h' → fr.get 0 = some (strV s) → s35_45.wp env 80 none fr h' (resK env [.tmp 2, .tmp 3] K)) : Ret env (.func 35) [strV s] h K := by
  refine F35 rfl ?_
  repeat' (first | done | with_reducible (first | refine y1 ?_ (by omega) | refine y2 ?_ (by omega) | refine y3 (fun _ => ?_) (fun _ => ?_) | refine y4 ?_ (by omega) (by omega) | refine y5 ?_ (by omega) | refine y6 ?_ (by with_unfolding_all rfl) | refine y7 ?_ (by with_unfolding_all rfl) | refine y8 ?_ (by with_unfolding_all rfl) | refine y9 ?_ (by with_unfolding_all rfl) | refine ya ?_ (by with_unfolding_all rfl)) | (simp -dsimp only [↓cw_ops, ↓cw_seq, ↓seqK_normal, ↓evK_int, ↓evK_float, ↓opsW_nil, ↓opsW_d, ↓opW_assign, ↓evs_nil, ↓opW_call, ↓r35_62_w, ↓s35_63_w, ↓s35_64_w, ↓r35_65_w, ↓s35_66_w]))
  refine nanf_ret ?_
  repeat' (first | done | with_reducible (first | refine y1 ?_ (by omega) | refine y2 ?_ (by omega) | refine y3 (fun _ => ?_) (fun _ => ?_) | refine y4 ?_ (by omega) (by omega) | refine y5 ?_ (by omega) | refine y6 ?_ (by with_unfolding_all rfl) | refine y7 ?_ (by with_unfolding_all rfl) | refine y8 ?_ (by with_unfolding_all rfl) | refine y9 ?_ (by with_unfolding_all rfl) | refine ya ?_ (by with_unfolding_all rfl)) | (simp -dsimp only [↓evK_int, ↓opsW_d, ↓evs_nil, ↓evs_cons, ↓opW_call]))
  refine inf_ret ?_
  repeat' (first | done | with_reducible (first | refine y1 ?_ (by omega) | refine y2 ?_ (by omega) | refine y3 (fun _ => ?_) (fun _ => ?_) | refine y4 ?_ (by omega) (by omega) | refine y5 ?_ (by omega) | refine y6 ?_ (by with_unfolding_all rfl) | refine y7 ?_ (by with_unfolding_all rfl) | refine y8 ?_ (by with_unfolding_all rfl) | refine y9 ?_ (by with_unfolding_all rfl) | refine ya ?_ (by with_unfolding_all rfl)) | (simp -dsimp only [↓evK_int, ↓opsW_d, ↓evs_nil, ↓evs_cons, ↓opW_call]))
  refine ninf_ret ?_
  repeat' (first | done | with_reducible (first | refine y1 ?_ (by omega) | refine y2 ?_ (by omega) | refine y3 (fun _ => ?_) (fun _ => ?_) | refine y4 ?_ (by omega) (by omega) | refine y5 ?_ (by omega) | refine y6 ?_ (by with_unfolding_all rfl) | refine y7 ?_ (by with_unfolding_all rfl) | refine y8 ?_ (by with_unfolding_all rfl) | refine y9 ?_ (by with_unfolding_all rfl) | refine ya ?_ (by with_unfolding_all rfl)) | (simp -dsimp only [↓evK_float, ↓opsW_d, ↓evs_nil, ↓evs_cons, ↓opW_call]))
  refine czero_ret ?_
  repeat' (first | done | with_reducible (first | refine y1 ?_ (by omega) | refine y2 ?_ (by omega) | refine y3 (fun _ => ?_) (fun _ => ?_) | refine y4 ?_ (by omega) (by omega) | refine y5 ?_ (by omega) | refine y6 ?_ (by with_unfolding_all rfl) | refine y7 ?_ (by with_unfolding_all rfl) | refine y8 ?_ (by with_unfolding_all rfl) | refine y9 ?_ (by with_unfolding_all rfl) | refine ya ?_ (by with_unfolding_all rfl)) | (simp -dsimp only [↓getK_same, ↓getK_ne, ↓evK_tmp, ↓evK_float, ↓opsW_d, ↓evp_nil, ↓evp_cons, ↓bsl_25_5, ne_eq, Nat.reduceEqDiff, not_false_eq_true]))
  refine bs_of (l := clsV) rfl ?_
  have hn1 : (newBlk h (.cells clsV 27 true)).n = h.n + 1 := rfl
  have hb1 : (newBlk h (.cells clsV 27 true)).b.get h.n = some (.cells clsV 27 true) := newBlk_same _ _
  have X1 : ExtB h.n h (newBlk h (.cells clsV 27 true)) := ExtB.new _ (Nat.le_refl _)
  generalize newBlk h (.cells clsV 27 true) = h1 at hn1 hb1 X1 ⊢
  repeat' (first | done | with_reducible (first | refine y1 ?_ (by omega) | refine y2 ?_ (by omega) | refine y3 (fun _ => ?_) (fun _ => ?_) | refine y4 ?_ (by omega) (by omega) | refine y5 ?_ (by omega) | refine y6 ?_ (by with_unfolding_all rfl) | refine y7 ?_ (by with_unfolding_all rfl) | refine y8 ?_ (by with_unfolding_all rfl) | refine y9 ?_ (by with_unfolding_all rfl) | refine ya ?_ (by with_unfolding_all rfl)) | (simp -dsimp only [↓cw_block, ↓seqK_normal, ↓getK_same, ↓evK_tmp, ↓evK_int, ↓opsW_nil, ↓opsW_d, ↓opW_move, ↓lenS_some, ↓setAll_cons, ↓setAll_nil, ↓len_25, ↓s35_60_w, ↓s35_61_w]))
  refine cw_loopI (fun n fr h' => h' = h1 ∧ ∃ k : Nat, k ≤ 5 ∧ n = 5 - k ∧ fr.get 22 = some (.int .i64 k) ∧ ∀ n ∈ clsC.take k, classB n ≠ s) 5 ?_ (by omega) ?_
  · exact ⟨rfl, 0, by omega, by omega, by simp [T.get_set], by simp⟩
  rintro n fr h' ⟨rfl, k, hk, rfl, g22, hnot⟩ hag
  have g22 := getK_of g22
  have a0 := getK_eq (hag 0 rfl)
  unfold strV at a0
  have a20 := getK_eq (hag 20 rfl)
  have a21 := getK_eq (hag 21 rfl)
  by_cases hlt : k < 5
  · have hkc : k < clsC.length := hlt
    have cb : cellAt h' ⟨h.n, 0 + k * 1, none⟩ = some (.float .f64 clsC[k]) := cellAt_blk (by omega) hb1 (by
      rw [show 0 + k * 1 = k by omega, clsV, List.getElem?_map, List.getElem?_eq_getElem hkc]; rfl)
    have hmem : clsC[k] ∈ clsC := List.getElem_mem hkc
    have hlt64 : ∀ n ∈ clsC, n < 18446744073709551616 := by decide
    have hstep : classB clsC[k] ≠ s → ∀ n ∈ clsC.take (k + 1), classB n ≠ s := fun h1 n hn => by
      rw [List.take_succ_eq_append_getElem hkc] at hn
      rcases List.mem_append.1 hn with hn | hn
      · exact hnot n hn
      · rw [List.mem_singleton.1 hn]; exact h1
    have hc64 := hlt64 _ hmem
    have hcl := hcls clsC[k] h' hmem X1
    generalize clsC[k] = c at cb hmem hstep hc64 hcl
    repeat' (first | done | with_reducible (first | refine y1 ?_ (by omega) | refine y2 ?_ (by omega) | refine y3 (fun _ => ?_) (fun _ => ?_) | refine y4 ?_ (by omega) (by omega) | refine y5 ?_ (by omega) | refine y6 ?_ (by with_unfolding_all rfl) | refine y7 ?_ (by with_unfolding_all rfl) | refine y8 ?_ (by with_unfolding_all rfl) | refine y9 ?_ (by with_unfolding_all rfl) | refine ya ?_ (by with_unfolding_all rfl)) | (simp -dsimp only [↓cw_skip, ↓cw_ops, ↓cw_seq, ↓cw_block, ↓cw_cond, ↓seqK_normal, ↓getK_same, ↓getK_ne, ↓evK_tmp, ↓condV_var, ↓opsW_nil, ↓opsW_d, ↓opW_move, ↓opW_assign, ↓opW_bin, ↓bin_lss, ↓ld1_some, ↓idxS_some, ↓evs_nil, ↓evs_cons, ↓opW_call, ↓ia_25, ↓ld_27, ↓r35_51_w, ↓s35_52_w, ↓r35_53_w, ↓s35_54_w, ↓s35_55_w, ↓s35_56_w, ↓s35_57_w, ↓r35_58_w, ↓s35_59_w, onV_some', brK_true, ne_eq, Nat.reduceEqDiff, not_false_eq_true, Addr.add_lit, Int.toNat_natCast, ↓g22, ↓a20, ↓a21, cb]))
    refine class_ret hc64 ?_
    by_cases he : classB c = s
    · have hk := hcl he
      rw [he]
      unfold ofT at hk
      unfold strV
      repeat' (first | done | with_reducible (first | refine y1 ?_ (by omega) | refine y2 ?_ (by omega) | refine y3 (fun _ => ?_) (fun _ => ?_) | refine y4 ?_ (by omega) (by omega) | refine y5 ?_ (by omega) | refine y6 ?_ (by with_unfolding_all rfl) | refine y7 ?_ (by with_unfolding_all rfl) | refine y8 ?_ (by with_unfolding_all rfl) | refine y9 ?_ (by with_unfolding_all rfl) | refine ya ?_ (by with_unfolding_all rfl)) | (simp -dsimp only [↓cw_ops, ↓cw_seq, ↓cw_ret, ↓cw_cond, ↓seqK_normal, ↓seqK_ret, ↓blockK_ret, ↓loopK_ret, ↓getK_same, ↓getK_ne, ↓evK_tmp, ↓evK_int, ↓condV_var, ↓opsW_nil, ↓opsW_d, ↓opW_move, ↓opW_assign, ↓opW_bin, ↓resK_two, ↓bin_eqlS, ↓r35_48_w, ↓s35_49_w, ↓s35_50_w, brK_true, ne_eq, Nat.reduceEqDiff, not_false_eq_true, ↓a0, eq_self]))
      exact hk
    · have hne : ¬ ((⟨(classB c).toArray⟩ : ByteArray) = ⟨s.toArray⟩) := fun e => he (by
        have := congrArg (fun b : ByteArray => b.data.toList) e
        simpa using this)
      unfold strV
      repeat' (first | done | with_reducible (first | refine y1 ?_ (by omega) | refine y2 ?_ (by omega) | refine y3 (fun _ => ?_) (fun _ => ?_) | refine y4 ?_ (by omega) (by omega) | refine y5 ?_ (by omega) | refine y6 ?_ (by with_unfolding_all rfl) | refine y7 ?_ (by with_unfolding_all rfl) | refine y8 ?_ (by with_unfolding_all rfl) | refine y9 ?_ (by with_unfolding_all rfl) | refine ya ?_ (by with_unfolding_all rfl)) | (simp -dsimp only [↓cw_skip, ↓cw_ops, ↓cw_cond, ↓seqK_normal, ↓blockK_normal, ↓loopK_normal, ↓getK_same, ↓getK_ne, ↓evK_tmp, ↓evK_int, ↓condV_var, ↓opsW_nil, ↓opsW_d, ↓opW_move, ↓opW_bin, ↓bin_add, ↓bin_eqlS, ↓r35_46_w, ↓s35_47_w, ↓s35_50_w, brK_false, true_and, ne_eq, Nat.reduceEqDiff, not_false_eq_true, Addr.add_lit, Int.toNat_natCast, Bool.false_eq_true,  ↓g22, ↓a0, hne]))
      exact ⟨5 - (k + 1), by omega, k + 1, by omega, rfl, by simp [T.get_set, wrap_succ (show k ≤ 4611686018427387904 by omega)], hstep he⟩
  · have e : k = 5 := by omega
    subst e
    repeat' (first | done | with_reducible (first | refine y1 ?_ (by omega) | refine y2 ?_ (by omega) | refine y3 (fun _ => ?_) (fun _ => ?_) | refine y4 ?_ (by omega) (by omega) | refine y5 ?_ (by omega) | refine y6 ?_ (by with_unfolding_all rfl) | refine y7 ?_ (by with_unfolding_all rfl) | refine y8 ?_ (by with_unfolding_all rfl) | refine y9 ?_ (by with_unfolding_all rfl) | refine ya ?_ (by with_unfolding_all rfl)) | (simp -dsimp only [↓cw_ops, ↓cw_seq, ↓cw_exit, ↓cw_cond, ↓seqK_normal, ↓seqK_exit, ↓blockK_same, ↓loopK_exit, ↓getK_same, ↓getK_ne, ↓evK_tmp, ↓condV_var, ↓opsW_nil, ↓opsW_d, ↓opW_bin, ↓bin_lss, ↓s35_56_w, ↓s35_57_w, ↓r35_58_w, ↓s35_59_w, brK_false, ne_eq, Nat.reduceEqDiff, not_false_eq_true, Bool.false_eq_true,  ↓g22, ↓a21]))
    refine hrest (fun n hn => hnot n (by simpa [clsC] using hn)) _ h' X1 ?_
    have h0 := hag 0 rfl
    simp only [T.get_set] at h0 ⊢
    simpa [setAll, T.get_set] using h0
end Go.Proofs.YtjcmcoabckkjoaaDoor.Li

namespace Go.Proofs.YtjcmcoabckkjoaaDoor.Li
open Go.Ev
set_option maxRecDepth 100000
set_option maxHeartbeats 400000
theorem cls_vals : clsC.map classB = [[110, 97, 110], [105, 110, 102], [45, 105, 110, 102], [48], [45, 48]] := by decide
/-- the odd part, its power, its digits -/
structure Parts (n u tz : Nat) (k : Int) : Prop where
  fn : Fin n
  m : mant n = u * 2 ^ tz
  ke : k = expo n + (tz : Int)
  u0 : u ≠ 0
  u53 : u < 9007199254740992
  k1 : -1074 ≤ k ∧ k ≤ 1100
theorem Parts.of {n : Nat} (fn : Fin n) : Parts n (mant n / 2 ^ Lib.ctz 64 (mant n)) (Lib.ctz 64 (mant n)) (expo n + (Lib.ctz 64 (mant n) : Nat)) := by
  obtain ⟨hm0, hm⟩ := fn.mant
  obtain ⟨q, hq, hct⟩ := ctz_odd hm0 (show mant n < 18446744073709551616 by omega)
  have hp := Nat.two_pow_pos (Lib.ctz 64 (mant n))
  have hu : mant n / 2 ^ Lib.ctz 64 (mant n) = 2 * q + 1 :=
    (fun (t : Nat) (h : mant n = 2 ^ t * (2 * q + 1)) => (by rw [h, Nat.mul_div_cancel_left _ (Nat.two_pow_pos t)] : mant n / 2 ^ t = 2 * q + 1)) _ hq
  have hex := expo_le fn
  refine ⟨fn, ?_, rfl, by omega, ?_, by omega⟩
  · rw [hu, Nat.mul_comm]; exact hq
  · have := Nat.div_le_self (mant n) (2 ^ Lib.ctz 64 (mant n)); omega
theorem textB_fin {n : Nat} (fn : Fin n) : textB n = signL n ++ (Lib.decDigits (mant n / 2 ^ Lib.ctz 64 (mant n)) ++ tailB (expo n + (Lib.ctz 64 (mant n) : Nat))) := by
  have hc : classB n = [] := by
    have h1 := fn.pos
    have h2 := fn.fin
    unfold classB
    rw [isNan_iff, decide_eq_false (by omega), if_neg (by decide), if_neg (by omega), if_neg (by omega)]
  unfold textB
  rw [if_neg (by rw [hc]; simp), List.append_assoc]
theorem no_cls {n u : Nat} {t : List UInt8} (hu : u ≠ 0) : ∀ c ∈ clsC, classB c ≠ signL n ++ (Lib.decDigits u ++ t) := by
  have hall : ∀ x ∈ [[110, 97, 110], [105, 110, 102], [45, 105, 110, 102], [48], [45, 48]], x ≠ signL n ++ (Lib.decDigits u ++ t) := by
    cases hd : Lib.decDigits u with
    | nil => exact absurd hd (digits_ne u)
    | cons b r =>
      have hb := digits_byte (u := u) (b := b) (by rw [hd]; exact List.mem_cons_self)
      have hz : b :: r ≠ [48] := fun e => by
        have := decNat_digits u
        rw [hd, e] at this
        revert this
        show some 0 ≠ some u
        intro h; cases h; exact hu rfl
      have h45 : b ≠ 45 := by rintro rfl; revert hb; decide
      have h110 : b ≠ 110 := by rintro rfl; revert hb; decide
      have h105 : b ≠ 105 := by rintro rfl; revert hb; decide
      have h48 : ∀ t' : List UInt8, [48] ≠ b :: (r ++ t') := by
        intro t' e
        injection e with e1 e2
        have : r = [] := (List.append_eq_nil_iff.1 e2.symm).1
        exact hz (by rw [← e1, this])
      unfold signL
      intro x hx e
      simp only [List.mem_cons, List.not_mem_nil, or_false] at hx
      rcases hx with rfl | rfl | rfl | rfl | rfl <;> split at e <;> simp only [List.cons_append, List.nil_append, List.cons.injEq] at e
      · exact absurd e.1 (by decide)
      · exact h110 e.1.symm
      · exact absurd e.1 (by decide)
      · exact h105 e.1.symm
      · exact h105 e.2.1.symm
      · exact h45 e.1.symm
      · exact absurd e.1 (by decide)
      · exact h48 t (by rw [e.1, ← e.2])
      · exact h48 t (by rw [e.2.1, ← e.2.2])
      · exact h45 e.1.symm
  intro c hc
  exact hall _ (by rw [← cls_vals]; exact List.mem_map.2 ⟨c, hc, rfl⟩)
theorem pre_sign {n u : Nat} {t : List UInt8} : Lib.hasPrefix (signL n ++ (Lib.decDigits u ++ t)) [45] = negN n ∧ Lib.trimPrefix (signL n ++ (Lib.decDigits u ++ t)) [45] = Lib.decDigits u ++ t := by
  cases hd : Lib.decDigits u with
  | nil => exact absurd hd (digits_ne u)
  | cons b r =>
    have hb := digits_byte (u := u) (b := b) (by rw [hd]; exact List.mem_cons_self)
    have h45 : ((45 : UInt8) == b) = false := by rw [beq_eq_false_iff_ne]; rintro rfl; revert hb; decide
    unfold signL Lib.trimPrefix Lib.hasPrefix
    cases negN n
    · simp [List.isPrefixOf, h45]
    · simp [List.isPrefixOf]
theorem dig_ne {u : Nat} {c : UInt8} (hc : c.toNat < 48) : ∀ b ∈ Lib.decDigits u, b ≠ c := by
  intro b hb e
  have := (digits_byte hb).1
  rw [e] at this; omega
theorem dec_len : ∀ (m u : Nat), u < 10 ^ (m + 1) → (Lib.decDigits u).length ≤ m + 1
  | 0, u, h => by rw [dec_small (by omega)]; simp
  | m + 1, u, h => by
    by_cases h1 : u < 10
    · rw [dec_small h1]; simp
    · rw [dec_big h1, List.length_append]
      have := dec_len m (u / 10) (by rw [Nat.pow_succ] at h; omega)
      simp only [List.length_cons, List.length_nil]; omega
theorem itoa_len {k : Nat} (hk : k ≤ 1100) : (Lib.itoa (k : Int)).length ≤ 18 := by
  rw [Lib.itoa_nonneg]
  have := dec_len 3 k (by omega)
  omega
theorem isI_ext {h h' : Heap} (hh : 3 < h.n) (X : ExtB h.n h h') (hm : isI (cellAt h ⟨3, 0, none⟩) = true) : isI (cellAt h' ⟨3, 0, none⟩) = true := by
  obtain ⟨m, e⟩ := isI_of hm
  rw [cellAt_ext X hh e]; rfl
theorem cell_two (x y : Value) : (Value.tuple #[x, y]) = .tuple ⟨[x, y]⟩ := rfl
section
variable {E : Env} {fr : Fr} {h : Heap} {K : Value → Heap → Prop} {x y : Operand} {t t' : TypeId}
def minK (a b : Value) (K : Value → Prop) [Tok K] : Prop := onV (amax2 false a b) K
theorem opW_min : opW E (.call ⟨.builtin .min, ⟨[x, y]⟩, ⟨[t, t']⟩⟩) fr h K = evK E fr x fun a => evK E fr y fun b => minK a b fun u => K u h := by
  simp only [opW, opBy, valOp, flOp, operOf, kindOf, pureOp, evs, mapOpt, evK, onR_map, onV, minK]
  cases ev E fr x with
  | none => simp
  | some a =>
    cases ev E fr y with
    | none => simp
    | some b =>
      simp only [Option.some.injEq, exists_eq_left', afold]
      cases amax2 false a b <;> simp
theorem min_int {k k' : IntKind} {a b : Int} {K : Value → Prop} : minK (.int k a) (.int k' b) K = K (.int k (min a b)) := by
  simp only [minK, amax2, cond_false, onV_some']
  rw [Int.min_def]
  by_cases hl : b < a
  · rw [if_pos hl, if_neg (by omega)]
  · rw [if_neg hl, if_pos (by omega)]
end
theorem of_tail {n u tz : Nat} {k : Int} {s : List UInt8} {fr : Fr} {h : Heap} {K : Value → Heap → Prop} (pt : Parts n u tz k) (hs : textB n = s) (ht : tabsOk tabs h = true) (hh : 3 < h.n) (g0 : fr.get 0 = some (strV s)) (g7 : fr.get 7 = some (.bool (negN n)))
    (g8 : fr.get 8 = some (.int .i64 k)) (g9 : fr.get 9 = some (strV (Lib.decDigits u))) (hK : ∀ h', ExtB h.n h h' → K (ofT (.float .f64 n)) h') : s35_17.wp env 80 none fr h (resK env [.tmp 2, .tmp 3] K) := by
  have g0 := getK_of g0
  have g7 := getK_of g7
  have g8 := getK_of g8
  have g9 := getK_of g9
  unfold strV at g0 g9
  repeat' (first | done | with_reducible (first | refine y1 ?_ (by omega) | refine y2 ?_ (by omega) | refine y3 (fun _ => ?_) (fun _ => ?_) | refine y4 ?_ (by omega) (by omega) | refine y5 ?_ (by omega) | refine y6 ?_ (by with_unfolding_all rfl) | refine y7 ?_ (by with_unfolding_all rfl) | refine y8 ?_ (by with_unfolding_all rfl) | refine y9 ?_ (by with_unfolding_all rfl) | refine ya ?_ (by with_unfolding_all rfl)) | (simp -dsimp only [↓cw_ops, ↓cw_seq, ↓getK_same, ↓evK_tmp, ↓evK_int, ↓opsW_d, ↓opW_move, ↓evs_nil, ↓evs_cons, ↓opW_call, ↓r35_16_w, ↓s35_17_w, ↓g9]))
  refine parse_ret (decFrom_digits u u (Nat.le_refl _)) (digits_ne u) (by have := dec_le (u := u) (by have := pt.u53; omega); omega) pt.u53 fun h1 X1 => ?_
  have n1 := X1.n
  have k1 := pt.k1
  have mn : max (min k 5000) (-5000) = k := by omega
  have hn64 := pt.fn.lt
  have hr64 : rungN n < 9223372036854775808 := by unfold rungN; omega
  have ht1 := tabs_ext (by omega) X1 ht
  repeat' (first | done | with_reducible (first | refine y1 ?_ (by omega) | refine y2 ?_ (by omega) | refine y3 (fun _ => ?_) (fun _ => ?_) | refine y4 ?_ (by omega) (by omega) | refine y5 ?_ (by omega) | refine y6 ?_ (by with_unfolding_all rfl) | refine y7 ?_ (by with_unfolding_all rfl) | refine y8 ?_ (by with_unfolding_all rfl) | refine y9 ?_ (by with_unfolding_all rfl) | refine ya ?_ (by with_unfolding_all rfl)) | (simp -dsimp only [↓cw_ops, ↓cw_seq, ↓seqK_normal, ↓getK_same, ↓getK_ne, ↓evK_tmp, ↓evK_int, ↓opsW_nil, ↓opsW_d, ↓opW_move, ↓opW_assign, ↓evs_nil, ↓evs_cons, ↓opW_call, ↓opW_extract, ↓ext_tuple, ↓opW_max, ↓max_int, ↓cif_int, ↓cv_23_27, ↓r35_14_w, ↓s35_15_w, List.getElem?_cons_zero, List.getElem?_cons_succ, onV_some', ne_eq, Nat.reduceEqDiff, not_false_eq_true, ↓g8, ↓opW_min, min_int, mn]))
  refine ldexp_ret pt.fn pt.m pt.ke ?_
  cases hg : negN n with
  | true =>
    have hx : rungN n ^^^ 9223372036854775808 = n := by
      rw [neg_bits (by omega), if_neg (by omega)]; unfold negN at hg; have := of_decide_eq_true hg; unfold rungN; omega
    rw [hg] at g7
    repeat' (first | done | with_reducible (first | refine y1 ?_ (by omega) | refine y2 ?_ (by omega) | refine y3 (fun _ => ?_) (fun _ => ?_) | refine y4 ?_ (by omega) (by omega) | refine y5 ?_ (by omega) | refine y6 ?_ (by with_unfolding_all rfl) | refine y7 ?_ (by with_unfolding_all rfl) | refine y8 ?_ (by with_unfolding_all rfl) | refine y9 ?_ (by with_unfolding_all rfl) | refine ya ?_ (by with_unfolding_all rfl)) | (simp -dsimp only [↓cw_ops, ↓cw_seq, ↓cw_cond, ↓seqK_normal, ↓getK_same, ↓getK_ne, ↓evK_tmp, ↓condV_var, ↓opsW_nil, ↓opsW_d, ↓opW_move, ↓opW_assign, ↓evs_nil, ↓evs_cons, ↓opW_call, ↓opW_un, ↓r35_5_w, ↓s35_6_w, ↓s35_7_w, ↓r35_8_w, ↓s35_9_w, ↓s35_10_w, ↓r35_11_w, ↓s35_12_w, ↓s35_13_w, brK_true, ne_eq, Nat.reduceEqDiff, not_false_eq_true, ↓g7, un_negF', hx]))
    refine text_ret hn64 ht1 (by omega) fun h2 X2 => ?_
    rw [hs]
    unfold strV
    repeat' (first | done | with_reducible (first | refine y1 ?_ (by omega) | refine y2 ?_ (by omega) | refine y3 (fun _ => ?_) (fun _ => ?_) | refine y4 ?_ (by omega) (by omega) | refine y5 ?_ (by omega) | refine y6 ?_ (by with_unfolding_all rfl) | refine y7 ?_ (by with_unfolding_all rfl) | refine y8 ?_ (by with_unfolding_all rfl) | refine y9 ?_ (by with_unfolding_all rfl) | refine ya ?_ (by with_unfolding_all rfl)) | (simp -dsimp only [↓cw_skip, ↓cw_ops, ↓cw_seq, ↓cw_ret, ↓cw_cond, ↓seqK_normal, ↓getK_same, ↓getK_ne, ↓evK_tmp, ↓evK_int, ↓condV_var, ↓opsW_nil, ↓opsW_d, ↓opW_move, ↓opW_assign, ↓opW_bin, ↓resK_two, ↓bin_neqS, ↓r35_0_w, ↓s35_1_w, ↓s35_4_w, brK_true, brK_false, ne_eq, Nat.reduceEqDiff, not_false_eq_true, Bool.false_eq_true,  ↓g0, eq_self]))
    rw [hx]
    exact hK h2 (X1.trans (X2.mono n1))
  | false =>
    have hx : rungN n = n := by unfold negN at hg; have := of_decide_eq_false hg; unfold rungN; omega
    rw [hx]
    rw [hg] at g7
    repeat' (first | done | with_reducible (first | refine y1 ?_ (by omega) | refine y2 ?_ (by omega) | refine y3 (fun _ => ?_) (fun _ => ?_) | refine y4 ?_ (by omega) (by omega) | refine y5 ?_ (by omega) | refine y6 ?_ (by with_unfolding_all rfl) | refine y7 ?_ (by with_unfolding_all rfl) | refine y8 ?_ (by with_unfolding_all rfl) | refine y9 ?_ (by with_unfolding_all rfl) | refine ya ?_ (by with_unfolding_all rfl)) | (simp -dsimp only [↓cw_skip, ↓cw_ops, ↓cw_seq, ↓cw_cond, ↓seqK_normal, ↓getK_same, ↓getK_ne, ↓evK_tmp, ↓condV_var, ↓opsW_nil, ↓opsW_d, ↓opW_move, ↓opW_assign, ↓evs_nil, ↓evs_cons, ↓opW_call, ↓r35_5_w, ↓s35_6_w, ↓s35_7_w, ↓s35_10_w, ↓r35_11_w, ↓s35_12_w, ↓s35_13_w, brK_false, ne_eq, Nat.reduceEqDiff, not_false_eq_true, Bool.false_eq_true,  ↓g7]))
    refine text_ret hn64 ht1 (by omega) fun h2 X2 => ?_
    rw [hs]
    unfold strV
    repeat' (first | done | with_reducible (first | refine y1 ?_ (by omega) | refine y2 ?_ (by omega) | refine y3 (fun _ => ?_) (fun _ => ?_) | refine y4 ?_ (by omega) (by omega) | refine y5 ?_ (by omega) | refine y6 ?_ (by with_unfolding_all rfl) | refine y7 ?_ (by with_unfolding_all rfl) | refine y8 ?_ (by with_unfolding_all rfl) | refine y9 ?_ (by with_unfolding_all rfl) | refine ya ?_ (by with_unfolding_all rfl)) | (simp -dsimp only [↓cw_skip, ↓cw_ops, ↓cw_seq, ↓cw_ret, ↓cw_cond, ↓seqK_normal, ↓getK_same, ↓getK_ne, ↓evK_tmp, ↓evK_int, ↓condV_var, ↓opsW_nil, ↓opsW_d, ↓opW_move, ↓opW_assign, ↓opW_bin, ↓resK_two, ↓bin_neqS, ↓r35_0_w, ↓s35_1_w, ↓s35_4_w, brK_true, brK_false, ne_eq, Nat.reduceEqDiff, not_false_eq_true, Bool.false_eq_true,  ↓g0, eq_self]))
    exact hK h2 (X1.trans (X2.mono n1))
theorem of_fin {n : Nat} {h : Heap} {K : Value → Heap → Prop} (fn : Fin n) (ht : tabsOk tabs h = true) (he : errsOk h = true) (hh : 5 < h.n) (hm : isI (cellAt h ⟨3, 0, none⟩) = true) (hK : ∀ h', ExtB h.n h h' → K (ofT (.float .f64 n)) h') : Ret env (.func 35) [strV (textB n)] h K := by
  obtain ⟨u, tz, k, pt, hs⟩ : ∃ u tz k, Parts n u tz k ∧ textB n = signL n ++ (Lib.decDigits u ++ tailB k) := ⟨_, _, _, Parts.of fn, textB_fin fn⟩
  have hlen := textB_len n fn.lt
  rw [hs] at hlen ⊢
  refine of_loop (fun c h' hc _ e => absurd e (no_cls pt.u0 c hc)) fun _ fr h1 X1 g0 => ?_
  have hm1 := isI_ext (by omega) X1 hm
  have he1 := errs_ext hh X1 he
  have ht1 := tabs_ext (by omega) X1 ht
  have g0' := g0
  have g0 := getK_of g0
  have n1 := X1.n
  obtain ⟨p1, p2⟩ := pre_sign (n := n) (u := u) (t := tailB k)
  have hl2 : (Lib.decDigits u ++ tailB k).length ≤ 50 := by rw [List.length_append] at hlen; omega
  unfold strV at g0
  repeat' (first | done | with_reducible (first | refine y1 ?_ (by omega) | refine y2 ?_ (by omega) | refine y3 (fun _ => ?_) (fun _ => ?_) | refine y4 ?_ (by omega) (by omega) | refine y5 ?_ (by omega) | refine y6 ?_ (by with_unfolding_all rfl) | refine y7 ?_ (by with_unfolding_all rfl) | refine y8 ?_ (by with_unfolding_all rfl) | refine y9 ?_ (by with_unfolding_all rfl) | refine ya ?_ (by with_unfolding_all rfl)) | (simp -dsimp only [↓cw_ops, ↓cw_seq, ↓getK_same, ↓evK_tmp, ↓evK_string, ↓opsW_d, ↓opW_move, ↓evs_nil, ↓evs_cons, ↓opW_call, ↓r35_44_w, ↓s35_45_w, ↓g0]))
  refine cutP_ret (s := signL n ++ (Lib.decDigits u ++ tailB k)) (p := [45]) ?_
  rw [p1, p2]
  unfold strV
  repeat' (first | done | with_reducible (first | refine y1 ?_ (by omega) | refine y2 ?_ (by omega) | refine y3 (fun _ => ?_) (fun _ => ?_) | refine y4 ?_ (by omega) (by omega) | refine y5 ?_ (by omega) | refine y6 ?_ (by with_unfolding_all rfl) | refine y7 ?_ (by with_unfolding_all rfl) | refine y8 ?_ (by with_unfolding_all rfl) | refine y9 ?_ (by with_unfolding_all rfl) | refine ya ?_ (by with_unfolding_all rfl)) | (simp -dsimp only [↓cw_ops, ↓cw_seq, ↓seqK_normal, ↓getK_same, ↓getK_ne, ↓evK_tmp, ↓evK_int, ↓evK_string, ↓opsW_nil, ↓opsW_d, ↓opW_move, ↓opW_assign, ↓evs_nil, ↓evs_cons, ↓opW_call, ↓opW_extract, ↓ext_tuple, ↓r35_40_w, ↓s35_41_w, ↓r35_42_w, ↓s35_43_w, List.getElem?_cons_zero, List.getElem?_cons_succ, onV_some', ne_eq, Nat.reduceEqDiff, not_false_eq_true]))
  refine cut_ret (s := Lib.decDigits u ++ tailB k) (p := [42, 50, 94]) hm1 (by omega) ?_
  by_cases hpos : 0 < k
  · have hc : Lib.cut (Lib.decDigits u ++ tailB k) [42, 50, 94] = (Lib.decDigits u, Lib.itoa k, true) := by
      have e : tailB k = [42, 50, 94] ++ Lib.itoa k := by unfold tailB; rw [if_pos hpos]
      rw [e, ← List.append_assoc]
      exact cut_at _ _ [50, 94] 42 (dig_ne (by decide))
    rw [hc]
    unfold strV
    obtain ⟨j, rfl⟩ : ∃ j : Nat, k = j := ⟨k.toNat, by omega⟩
    have pk := pt.k1
    have w : IntKind.wrap .i64 ((j : Int) * 1) = (j : Int) := by rw [Int.mul_one]; exact wrap_i64 (by omega) (by omega)
    repeat' (first | done | with_reducible (first | refine y1 ?_ (by omega) | refine y2 ?_ (by omega) | refine y3 (fun _ => ?_) (fun _ => ?_) | refine y4 ?_ (by omega) (by omega) | refine y5 ?_ (by omega) | refine y6 ?_ (by with_unfolding_all rfl) | refine y7 ?_ (by with_unfolding_all rfl) | refine y8 ?_ (by with_unfolding_all rfl) | refine y9 ?_ (by with_unfolding_all rfl) | refine ya ?_ (by with_unfolding_all rfl)) | (simp -dsimp only [↓cw_skip, ↓cw_ops, ↓cw_seq, ↓cw_block, ↓cw_exit, ↓cw_cond, ↓seqK_normal, ↓seqK_exit, ↓blockK_same, ↓blockK_ne, ↓getK_same, ↓getK_ne, ↓evK_tmp, ↓evK_int, ↓condV_var, ↓opsW_nil, ↓opsW_d, ↓opW_move, ↓opW_assign, ↓evs_nil, ↓evs_cons, ↓opW_call, ↓opW_un, ↓un_not, ↓opW_extract, ↓ext_tuple, ↓r35_20_w, ↓s35_21_w, ↓s35_22_w, ↓r35_23_w, ↓s35_24_w, ↓s35_25_w, ↓s35_30_w, ↓r35_31_w, ↓s35_32_w, ↓s35_33_w, ↓s35_34_w, ↓s35_35_w, ↓s35_36_w, ↓r35_37_w, ↓s35_38_w, ↓s35_39_w, List.getElem?_cons_zero, List.getElem?_cons_succ, onV_some', brK_true, brK_false, ne_eq, Nat.reduceEqDiff, not_false_eq_true, Bool.false_eq_true,  Bool.not_true]))
    refine atoi_ret (s := Lib.itoa (j : Int)) (n := (j : Int)) (atoi_itoa j) (itoa_len (by omega)) he1 ?_
    repeat' (first | done | with_reducible (first | refine y1 ?_ (by omega) | refine y2 ?_ (by omega) | refine y3 (fun _ => ?_) (fun _ => ?_) | refine y4 ?_ (by omega) (by omega) | refine y5 ?_ (by omega) | refine y6 ?_ (by with_unfolding_all rfl) | refine y7 ?_ (by with_unfolding_all rfl) | refine y8 ?_ (by with_unfolding_all rfl) | refine y9 ?_ (by with_unfolding_all rfl) | refine ya ?_ (by with_unfolding_all rfl)) | (simp -dsimp only [↓cw_ops, ↓cw_exit, ↓seqK_normal, ↓blockK_same, ↓getK_same, ↓getK_ne, ↓evK_tmp, ↓opsW_nil, ↓opsW_d, ↓opW_move, ↓opW_assign, ↓opW_bin, ↓bin_mul, ↓opW_extract, ↓ext_tuple, ↓r35_18_w, ↓s35_19_w, List.getElem?_cons_zero, List.getElem?_cons_succ, onV_some', ne_eq, Nat.reduceEqDiff, not_false_eq_true, Bool.not_true, w]))
    refine of_tail pt hs ht1 (by omega) ?_ ?_ ?_ ?_ fun h2 X2 => hK h2 (X1.trans (X2.mono n1))
    · simp only [T.get_set]; simpa [strV] using g0'
    · simp [T.get_set]
    · simp [T.get_set]
    · simp [T.get_set, strV]
  by_cases hneg : k < 0
  · have e : tailB k = [47, 50, 94] ++ Lib.itoa (-k) := by unfold tailB; rw [if_neg hpos, if_pos hneg]
    obtain ⟨j, hj⟩ : ∃ j : Nat, -k = j := ⟨(-k).toNat, by omega⟩
    have hno : ∀ b ∈ Lib.decDigits u ++ tailB k, b ≠ 42 := by
      intro b hb
      rcases List.mem_append.1 hb with hb | hb
      · exact dig_ne (by decide) b hb
      · rw [e, hj, Lib.itoa_nonneg] at hb
        rcases List.mem_append.1 hb with hb | hb
        · rintro rfl; revert hb; decide
        · exact dig_ne (by decide) b hb
    have hc := cut_no (Lib.decDigits u ++ tailB k) [50, 94] 42 hno
    have hc2 : Lib.cut (Lib.decDigits u ++ tailB k) [47, 50, 94] = (Lib.decDigits u, Lib.itoa (j : Int), true) := by
      rw [e, hj, ← List.append_assoc]
      exact cut_at _ _ [50, 94] 47 (dig_ne (by decide))
    have pk := pt.k1
    have w : IntKind.wrap .i64 ((j : Int) * -1) = k := by rw [wrap_i64 (by omega) (by omega)]; omega
    rw [hc]
    unfold strV
    repeat' (first | done | with_reducible (first | refine y1 ?_ (by omega) | refine y2 ?_ (by omega) | refine y3 (fun _ => ?_) (fun _ => ?_) | refine y4 ?_ (by omega) (by omega) | refine y5 ?_ (by omega) | refine y6 ?_ (by with_unfolding_all rfl) | refine y7 ?_ (by with_unfolding_all rfl) | refine y8 ?_ (by with_unfolding_all rfl) | refine y9 ?_ (by with_unfolding_all rfl) | refine ya ?_ (by with_unfolding_all rfl)) | (simp -dsimp only [↓cw_ops, ↓cw_seq, ↓cw_block, ↓cw_exit, ↓cw_cond, ↓seqK_normal, ↓seqK_exit, ↓blockK_same, ↓getK_same, ↓getK_ne, ↓evK_tmp, ↓evK_int, ↓evK_string, ↓condV_var, ↓opsW_nil, ↓opsW_d, ↓opW_move, ↓opW_assign, ↓evs_nil, ↓evs_cons, ↓opW_call, ↓opW_un, ↓un_not, ↓opW_extract, ↓ext_tuple, ↓r35_28_w, ↓s35_29_w, ↓s35_30_w, ↓r35_31_w, ↓s35_32_w, ↓s35_33_w, ↓s35_34_w, ↓s35_35_w, ↓s35_36_w, ↓r35_37_w, ↓s35_38_w, ↓s35_39_w, List.getElem?_cons_zero, List.getElem?_cons_succ, onV_some', brK_true, ne_eq, Nat.reduceEqDiff, not_false_eq_true, Bool.not_false]))
    refine cut_ret (s := Lib.decDigits u ++ tailB k) (p := [47, 50, 94]) hm1 (by omega) ?_
    rw [hc2]
    unfold strV
    repeat' (first | done | with_reducible (first | refine y1 ?_ (by omega) | refine y2 ?_ (by omega) | refine y3 (fun _ => ?_) (fun _ => ?_) | refine y4 ?_ (by omega) (by omega) | refine y5 ?_ (by omega) | refine y6 ?_ (by with_unfolding_all rfl) | refine y7 ?_ (by with_unfolding_all rfl) | refine y8 ?_ (by with_unfolding_all rfl) | refine y9 ?_ (by with_unfolding_all rfl) | refine ya ?_ (by with_unfolding_all rfl)) | (simp -dsimp only [↓cw_ops, ↓cw_seq, ↓cw_cond, ↓seqK_normal, ↓blockK_normal, ↓getK_same, ↓getK_ne, ↓evK_tmp, ↓evK_int, ↓condV_var, ↓opsW_nil, ↓opsW_d, ↓opW_move, ↓opW_assign, ↓evs_nil, ↓evs_cons, ↓opW_call, ↓opW_extract, ↓ext_tuple, ↓r35_20_w, ↓s35_21_w, ↓s35_22_w, ↓r35_23_w, ↓s35_24_w, ↓s35_25_w, ↓r35_26_w, ↓s35_27_w, List.getElem?_cons_zero, List.getElem?_cons_succ, onV_some', brK_true, ne_eq, Nat.reduceEqDiff, not_false_eq_true]))
    refine atoi_ret (s := Lib.itoa (j : Int)) (n := (j : Int)) (atoi_itoa j) (itoa_len (by omega)) he1 ?_
    repeat' (first | done | with_reducible (first | refine y1 ?_ (by omega) | refine y2 ?_ (by omega) | refine y3 (fun _ => ?_) (fun _ => ?_) | refine y4 ?_ (by omega) (by omega) | refine y5 ?_ (by omega) | refine y6 ?_ (by with_unfolding_all rfl) | refine y7 ?_ (by with_unfolding_all rfl) | refine y8 ?_ (by with_unfolding_all rfl) | refine y9 ?_ (by with_unfolding_all rfl) | refine ya ?_ (by with_unfolding_all rfl)) | (simp -dsimp only [↓cw_ops, ↓cw_exit, ↓seqK_normal, ↓blockK_same, ↓getK_same, ↓getK_ne, ↓evK_tmp, ↓opsW_nil, ↓opsW_d, ↓opW_move, ↓opW_assign, ↓opW_bin, ↓bin_mul, ↓opW_extract, ↓ext_tuple, ↓r35_18_w, ↓s35_19_w, List.getElem?_cons_zero, List.getElem?_cons_succ, onV_some', ne_eq, Nat.reduceEqDiff, not_false_eq_true, Bool.not_false, w]))
    refine of_tail pt hs ht1 (by omega) ?_ ?_ ?_ ?_ fun h2 X2 => hK h2 (X1.trans (X2.mono n1))
    · simp only [T.get_set]; simpa [strV] using g0'
    · simp [T.get_set]
    · simp [T.get_set]
    · simp [T.get_set, strV]
  · have e : k = 0 := by omega
    subst e
    have e : tailB 0 = [] := by unfold tailB; rw [if_neg (by decide), if_neg (by decide)]
    have hc := cut_no (Lib.decDigits u ++ tailB 0) [50, 94] 42 (by rw [e, List.append_nil]; exact dig_ne (by decide))
    have hc2 := cut_no (Lib.decDigits u ++ tailB 0) [50, 94] 47 (by rw [e, List.append_nil]; exact dig_ne (by decide))
    rw [hc]
    unfold strV
    repeat' (first | done | with_reducible (first | refine y1 ?_ (by omega) | refine y2 ?_ (by omega) | refine y3 (fun _ => ?_) (fun _ => ?_) | refine y4 ?_ (by omega) (by omega) | refine y5 ?_ (by omega) | refine y6 ?_ (by with_unfolding_all rfl) | refine y7 ?_ (by with_unfolding_all rfl) | refine y8 ?_ (by with_unfolding_all rfl) | refine y9 ?_ (by with_unfolding_all rfl) | refine ya ?_ (by with_unfolding_all rfl)) | (simp -dsimp only [↓cw_ops, ↓cw_seq, ↓cw_block, ↓cw_exit, ↓cw_cond, ↓seqK_normal, ↓seqK_exit, ↓blockK_same, ↓getK_same, ↓getK_ne, ↓evK_tmp, ↓evK_int, ↓evK_string, ↓condV_var, ↓opsW_nil, ↓opsW_d, ↓opW_move, ↓opW_assign, ↓evs_nil, ↓evs_cons, ↓opW_call, ↓opW_un, ↓un_not, ↓opW_extract, ↓ext_tuple, ↓r35_28_w, ↓s35_29_w, ↓s35_30_w, ↓r35_31_w, ↓s35_32_w, ↓s35_33_w, ↓s35_34_w, ↓s35_35_w, ↓s35_36_w, ↓r35_37_w, ↓s35_38_w, ↓s35_39_w, List.getElem?_cons_zero, List.getElem?_cons_succ, onV_some', brK_true, ne_eq, Nat.reduceEqDiff, not_false_eq_true, Bool.not_false]))
    refine cut_ret (s := Lib.decDigits u ++ tailB 0) (p := [47, 50, 94]) hm1 (by omega) ?_
    rw [hc2]
    unfold strV
    repeat' (first | done | with_reducible (first | refine y1 ?_ (by omega) | refine y2 ?_ (by omega) | refine y3 (fun _ => ?_) (fun _ => ?_) | refine y4 ?_ (by omega) (by omega) | refine y5 ?_ (by omega) | refine y6 ?_ (by with_unfolding_all rfl) | refine y7 ?_ (by with_unfolding_all rfl) | refine y8 ?_ (by with_unfolding_all rfl) | refine y9 ?_ (by with_unfolding_all rfl) | refine ya ?_ (by with_unfolding_all rfl)) | (simp -dsimp only [↓cw_skip, ↓cw_ops, ↓cw_seq, ↓cw_exit, ↓cw_cond, ↓seqK_normal, ↓blockK_normal, ↓blockK_same, ↓getK_same, ↓getK_ne, ↓evK_tmp, ↓evK_int, ↓condV_var, ↓opsW_nil, ↓opsW_d, ↓opW_move, ↓opW_assign, ↓opW_extract, ↓ext_tuple, ↓s35_22_w, ↓r35_23_w, ↓s35_24_w, ↓s35_25_w, ↓r35_26_w, ↓s35_27_w, List.getElem?_cons_zero, List.getElem?_cons_succ, onV_some', brK_false, ne_eq, Nat.reduceEqDiff, not_false_eq_true, Bool.false_eq_true,  Bool.not_false]))
    refine of_tail pt hs ht1 (by omega) ?_ ?_ ?_ ?_ fun h2 X2 => hK h2 (X1.trans (X2.mono n1))
    · simp only [T.get_set]; simpa [strV] using g0'
    · simp [T.get_set]
    · simp [T.get_set]
    · simp [T.get_set, strV, e]
end Go.Proofs.YtjcmcoabckkjoaaDoor.Li

namespace Go.Proofs.YtjcmcoabckkjoaaDoor.Li
open Go.Ev
set_option maxRecDepth 100000
set_option maxHeartbeats 400000
theorem same_ret {n m : Nat} {h : Heap} {K : Value → Heap → Prop} (hn : n < 18446744073709551616) (hm : m < 18446744073709551616) (he : (isNan n = true ∧ isNan m = true) ∨ n = m) (hK : K (.bool true) h) : Ret env (.func 12) [.float .f64 n, .float .f64 m] h K := by
  refine F12 rfl ?_
  repeat' (first | done | with_reducible (first | refine y1 ?_ (by omega) | refine y2 ?_ (by omega) | refine y3 (fun _ => ?_) (fun _ => ?_) | refine y4 ?_ (by omega) (by omega) | refine y5 ?_ (by omega) | refine y6 ?_ (by with_unfolding_all rfl) | refine y7 ?_ (by with_unfolding_all rfl) | refine y8 ?_ (by with_unfolding_all rfl) | refine y9 ?_ (by with_unfolding_all rfl) | refine ya ?_ (by with_unfolding_all rfl)) | (simp -dsimp only [↓cw_ops, ↓cw_seq, ↓seqK_normal, ↓getK_same, ↓getK_ne, ↓evK_tmp, ↓evK_bool, ↓opsW_nil, ↓opsW_d, ↓opW_move, ↓opW_assign, ↓evs_nil, ↓evs_cons, ↓opW_call, ↓setAll_cons, ↓setAll_nil, ↓r12_0_w, ↓s12_1_w, ↓r12_2_w, ↓s12_3_w, ne_eq, Nat.reduceEqDiff, Nat.reduceAdd, not_false_eq_true, Nat.one_ne_zero]))
  refine nan_fl hn ?_
  rcases he with ⟨h1, h2⟩ | rfl
  · rw [h1]
    repeat' (first | done | with_reducible (first | refine y1 ?_ (by omega) | refine y2 ?_ (by omega) | refine y3 (fun _ => ?_) (fun _ => ?_) | refine y4 ?_ (by omega) (by omega) | refine y5 ?_ (by omega) | refine y6 ?_ (by with_unfolding_all rfl) | refine y7 ?_ (by with_unfolding_all rfl) | refine y8 ?_ (by with_unfolding_all rfl) | refine y9 ?_ (by with_unfolding_all rfl) | refine ya ?_ (by with_unfolding_all rfl)) | (simp -dsimp only [↓getK_same, ↓getK_ne, ↓evK_tmp, ↓gdV_var, ↓opsW_d, ↓opsW_gd, ↓opW_move, ↓evs_nil, ↓evs_cons, ↓opW_call, ↓setAll_cons, ↓setAll_nil, brK_true, ne_eq, Nat.reduceEqDiff, Nat.reduceAdd, not_false_eq_true]))
    refine nan_fl hm ?_
    rw [h2]
    repeat' (first | done | with_reducible (first | refine y1 ?_ (by omega) | refine y2 ?_ (by omega) | refine y3 (fun _ => ?_) (fun _ => ?_) | refine y4 ?_ (by omega) (by omega) | refine y5 ?_ (by omega) | refine y6 ?_ (by with_unfolding_all rfl) | refine y7 ?_ (by with_unfolding_all rfl) | refine y8 ?_ (by with_unfolding_all rfl) | refine y9 ?_ (by with_unfolding_all rfl) | refine ya ?_ (by with_unfolding_all rfl)) | (simp -dsimp only [↓cw_ret, ↓seqK_normal, ↓getK_same, ↓getK_ne, ↓evK_tmp, ↓evK_bool, ↓condV_var, ↓gdV_var, ↓opsW_nil, ↓opsW_d, ↓opsW_gd, ↓opW_move, ↓opW_assign, ↓opW_pick, ↓resK_one, brK_true, brK_false, ne_eq, Nat.reduceEqDiff, not_false_eq_true, Bool.true_eq_false]))
    exact hK
  · cases hb : isNan n with
    | false =>
      repeat' (first | done | with_reducible (first | refine y1 ?_ (by omega) | refine y2 ?_ (by omega) | refine y3 (fun _ => ?_) (fun _ => ?_) | refine y4 ?_ (by omega) (by omega) | refine y5 ?_ (by omega) | refine y6 ?_ (by with_unfolding_all rfl) | refine y7 ?_ (by with_unfolding_all rfl) | refine y8 ?_ (by with_unfolding_all rfl) | refine y9 ?_ (by with_unfolding_all rfl) | refine ya ?_ (by with_unfolding_all rfl)) | (simp -dsimp only [↓getK_same, ↓getK_ne, ↓evK_tmp, ↓evK_bool, ↓condV_var, ↓gdV_var, ↓opsW_d, ↓opsW_gd, ↓opW_move, ↓opW_pick, ↓evs_nil, ↓evs_cons, ↓opW_call, ↓setAll_cons, ↓setAll_nil, brK_true, brK_false, ne_eq, Nat.reduceEqDiff, Nat.reduceAdd, not_false_eq_true, Nat.one_ne_zero, Bool.false_eq_true]))
      refine bits_fl ?_
      repeat' (first | done | with_reducible (first | refine y1 ?_ (by omega) | refine y2 ?_ (by omega) | refine y3 (fun _ => ?_) (fun _ => ?_) | refine y4 ?_ (by omega) (by omega) | refine y5 ?_ (by omega) | refine y6 ?_ (by with_unfolding_all rfl) | refine y7 ?_ (by with_unfolding_all rfl) | refine y8 ?_ (by with_unfolding_all rfl) | refine y9 ?_ (by with_unfolding_all rfl) | refine ya ?_ (by with_unfolding_all rfl)) | (simp -dsimp only [↓getK_same, ↓getK_ne, ↓evK_tmp, ↓gdV_var, ↓opsW_gd, ↓opW_move, ↓evs_nil, ↓evs_cons, ↓opW_call, ↓setAll_cons, ↓setAll_nil, brK_true, ne_eq, Nat.reduceEqDiff, Nat.reduceAdd, not_false_eq_true]))
      refine bits_fl ?_
      repeat' (first | done | with_reducible (first | refine y1 ?_ (by omega) | refine y2 ?_ (by omega) | refine y3 (fun _ => ?_) (fun _ => ?_) | refine y4 ?_ (by omega) (by omega) | refine y5 ?_ (by omega) | refine y6 ?_ (by with_unfolding_all rfl) | refine y7 ?_ (by with_unfolding_all rfl) | refine y8 ?_ (by with_unfolding_all rfl) | refine y9 ?_ (by with_unfolding_all rfl) | refine ya ?_ (by with_unfolding_all rfl)) | (simp -dsimp only [↓cw_ret, ↓seqK_normal, ↓getK_same, ↓getK_ne, ↓evK_tmp, ↓condV_var, ↓gdV_var, ↓opsW_nil, ↓opsW_d, ↓opsW_gd, ↓opW_assign, ↓opW_pick, ↓opW_bin, ↓bin_eql, ↓resK_one, brK_true, brK_false, ne_eq, Nat.reduceEqDiff, not_false_eq_true, Bool.false_eq_true]))
      exact hK
    | true =>
      repeat' (first | done | with_reducible (first | refine y1 ?_ (by omega) | refine y2 ?_ (by omega) | refine y3 (fun _ => ?_) (fun _ => ?_) | refine y4 ?_ (by omega) (by omega) | refine y5 ?_ (by omega) | refine y6 ?_ (by with_unfolding_all rfl) | refine y7 ?_ (by with_unfolding_all rfl) | refine y8 ?_ (by with_unfolding_all rfl) | refine y9 ?_ (by with_unfolding_all rfl) | refine ya ?_ (by with_unfolding_all rfl)) | (simp -dsimp only [↓getK_same, ↓getK_ne, ↓evK_tmp, ↓gdV_var, ↓opsW_d, ↓opsW_gd, ↓opW_move, ↓evs_nil, ↓evs_cons, ↓opW_call, ↓setAll_cons, ↓setAll_nil, brK_true, ne_eq, Nat.reduceEqDiff, Nat.reduceAdd, not_false_eq_true]))
      refine nan_fl hn ?_
      rw [hb]
      repeat' (first | done | with_reducible (first | refine y1 ?_ (by omega) | refine y2 ?_ (by omega) | refine y3 (fun _ => ?_) (fun _ => ?_) | refine y4 ?_ (by omega) (by omega) | refine y5 ?_ (by omega) | refine y6 ?_ (by with_unfolding_all rfl) | refine y7 ?_ (by with_unfolding_all rfl) | refine y8 ?_ (by with_unfolding_all rfl) | refine y9 ?_ (by with_unfolding_all rfl) | refine ya ?_ (by with_unfolding_all rfl)) | (simp -dsimp only [↓cw_ret, ↓seqK_normal, ↓getK_same, ↓getK_ne, ↓evK_tmp, ↓evK_bool, ↓condV_var, ↓gdV_var, ↓opsW_nil, ↓opsW_d, ↓opsW_gd, ↓opW_move, ↓opW_assign, ↓opW_pick, ↓resK_one, brK_true, brK_false, ne_eq, Nat.reduceEqDiff, not_false_eq_true, Bool.true_eq_false]))
      exact hK
theorem known_ret {h : Heap} {K : Value → Heap → Prop} (ht : tabsOk tabs h = true) (hK : K (.bool true) h) : Ret env (.func 8) [] h K := by
  refine Ret.ext (v := .bool true) ?_ hK
  show extTab tabs ext9 8 8 [] h = _
  simp only [extTab, Nat.beq_refl, cond_true, ht]
theorem cls_same {n c : Nat} (hn : n < 18446744073709551616) (hc : c ∈ clsC) (e : classB c = classB n) : (isNan n = true ∧ isNan c = true) ∨ n = c := by
  have hin := isNan_iff n
  have key : classB n = if isNan n then [110, 97, 110] else if rungN n = 9218868437227405312 then (if negN n then [45, 105, 110, 102] else [105, 110, 102]) else if rungN n = 0 then (if negN n then [45, 48] else [48]) else [] := rfl
  simp only [clsC, List.mem_cons, List.not_mem_nil, or_false] at hc
  have v0 : classB 9221120237041090561 = [110, 97, 110] := by decide
  have v1 : classB 9218868437227405312 = [105, 110, 102] := by decide
  have v2 : classB 18442240474082181120 = [45, 105, 110, 102] := by decide
  have v3 : classB 0 = [48] := by decide
  have v4 : classB 9223372036854775808 = [45, 48] := by decide
  have i0 : isNan 9221120237041090561 = true := by decide
  cases hnan : isNan n with
  | true =>
    rw [hnan, if_pos rfl] at key
    rw [key] at e
    rcases hc with rfl | rfl | rfl | rfl | rfl
    · exact .inl ⟨rfl, i0⟩
    · rw [v1] at e; exact absurd e (by decide)
    · rw [v2] at e; exact absurd e (by decide)
    · rw [v3] at e; exact absurd e (by decide)
    · rw [v4] at e; exact absurd e (by decide)
  | false =>
    right
    rw [hnan, if_neg (by decide)] at key
    unfold rungN at key
    by_cases h1 : n % 9223372036854775808 = 9218868437227405312
    · rw [if_pos h1] at key
      unfold negN at key
      by_cases hg : 9223372036854775808 ≤ n
      · rw [decide_eq_true hg, if_pos rfl] at key
        rw [key] at e
        rcases hc with rfl | rfl | rfl | rfl | rfl
        · rw [v0] at e; exact absurd e (by decide)
        · rw [v1] at e; exact absurd e (by decide)
        · omega
        · rw [v3] at e; exact absurd e (by decide)
        · rw [v4] at e; exact absurd e (by decide)
      · rw [decide_eq_false hg, if_neg (by decide)] at key
        rw [key] at e
        rcases hc with rfl | rfl | rfl | rfl | rfl
        · rw [v0] at e; exact absurd e (by decide)
        · omega
        · rw [v2] at e; exact absurd e (by decide)
        · rw [v3] at e; exact absurd e (by decide)
        · rw [v4] at e; exact absurd e (by decide)
    · rw [if_neg h1] at key
      by_cases h2 : n % 9223372036854775808 = 0
      · rw [if_pos h2] at key
        unfold negN at key
        by_cases hg : 9223372036854775808 ≤ n
        · rw [decide_eq_true hg, if_pos rfl] at key
          rw [key] at e
          rcases hc with rfl | rfl | rfl | rfl | rfl
          · rw [v0] at e; exact absurd e (by decide)
          · rw [v1] at e; exact absurd e (by decide)
          · rw [v2] at e; exact absurd e (by decide)
          · rw [v3] at e; exact absurd e (by decide)
          · omega
        · rw [decide_eq_false hg, if_neg (by decide)] at key
          rw [key] at e
          rcases hc with rfl | rfl | rfl | rfl | rfl
          · rw [v0] at e; exact absurd e (by decide)
          · rw [v1] at e; exact absurd e (by decide)
          · rw [v2] at e; exact absurd e (by decide)
          · omega
          · rw [v4] at e; exact absurd e (by decide)
      · rw [if_neg h2] at key
        rw [key] at e
        rcases hc with rfl | rfl | rfl | rfl | rfl
        · rw [v0] at e; exact absurd e (by decide)
        · rw [v1] at e; exact absurd e (by decide)
        · rw [v2] at e; exact absurd e (by decide)
        · rw [v3] at e; exact absurd e (by decide)
        · rw [v4] at e; exact absurd e (by decide)
theorem cls_has (n : Nat) (hne : classB n ≠ []) : ∃ c ∈ clsC, classB c = classB n := by
  have v0 : classB 9221120237041090561 = [110, 97, 110] := by decide
  have v1 : classB 9218868437227405312 = [105, 110, 102] := by decide
  have v2 : classB 18442240474082181120 = [45, 105, 110, 102] := by decide
  have v3 : classB 0 = [48] := by decide
  have v4 : classB 9223372036854775808 = [45, 48] := by decide
  rcases class_cases n with h | h | h | h | h | h
  · exact absurd h hne
  · exact ⟨_, by simp [clsC], v0.trans h.symm⟩
  · exact ⟨_, by simp [clsC], v2.trans h.symm⟩
  · exact ⟨_, by simp [clsC], v1.trans h.symm⟩
  · exact ⟨_, by simp [clsC], v4.trans h.symm⟩
  · exact ⟨_, by simp [clsC], v3.trans h.symm⟩
theorem of_ret {n : Nat} {h : Heap} {K : Value → Heap → Prop} (hn : n < 18446744073709551616) (ht : tabsOk tabs h = true) (he : errsOk h = true) (hh : 5 < h.n) (hm : isI (cellAt h ⟨3, 0, none⟩) = true)
    (hK : ∀ m h', m < 18446744073709551616 → ((isNan n = true ∧ isNan m = true) ∨ n = m) → ExtB 4 h h' → K (ofT (.float .f64 m)) h') : Ret env (.func 35) [strV (textB n)] h K := by
  by_cases hc : classB n = []
  · exact of_fin (Fin.of hn hc) ht he hh hm fun h' X => hK n h' hn (.inr rfl) (X.mono (by omega))
  · have e : textB n = classB n := by unfold textB; rw [if_pos hc]
    rw [e]
    have hlt : ∀ c ∈ clsC, c < 18446744073709551616 := by decide
    refine of_loop (fun c h' hcc X he => hK c h' (hlt c hcc) (cls_same hn hcc he) (X.mono (by omega))) fun hno => ?_
    obtain ⟨c, hcc, he⟩ := cls_has n hc
    exact absurd he (hno c hcc)
end Go.Proofs.YtjcmcoabckkjoaaDoor.Li

