/- The reference's text of a number; digits read. -/
import Derived.Test.YtjcmcoabckkjoaaDoorLG
set_option linter.unusedSimpArgs false
set_option linter.unusedVariables false
namespace Go.Proofs.YtjcmcoabckkjoaaDoor.Li
open Go.Ev
set_option maxRecDepth 100000
set_option maxHeartbeats 400000
theorem parts_ret {n : Nat} {h : Heap} {K : Value → Heap → Prop} (hn : n < 18446744073709551616)
    (hK : K (.tuple #[.bool (negN n), .int .i64 (expE n), .int .u64 (n % 4503599627370496 : Nat)]) h) : Ret env (.func 40) [.float .f64 n] h K := by
  have e0 : (n : Int).tdiv 4503599627370496 = (n / 4503599627370496 : Nat) := rfl
  have e1 : IntKind.u64.wrap ((n : Int).tdiv 4503599627370496) = (n / 4503599627370496 : Nat) := by rw [e0]; exact wrap_u64 (by omega) (by omega)
  have e2 : ((n / 4503599627370496 : Nat) : Int).tmod 2048 = (n / 4503599627370496 % 2048 : Nat) := rfl
  have e3 : IntKind.i64.wrap (n / 4503599627370496 % 2048 : Nat) = (n / 4503599627370496 % 2048 : Nat) := wrap_i64 (by omega) (by omega)
  have e4 : (n : Int).tmod 4503599627370496 = (n % 4503599627370496 : Nat) := rfl
  have e5 : expE n = n / 4503599627370496 % 2048 := by unfold expE rungN; omega
  rw [e5] at hK
  unfold negN at hK
  refine F40 rfl ?_
  repeat' (first | done | with_reducible (first | refine y1 ?_ (by omega) | refine y2 ?_ (by omega) | refine y3 (fun _ => ?_) (fun _ => ?_) | refine y4 ?_ (by omega) (by omega) | refine y5 ?_ (by omega) | refine y6 ?_ (by with_unfolding_all rfl) | refine y7 ?_ (by with_unfolding_all rfl) | refine y8 ?_ (by with_unfolding_all rfl) | refine y9 ?_ (by with_unfolding_all rfl) | refine ya ?_ (by with_unfolding_all rfl)) | (simp -dsimp only [↓cw_ops, ↓cw_seq, ↓seqK_normal, ↓getK_same, ↓getK_ne, ↓evK_tmp, ↓evK_int, ↓evK_bool, ↓opsW_nil, ↓opsW_d, ↓opW_move, ↓opW_assign, ↓evs_nil, ↓evs_cons, ↓opW_call, ↓setAll_cons, ↓setAll_nil, ↓r40_2_w, ↓s40_3_w, ↓r40_4_w, ↓s40_5_w, ne_eq, Nat.reduceEqDiff, not_false_eq_true]))
  refine bits_fl ?_
  repeat' (first | done | with_reducible (first | refine y1 ?_ (by omega) | refine y2 ?_ (by omega) | refine y3 (fun _ => ?_) (fun _ => ?_) | refine y4 ?_ (by omega) (by omega) | refine y5 ?_ (by omega) | refine y6 ?_ (by with_unfolding_all rfl) | refine y7 ?_ (by with_unfolding_all rfl) | refine y8 ?_ (by with_unfolding_all rfl) | refine y9 ?_ (by with_unfolding_all rfl) | refine ya ?_ (by with_unfolding_all rfl)) | (simp -dsimp only [↓cw_ops, ↓cw_seq, ↓cw_ret, ↓seqK_normal, ↓getK_same, ↓getK_ne, ↓evK_tmp, ↓evK_int, ↓opsW_nil, ↓opsW_d, ↓opW_move, ↓opW_assign, ↓opW_bin, ↓bin_quo, ↓bin_rem, ↓bin_gtr, ↓cint_int, ↓resK_three, ↓cv_23_3, ↓r40_0_w, ↓s40_1_w, ne_eq, Nat.reduceEqDiff, not_false_eq_true, e1, e2, e3, e4]))
  · rename_i hg
    rw [decide_eq_true (by omega)] at hK
    exact hK
  · rename_i hg
    rw [decide_eq_false (by omega)] at hK
    exact hK
theorem refText_no {h : Heap} {K : Value → Heap → Prop} (hK : K (strV [110, 97, 110]) h) : Ret env (.func 36) [.chan none] h K := Ret.ext (v := strV [110, 97, 110]) rfl hK
theorem refText_tail {n : Nat} {h : Heap} {K : Value → Heap → Prop} {fr : Fr} (f : Fin n) (g7 : fr.get 7 = some (.int .u64 (mant n))) (g8 : fr.get 8 = some (.int .i64 (expo n))) (g6 : fr.get 6 = some (strV (signL n)))
    (hK : ∀ h', ExtB h.n h h' → K (strV (signL n ++ Lib.decDigits (mant n / 2 ^ Lib.ctz 64 (mant n)) ++ tailB (expo n + (Lib.ctz 64 (mant n) : Nat)))) h') : s36_26.wp env 68 none fr h (resK env [.tmp 2] K) := by
  have hfe := f.exp
  obtain ⟨hm0, hm⟩ := f.mant
  have hev := fun j => ctz_even (j := j) hm0 (show mant n < 18446744073709551616 by omega)
  have hend := ctz_end hm0 (show mant n < 18446744073709551616 by omega)
  obtain ⟨mm, hodd, hct⟩ := ctz_odd hm0 (show mant n < 18446744073709551616 by omega)
  have hs : (signL n).length ≤ 1 := by unfold signL; split <;> simp
  have hk1 : -1074 ≤ expo n ∧ expo n ≤ 971 := by unfold expo; omega
  have hmle : ∀ j, mant n / 2 ^ j ≤ mant n := fun j => Nat.div_le_self _ _
  generalize hT : Lib.ctz 64 (mant n) = tz at *
  repeat' (first | done | with_reducible (first | refine y1 ?_ (by omega) | refine y2 ?_ (by omega) | refine y3 (fun _ => ?_) (fun _ => ?_) | refine y4 ?_ (by omega) (by omega) | refine y5 ?_ (by omega) | refine y6 ?_ (by with_unfolding_all rfl) | refine y7 ?_ (by with_unfolding_all rfl) | refine y8 ?_ (by with_unfolding_all rfl) | refine y9 ?_ (by with_unfolding_all rfl) | refine ya ?_ (by with_unfolding_all rfl)) | (simp -dsimp only [↓cw_seq, ↓cw_block, ↓s36_25_w, ↓s36_26_w]))
  refine cw_loopI (fun q fr' h' => h' = h ∧ ∃ j : Nat, j ≤ tz ∧ q = tz - j ∧ fr'.get 7 = some (.int .u64 (mant n / 2 ^ j : Nat)) ∧ fr'.get 8 = some (.int .i64 (expo n + j))) tz ?_ (by omega) ?_
  · exact ⟨rfl, 0, by omega, by omega, by simpa using g7, by simpa using g8⟩
  rintro q fr2 h' ⟨rfl, j, hj, rfl, k7, k8⟩ hag
  have k6 := (hag 6 rfl).trans g6
  have e7 := getK_of k7
  have e8 := getK_of k8
  have d1 : ((mant n / 2 ^ j : Nat) : Int).tmod 2 = ((mant n / 2 ^ j % 2 : Nat) : Int) := rfl
  have d2 : ((mant n / 2 ^ j : Nat) : Int).tdiv 2 = ((mant n / 2 ^ j / 2 : Nat) : Int) := rfl
  have hl := hmle j
  have d3 : IntKind.wrap .u64 ((mant n / 2 ^ j / 2 : Nat) : Int) = ((mant n / 2 ^ j / 2 : Nat) : Int) := (fun (z : Nat) (hz : z ≤ mant n) => wrap_u64 (n := ((z / 2 : Nat) : Int)) (by omega) (by omega)) _ hl
  have d4 : mant n / 2 ^ j / 2 = mant n / 2 ^ (j + 1) := by rw [Nat.pow_succ, Nat.div_div_eq_div_mul]
  have d5 : IntKind.wrap .i64 (expo n + (j : Int) + 1) = expo n + ((j + 1 : Nat) : Int) := by rw [wrap_i64 (by omega) (by omega)]; omega
  by_cases hlt : j < tz
  · have d6 := hev j hlt
    repeat' (first | done | with_reducible (first | refine y1 ?_ (by omega) | refine y2 ?_ (by omega) | refine y3 (fun _ => ?_) (fun _ => ?_) | refine y4 ?_ (by omega) (by omega) | refine y5 ?_ (by omega) | refine y6 ?_ (by with_unfolding_all rfl) | refine y7 ?_ (by with_unfolding_all rfl) | refine y8 ?_ (by with_unfolding_all rfl) | refine y9 ?_ (by with_unfolding_all rfl) | refine ya ?_ (by with_unfolding_all rfl)) | (simp -dsimp only [↓cw_skip, ↓cw_ops, ↓cw_seq, ↓cw_block, ↓cw_cond, ↓seqK_normal, ↓blockK_normal, ↓loopK_normal, ↓getK_same, ↓getK_ne, ↓evK_tmp, ↓evK_int, ↓condV_var, ↓opsW_nil, ↓opsW_d, ↓opW_move, ↓opW_assign, ↓opW_bin, ↓bin_add, ↓bin_quo, ↓bin_rem, ↓bin_eql, ↓r36_16_w, ↓s36_17_w, ↓r36_18_w, ↓s36_19_w, ↓s36_20_w, ↓s36_21_w, ↓r36_22_w, ↓s36_23_w, ↓s36_24_w, brK_true, true_and, ne_eq, Nat.reduceEqDiff, not_false_eq_true, ↓e7, ↓e8, d1, d2, d3, d6]))
    refine ⟨tz - (j + 1), by omega, j + 1, by omega, rfl, ?_, ?_⟩
    · simp only [T.get_set]; simp [d4]
    · simp only [T.get_set]; simp [d5]
  · have e : j = tz := by omega
    subst e
    repeat' (first | done | with_reducible (first | refine y1 ?_ (by omega) | refine y2 ?_ (by omega) | refine y3 (fun _ => ?_) (fun _ => ?_) | refine y4 ?_ (by omega) (by omega) | refine y5 ?_ (by omega) | refine y6 ?_ (by with_unfolding_all rfl) | refine y7 ?_ (by with_unfolding_all rfl) | refine y8 ?_ (by with_unfolding_all rfl) | refine y9 ?_ (by with_unfolding_all rfl) | refine ya ?_ (by with_unfolding_all rfl)) | (simp -dsimp only [↓cw_ops, ↓cw_seq, ↓cw_exit, ↓cw_cond, ↓seqK_normal, ↓seqK_exit, ↓blockK_same, ↓loopK_exit, ↓getK_same, ↓evK_tmp, ↓evK_int, ↓condV_var, ↓opsW_nil, ↓opsW_d, ↓opW_move, ↓opW_bin, ↓bin_rem, ↓bin_eql, ↓s36_21_w, ↓r36_22_w, ↓s36_23_w, ↓s36_24_w, brK_false, ne_eq, Bool.false_eq_true,  ↓e7, d1, hend]))
    generalize hq : mant n / 2 ^ j = q at *
    have k6 := getK_of k6
    unfold strV at k6 hK
    have hd := dec_le (u := q) (by omega)
    repeat' (first | done | with_reducible (first | refine y1 ?_ (by omega) | refine y2 ?_ (by omega) | refine y3 (fun _ => ?_) (fun _ => ?_) | refine y4 ?_ (by omega) (by omega) | refine y5 ?_ (by omega) | refine y6 ?_ (by with_unfolding_all rfl) | refine y7 ?_ (by with_unfolding_all rfl) | refine y8 ?_ (by with_unfolding_all rfl) | refine y9 ?_ (by with_unfolding_all rfl) | refine ya ?_ (by with_unfolding_all rfl)) | (simp -dsimp only [↓cw_ops, ↓cw_seq, ↓getK_same, ↓getK_ne, ↓evK_tmp, ↓opsW_d, ↓opW_move, ↓evs_nil, ↓evs_cons, ↓opW_call, ↓r36_14_w, ↓s36_15_w, ne_eq, Nat.reduceEqDiff, not_false_eq_true, ↓e7, ↓k6]))
    refine big_ret q (Nat.le_refl _) (by omega) fun h2 X => ?_
    have n1 := X.n
    unfold strV
    by_cases hp : 0 < expo n + (j : Int)
    · have hl := Lib.itoa_length_le (expo n + (j : Int)) (by omega) (by omega)
      have htl : tailB (expo n + (j : Int)) = [42, 50, 94] ++ Lib.itoa (expo n + (j : Int)) := by unfold tailB; rw [if_pos hp]
      rw [htl] at hK
      repeat' (first | done | with_reducible (first | refine y1 ?_ (by omega) | refine y2 ?_ (by omega) | refine y3 (fun _ => ?_) (fun _ => ?_) | refine y4 ?_ (by omega) (by omega) | refine y5 ?_ (by omega) | refine y6 ?_ (by with_unfolding_all rfl) | refine y7 ?_ (by with_unfolding_all rfl) | refine y8 ?_ (by with_unfolding_all rfl) | refine y9 ?_ (by with_unfolding_all rfl) | refine ya ?_ (by with_unfolding_all rfl)) | (simp -dsimp only [↓cw_ops, ↓cw_seq, ↓cw_cond, ↓seqK_normal, ↓getK_same, ↓getK_ne, ↓evK_tmp, ↓evK_int, ↓evK_string, ↓condV_var, ↓opsW_nil, ↓opsW_d, ↓opW_move, ↓opW_assign, ↓opW_bin, ↓bin_gtr, ↓evs_nil, ↓evs_cons, ↓opW_call, ↓r36_8_w, ↓s36_9_w, ↓s36_10_w, ↓r36_11_w, ↓s36_12_w, ↓s36_13_w, List.length_cons, List.length_nil, brK_true, ne_eq, Nat.reduceEqDiff, Nat.reduceAdd, not_false_eq_true, ↓e8, bin_addS, app_str, str_size, List.length_append]))
      refine num_ret (by omega) (by omega) fun h3 X2 => ?_
      unfold strV
      repeat' (first | done | with_reducible (first | refine y1 ?_ (by omega) | refine y2 ?_ (by omega) | refine y3 (fun _ => ?_) (fun _ => ?_) | refine y4 ?_ (by omega) (by omega) | refine y5 ?_ (by omega) | refine y6 ?_ (by with_unfolding_all rfl) | refine y7 ?_ (by with_unfolding_all rfl) | refine y8 ?_ (by with_unfolding_all rfl) | refine y9 ?_ (by with_unfolding_all rfl) | refine ya ?_ (by with_unfolding_all rfl)) | (simp -dsimp only [↓cw_ret, ↓seqK_normal, ↓seqK_ret, ↓getK_same, ↓getK_ne, ↓evK_tmp, ↓opsW_nil, ↓opsW_d, ↓opW_assign, ↓opW_bin, ↓resK_one, List.length_cons, List.length_nil, ne_eq, Nat.reduceEqDiff, Nat.reduceAdd, not_false_eq_true, bin_addS, app_str, str_size, List.length_append]))
      have := hK h3 (X.trans (X2.mono n1))
      simpa [List.append_assoc] using this
    by_cases hng : expo n + (j : Int) < 0
    · have hl := Lib.itoa_length_le (-(expo n + (j : Int))) (by omega) (by omega)
      have htl : tailB (expo n + (j : Int)) = [47, 50, 94] ++ Lib.itoa (-(expo n + (j : Int))) := by unfold tailB; rw [if_neg hp, if_pos hng]
      rw [htl] at hK
      have c8 : IntKind.wrap .i64 (0 - (expo n + (j : Int))) = -(expo n + (j : Int)) := by rw [wrap_i64 (by omega) (by omega)]; omega
      repeat' (first | done | with_reducible (first | refine y1 ?_ (by omega) | refine y2 ?_ (by omega) | refine y3 (fun _ => ?_) (fun _ => ?_) | refine y4 ?_ (by omega) (by omega) | refine y5 ?_ (by omega) | refine y6 ?_ (by with_unfolding_all rfl) | refine y7 ?_ (by with_unfolding_all rfl) | refine y8 ?_ (by with_unfolding_all rfl) | refine y9 ?_ (by with_unfolding_all rfl) | refine ya ?_ (by with_unfolding_all rfl)) | (simp -dsimp only [↓cw_skip, ↓cw_ops, ↓cw_seq, ↓cw_cond, ↓seqK_normal, ↓getK_same, ↓getK_ne, ↓evK_tmp, ↓evK_int, ↓evK_string, ↓condV_var, ↓opsW_nil, ↓opsW_d, ↓opW_move, ↓opW_assign, ↓opW_bin, ↓bin_lss, ↓bin_gtr, ↓evs_nil, ↓evs_cons, ↓opW_call, ↓opW_un, ↓un_neg, ↓r36_2_w, ↓s36_3_w, ↓s36_4_w, ↓r36_5_w, ↓s36_6_w, ↓s36_7_w, ↓s36_10_w, ↓r36_11_w, ↓s36_12_w, ↓s36_13_w, List.length_cons, List.length_nil, brK_true, brK_false, ne_eq, Nat.reduceEqDiff, Nat.reduceAdd, not_false_eq_true, Bool.false_eq_true,  ↓e8, c8, bin_addS, app_str, str_size, List.length_append]))
      refine num_ret (by omega) (by omega) fun h3 X2 => ?_
      unfold strV
      repeat' (first | done | with_reducible (first | refine y1 ?_ (by omega) | refine y2 ?_ (by omega) | refine y3 (fun _ => ?_) (fun _ => ?_) | refine y4 ?_ (by omega) (by omega) | refine y5 ?_ (by omega) | refine y6 ?_ (by with_unfolding_all rfl) | refine y7 ?_ (by with_unfolding_all rfl) | refine y8 ?_ (by with_unfolding_all rfl) | refine y9 ?_ (by with_unfolding_all rfl) | refine ya ?_ (by with_unfolding_all rfl)) | (simp -dsimp only [↓cw_ret, ↓seqK_normal, ↓seqK_ret, ↓getK_same, ↓getK_ne, ↓evK_tmp, ↓opsW_nil, ↓opsW_d, ↓opW_assign, ↓opW_bin, ↓resK_one, List.length_cons, List.length_nil, ne_eq, Nat.reduceEqDiff, Nat.reduceAdd, not_false_eq_true, bin_addS, app_str, str_size, List.length_append]))
      have := hK h3 (X.trans (X2.mono n1))
      simpa [List.append_assoc] using this
    · have htl : tailB (expo n + (j : Int)) = [] := by unfold tailB; rw [if_neg hp, if_neg hng]
      rw [htl] at hK
      repeat' (first | done | with_reducible (first | refine y1 ?_ (by omega) | refine y2 ?_ (by omega) | refine y3 (fun _ => ?_) (fun _ => ?_) | refine y4 ?_ (by omega) (by omega) | refine y5 ?_ (by omega) | refine y6 ?_ (by with_unfolding_all rfl) | refine y7 ?_ (by with_unfolding_all rfl) | refine y8 ?_ (by with_unfolding_all rfl) | refine y9 ?_ (by with_unfolding_all rfl) | refine ya ?_ (by with_unfolding_all rfl)) | (simp -dsimp only [↓cw_skip, ↓cw_ops, ↓cw_seq, ↓cw_ret, ↓cw_cond, ↓seqK_normal, ↓getK_same, ↓getK_ne, ↓evK_tmp, ↓evK_int, ↓condV_var, ↓opsW_nil, ↓opsW_d, ↓opW_move, ↓opW_assign, ↓opW_bin, ↓bin_lss, ↓bin_gtr, ↓resK_one, ↓r36_0_w, ↓s36_1_w, ↓s36_4_w, ↓r36_5_w, ↓s36_6_w, ↓s36_7_w, ↓s36_10_w, ↓r36_11_w, ↓s36_12_w, ↓s36_13_w, brK_false, ne_eq, Nat.reduceEqDiff, not_false_eq_true, Bool.false_eq_true,  ↓e8, bin_addS, app_str, str_size]))
      have := hK h2 X
      simpa using this
theorem refText_ret {n : Nat} {h : Heap} {K : Value → Heap → Prop} (hn : n < 18446744073709551616) (hK : ∀ h', ExtB h.n h h' → K (strV (textB n)) h') : Ret env (.func 36) [.float .f64 n] h K := by
  refine F36 rfl rfl ?_
  repeat' (first | done | with_reducible (first | refine y1 ?_ (by omega) | refine y2 ?_ (by omega) | refine y3 (fun _ => ?_) (fun _ => ?_) | refine y4 ?_ (by omega) (by omega) | refine y5 ?_ (by omega) | refine y6 ?_ (by with_unfolding_all rfl) | refine y7 ?_ (by with_unfolding_all rfl) | refine y8 ?_ (by with_unfolding_all rfl) | refine y9 ?_ (by with_unfolding_all rfl) | refine ya ?_ (by with_unfolding_all rfl)) | (simp -dsimp only [↓cw_ops, ↓cw_seq, ↓seqK_normal, ↓getK_same, ↓getK_ne, ↓evK_tmp, ↓evK_string, ↓opsW_nil, ↓opsW_d, ↓opW_move, ↓opW_assign, ↓evs_nil, ↓evs_cons, ↓opW_call, ↓setAll_cons, ↓setAll_nil, ↓r36_63_w, ↓s36_64_w, ↓r36_65_w, ↓s36_66_w, ne_eq, Nat.reduceEqDiff, not_false_eq_true]))
  refine parts_ret hn ?_
  by_cases hc : classB n = []
  · have f := Fin.of hn hc
    have hfe := f.exp
    obtain ⟨hm0, hm⟩ := f.mant
    have hK2 : ∀ h', ExtB h.n h h' → K (strV (signL n ++ Lib.decDigits (mant n / 2 ^ Lib.ctz 64 (mant n)) ++ tailB (expo n + (Lib.ctz 64 (mant n) : Nat)))) h' := fun h' X => by
      have := hK h' X
      unfold textB at this
      rw [if_neg (by rw [hc]; simp)] at this
      exact this
    have hnn : ¬ (expE n = 0 ∧ n % 4503599627370496 = 0) := by have := f.pos; unfold expE rungN at *; omega
    have sg : ∀ b, negN n = b → strV (signL n) = if b then .string ⟨⟨[45]⟩⟩ else .string ⟨⟨[]⟩⟩ := by intro b hb; unfold signL strV; rw [hb]; cases b <;> rfl
    by_cases he : expE n = 0
    · have hm1 : mant n = n % 4503599627370496 := by unfold mant; rw [if_pos he]; unfold expE rungN at *; omega
      have hx : expo n = -1074 := by unfold expo; omega
      rw [he]
      cases hg : negN n with
      | true =>
        repeat' (first | done | with_reducible (first | refine y1 ?_ (by omega) | refine y2 ?_ (by omega) | refine y3 (fun _ => ?_) (fun _ => ?_) | refine y4 ?_ (by omega) (by omega) | refine y5 ?_ (by omega) | refine y6 ?_ (by with_unfolding_all rfl) | refine y7 ?_ (by with_unfolding_all rfl) | refine y8 ?_ (by with_unfolding_all rfl) | refine y9 ?_ (by with_unfolding_all rfl) | refine ya ?_ (by with_unfolding_all rfl)) | (simp -dsimp only [↓cw_skip, ↓cw_ops, ↓cw_seq, ↓cw_cond, ↓seqK_normal, ↓getK_same, ↓getK_ne, ↓evK_tmp, ↓evK_int, ↓evK_bool, ↓evK_string, ↓condV_var, ↓gdV_var, ↓opsW_nil, ↓opsW_d, ↓opsW_gd, ↓opW_move, ↓opW_assign, ↓opW_pick, ↓opW_bin, ↓bin_eql, ↓bin_gtr, ↓setAll_cons, ↓setAll_nil, ↓opW_extract, ↓ext_tuple, ↓s36_31_w, ↓r36_32_w, ↓s36_33_w, ↓s36_34_w, ↓r36_35_w, ↓s36_36_w, ↓s36_39_w, ↓r36_40_w, ↓s36_41_w, ↓s36_42_w, ↓s36_45_w, ↓r36_46_w, ↓s36_47_w, ↓s36_48_w, ↓s36_51_w, ↓r36_52_w, ↓s36_53_w, ↓s36_54_w, ↓r36_55_w, ↓s36_56_w, ↓s36_57_w, ↓r36_58_w, ↓s36_59_w, ↓s36_60_w, ↓r36_61_w, ↓s36_62_w, List.getElem?_cons_zero, List.getElem?_cons_succ, onV_some', brK_true, brK_false, ne_eq, Nat.reduceEqDiff, not_false_eq_true, Bool.false_eq_true]))
        exact refText_tail f (by simp [T.get_set, hm1]) (by simp [T.get_set, hx]) (by rw [sg _ hg]; simp [T.get_set]) hK2
      | false =>
        repeat' (first | done | with_reducible (first | refine y1 ?_ (by omega) | refine y2 ?_ (by omega) | refine y3 (fun _ => ?_) (fun _ => ?_) | refine y4 ?_ (by omega) (by omega) | refine y5 ?_ (by omega) | refine y6 ?_ (by with_unfolding_all rfl) | refine y7 ?_ (by with_unfolding_all rfl) | refine y8 ?_ (by with_unfolding_all rfl) | refine y9 ?_ (by with_unfolding_all rfl) | refine ya ?_ (by with_unfolding_all rfl)) | (simp -dsimp only [↓cw_skip, ↓cw_ops, ↓cw_seq, ↓cw_cond, ↓seqK_normal, ↓getK_same, ↓getK_ne, ↓evK_tmp, ↓evK_int, ↓evK_bool, ↓evK_string, ↓condV_var, ↓gdV_var, ↓opsW_nil, ↓opsW_d, ↓opsW_gd, ↓opW_move, ↓opW_assign, ↓opW_pick, ↓opW_bin, ↓bin_eql, ↓bin_gtr, ↓setAll_cons, ↓setAll_nil, ↓opW_extract, ↓ext_tuple, ↓s36_31_w, ↓r36_32_w, ↓s36_33_w, ↓s36_34_w, ↓r36_35_w, ↓s36_36_w, ↓s36_39_w, ↓r36_40_w, ↓s36_41_w, ↓s36_42_w, ↓s36_45_w, ↓r36_46_w, ↓s36_47_w, ↓s36_48_w, ↓s36_51_w, ↓r36_52_w, ↓s36_53_w, ↓s36_54_w, ↓s36_57_w, ↓r36_58_w, ↓s36_59_w, ↓s36_60_w, ↓r36_61_w, ↓s36_62_w, List.getElem?_cons_zero, List.getElem?_cons_succ, onV_some', brK_true, brK_false, ne_eq, Nat.reduceEqDiff, not_false_eq_true, Bool.false_eq_true]))
        exact refText_tail f (by simp [T.get_set, hm1]) (by simp [T.get_set, hx]) (by rw [sg _ hg]; simp [T.get_set]) hK2
    · have hm1 : mant n = n % 4503599627370496 + 4503599627370496 := by unfold mant; rw [if_neg he]; unfold rungN; omega
      have w1 : IntKind.wrap .u64 (((n % 4503599627370496 : Nat) : Int) + 4503599627370496) = (mant n : Int) := by rw [wrap_u64 (by omega) (by omega)]; omega
      have w2 : IntKind.wrap .i64 ((expE n : Int) - 1075) = expo n := by rw [wrap_i64 (by omega) (by omega)]; unfold expo; omega
      cases hg : negN n with
      | true =>
        repeat' (first | done | with_reducible (first | refine y1 ?_ (by omega) | refine y2 ?_ (by omega) | refine y3 (fun _ => ?_) (fun _ => ?_) | refine y4 ?_ (by omega) (by omega) | refine y5 ?_ (by omega) | refine y6 ?_ (by with_unfolding_all rfl) | refine y7 ?_ (by with_unfolding_all rfl) | refine y8 ?_ (by with_unfolding_all rfl) | refine y9 ?_ (by with_unfolding_all rfl) | refine ya ?_ (by with_unfolding_all rfl)) | (simp -dsimp only [↓cw_skip, ↓cw_ops, ↓cw_seq, ↓cw_cond, ↓seqK_normal, ↓getK_same, ↓getK_ne, ↓evK_tmp, ↓evK_int, ↓evK_bool, ↓evK_string, ↓condV_var, ↓gdV_var, ↓opsW_nil, ↓opsW_d, ↓opsW_gd, ↓opW_move, ↓opW_assign, ↓opW_pick, ↓opW_bin, ↓bin_add, ↓bin_sub, ↓bin_eql, ↓bin_gtr, ↓setAll_cons, ↓setAll_nil, ↓opW_extract, ↓ext_tuple, ↓r36_27_w, ↓s36_28_w, ↓r36_29_w, ↓s36_30_w, ↓s36_31_w, ↓r36_32_w, ↓s36_33_w, ↓s36_34_w, ↓r36_35_w, ↓s36_36_w, ↓s36_39_w, ↓r36_40_w, ↓s36_41_w, ↓s36_42_w, ↓s36_45_w, ↓r36_46_w, ↓s36_47_w, ↓s36_48_w, ↓s36_51_w, ↓r36_52_w, ↓s36_53_w, ↓s36_54_w, ↓r36_55_w, ↓s36_56_w, ↓s36_57_w, ↓r36_58_w, ↓s36_59_w, ↓s36_60_w, ↓r36_61_w, ↓s36_62_w, List.getElem?_cons_zero, List.getElem?_cons_succ, onV_some', brK_true, brK_false, ne_eq, Nat.reduceEqDiff, not_false_eq_true, Bool.false_eq_true,  w1, w2]))
        exact refText_tail f (by simp [T.get_set]) (by simp [T.get_set]) (by rw [sg _ hg]; simp [T.get_set]) hK2
      | false =>
        repeat' (first | done | with_reducible (first | refine y1 ?_ (by omega) | refine y2 ?_ (by omega) | refine y3 (fun _ => ?_) (fun _ => ?_) | refine y4 ?_ (by omega) (by omega) | refine y5 ?_ (by omega) | refine y6 ?_ (by with_unfolding_all rfl) | refine y7 ?_ (by with_unfolding_all rfl) | refine y8 ?_ (by with_unfolding_all rfl) | refine y9 ?_ (by with_unfolding_all rfl) | refine ya ?_ (by with_unfolding_all rfl)) | (simp -dsimp only [↓cw_skip, ↓cw_ops, ↓cw_seq, ↓cw_cond, ↓seqK_normal, ↓getK_same, ↓getK_ne, ↓evK_tmp, ↓evK_int, ↓evK_bool, ↓evK_string, ↓condV_var, ↓gdV_var, ↓opsW_nil, ↓opsW_d, ↓opsW_gd, ↓opW_move, ↓opW_assign, ↓opW_pick, ↓opW_bin, ↓bin_add, ↓bin_sub, ↓bin_eql, ↓bin_gtr, ↓setAll_cons, ↓setAll_nil, ↓opW_extract, ↓ext_tuple, ↓r36_27_w, ↓s36_28_w, ↓r36_29_w, ↓s36_30_w, ↓s36_31_w, ↓r36_32_w, ↓s36_33_w, ↓s36_34_w, ↓r36_35_w, ↓s36_36_w, ↓s36_39_w, ↓r36_40_w, ↓s36_41_w, ↓s36_42_w, ↓s36_45_w, ↓r36_46_w, ↓s36_47_w, ↓s36_48_w, ↓s36_51_w, ↓r36_52_w, ↓s36_53_w, ↓s36_54_w, ↓s36_57_w, ↓r36_58_w, ↓s36_59_w, ↓s36_60_w, ↓r36_61_w, ↓s36_62_w, List.getElem?_cons_zero, List.getElem?_cons_succ, onV_some', brK_true, brK_false, ne_eq, Nat.reduceEqDiff, not_false_eq_true, Bool.false_eq_true,  w1, w2]))
        exact refText_tail f (by simp [T.get_set]) (by simp [T.get_set]) (by rw [sg _ hg]; simp [T.get_set]) hK2
  · have hk := hK h (ExtB.refl _ _)
    unfold textB at hk
    rw [if_pos hc] at hk
    unfold classB at hk
    have hi := isNan_iff n
    cases hnan : isNan n with
    | true =>
      rw [hnan] at hk hi
      have hi := of_decide_eq_true hi.symm
      simp only [if_true] at hk
      have g1 : expE n = 2047 := by unfold expE rungN at *; omega
      have g2 : 0 < n % 4503599627370496 := by unfold rungN at hi; omega
      rw [g1]
      unfold strV at hk
      cases negN n
      · repeat' (first | done | with_reducible (first | refine y1 ?_ (by omega) | refine y2 ?_ (by omega) | refine y3 (fun _ => ?_) (fun _ => ?_) | refine y4 ?_ (by omega) (by omega) | refine y5 ?_ (by omega) | refine y6 ?_ (by with_unfolding_all rfl) | refine y7 ?_ (by with_unfolding_all rfl) | refine y8 ?_ (by with_unfolding_all rfl) | refine y9 ?_ (by with_unfolding_all rfl) | refine ya ?_ (by with_unfolding_all rfl)) | (simp -dsimp only [↓cw_skip, ↓cw_ops, ↓cw_seq, ↓cw_ret, ↓cw_cond, ↓seqK_normal, ↓seqK_ret, ↓getK_same, ↓getK_ne, ↓evK_tmp, ↓evK_int, ↓evK_string, ↓condV_var, ↓gdV_var, ↓opsW_nil, ↓opsW_d, ↓opsW_gd, ↓opW_move, ↓opW_assign, ↓opW_pick, ↓opW_bin, ↓bin_eql, ↓bin_gtr, ↓resK_one, ↓opW_extract, ↓ext_tuple, ↓r36_49_w, ↓s36_50_w, ↓s36_51_w, ↓r36_52_w, ↓s36_53_w, ↓s36_54_w, ↓s36_57_w, ↓r36_58_w, ↓s36_59_w, ↓s36_60_w, ↓r36_61_w, ↓s36_62_w, List.getElem?_cons_zero, List.getElem?_cons_succ, onV_some', brK_true, brK_false, ne_eq, Nat.reduceEqDiff, not_false_eq_true, Bool.false_eq_true]))
        exact hk
      · repeat' (first | done | with_reducible (first | refine y1 ?_ (by omega) | refine y2 ?_ (by omega) | refine y3 (fun _ => ?_) (fun _ => ?_) | refine y4 ?_ (by omega) (by omega) | refine y5 ?_ (by omega) | refine y6 ?_ (by with_unfolding_all rfl) | refine y7 ?_ (by with_unfolding_all rfl) | refine y8 ?_ (by with_unfolding_all rfl) | refine y9 ?_ (by with_unfolding_all rfl) | refine ya ?_ (by with_unfolding_all rfl)) | (simp -dsimp only [↓cw_ops, ↓cw_seq, ↓cw_ret, ↓cw_cond, ↓seqK_normal, ↓seqK_ret, ↓getK_same, ↓getK_ne, ↓evK_tmp, ↓evK_int, ↓evK_string, ↓condV_var, ↓gdV_var, ↓opsW_nil, ↓opsW_d, ↓opsW_gd, ↓opW_move, ↓opW_assign, ↓opW_pick, ↓opW_bin, ↓bin_eql, ↓bin_gtr, ↓resK_one, ↓opW_extract, ↓ext_tuple, ↓r36_49_w, ↓s36_50_w, ↓s36_51_w, ↓r36_52_w, ↓s36_53_w, ↓s36_54_w, ↓r36_55_w, ↓s36_56_w, ↓s36_57_w, ↓r36_58_w, ↓s36_59_w, ↓s36_60_w, ↓r36_61_w, ↓s36_62_w, List.getElem?_cons_zero, List.getElem?_cons_succ, onV_some', brK_true, ne_eq, Nat.reduceEqDiff, not_false_eq_true]))
        exact hk
    | false =>
      rw [hnan] at hk hi
      have hi := of_decide_eq_false hi.symm
      simp only [Bool.false_eq_true, if_false] at hk
      by_cases h1 : rungN n = 9218868437227405312
      · rw [if_pos h1] at hk
        have g1 : expE n = 2047 := by unfold expE; omega
        have g2 : n % 4503599627370496 = 0 := by unfold rungN at h1; omega
        rw [g1, g2]
        cases hg : negN n
        · rw [hg] at hk
          repeat' (first | done | with_reducible (first | refine y1 ?_ (by omega) | refine y2 ?_ (by omega) | refine y3 (fun _ => ?_) (fun _ => ?_) | refine y4 ?_ (by omega) (by omega) | refine y5 ?_ (by omega) | refine y6 ?_ (by with_unfolding_all rfl) | refine y7 ?_ (by with_unfolding_all rfl) | refine y8 ?_ (by with_unfolding_all rfl) | refine y9 ?_ (by with_unfolding_all rfl) | refine ya ?_ (by with_unfolding_all rfl)) | (simp -dsimp only [↓cw_skip, ↓cw_ops, ↓cw_seq, ↓cw_ret, ↓cw_cond, ↓seqK_normal, ↓seqK_ret, ↓getK_same, ↓getK_ne, ↓evK_tmp, ↓evK_int, ↓evK_string, ↓condV_var, ↓gdV_var, ↓opsW_nil, ↓opsW_d, ↓opsW_gd, ↓opW_move, ↓opW_assign, ↓opW_pick, ↓opW_bin, ↓bin_eql, ↓bin_gtr, ↓resK_one, ↓opW_extract, ↓ext_tuple, ↓r36_43_w, ↓s36_44_w, ↓s36_45_w, ↓r36_46_w, ↓s36_47_w, ↓s36_48_w, ↓s36_51_w, ↓r36_52_w, ↓s36_53_w, ↓s36_54_w, ↓s36_57_w, ↓r36_58_w, ↓s36_59_w, ↓s36_60_w, ↓r36_61_w, ↓s36_62_w, List.getElem?_cons_zero, List.getElem?_cons_succ, onV_some', brK_true, brK_false, ne_eq, Nat.reduceEqDiff, not_false_eq_true, Bool.false_eq_true,  bin_addS]))
          exact ⟨by decide, hk⟩
        · rw [hg] at hk
          repeat' (first | done | with_reducible (first | refine y1 ?_ (by omega) | refine y2 ?_ (by omega) | refine y3 (fun _ => ?_) (fun _ => ?_) | refine y4 ?_ (by omega) (by omega) | refine y5 ?_ (by omega) | refine y6 ?_ (by with_unfolding_all rfl) | refine y7 ?_ (by with_unfolding_all rfl) | refine y8 ?_ (by with_unfolding_all rfl) | refine y9 ?_ (by with_unfolding_all rfl) | refine ya ?_ (by with_unfolding_all rfl)) | (simp -dsimp only [↓cw_skip, ↓cw_ops, ↓cw_seq, ↓cw_ret, ↓cw_cond, ↓seqK_normal, ↓seqK_ret, ↓getK_same, ↓getK_ne, ↓evK_tmp, ↓evK_int, ↓evK_string, ↓condV_var, ↓gdV_var, ↓opsW_nil, ↓opsW_d, ↓opsW_gd, ↓opW_move, ↓opW_assign, ↓opW_pick, ↓opW_bin, ↓bin_eql, ↓bin_gtr, ↓resK_one, ↓opW_extract, ↓ext_tuple, ↓r36_43_w, ↓s36_44_w, ↓s36_45_w, ↓r36_46_w, ↓s36_47_w, ↓s36_48_w, ↓s36_51_w, ↓r36_52_w, ↓s36_53_w, ↓s36_54_w, ↓r36_55_w, ↓s36_56_w, ↓s36_57_w, ↓r36_58_w, ↓s36_59_w, ↓s36_60_w, ↓r36_61_w, ↓s36_62_w, List.getElem?_cons_zero, List.getElem?_cons_succ, onV_some', brK_true, brK_false, ne_eq, Nat.reduceEqDiff, not_false_eq_true, Bool.false_eq_true,  bin_addS]))
          exact ⟨by decide, hk⟩
      · rw [if_neg h1] at hk
        by_cases h2 : rungN n = 0
        · rw [if_pos h2] at hk
          have g1 : expE n = 0 := by unfold expE; omega
          have g2 : n % 4503599627370496 = 0 := by unfold rungN at h2; omega
          rw [g1, g2]
          cases hg : negN n
          · rw [hg] at hk
            repeat' (first | done | with_reducible (first | refine y1 ?_ (by omega) | refine y2 ?_ (by omega) | refine y3 (fun _ => ?_) (fun _ => ?_) | refine y4 ?_ (by omega) (by omega) | refine y5 ?_ (by omega) | refine y6 ?_ (by with_unfolding_all rfl) | refine y7 ?_ (by with_unfolding_all rfl) | refine y8 ?_ (by with_unfolding_all rfl) | refine y9 ?_ (by with_unfolding_all rfl) | refine ya ?_ (by with_unfolding_all rfl)) | (simp -dsimp only [↓cw_skip, ↓cw_ops, ↓cw_seq, ↓cw_ret, ↓cw_cond, ↓seqK_normal, ↓seqK_ret, ↓getK_same, ↓getK_ne, ↓evK_tmp, ↓evK_int, ↓evK_bool, ↓evK_string, ↓condV_var, ↓gdV_var, ↓opsW_nil, ↓opsW_d, ↓opsW_gd, ↓opW_move, ↓opW_assign, ↓opW_pick, ↓opW_bin, ↓bin_eql, ↓resK_one, ↓opW_extract, ↓ext_tuple, ↓r36_37_w, ↓s36_38_w, ↓s36_39_w, ↓r36_40_w, ↓s36_41_w, ↓s36_42_w, ↓s36_45_w, ↓r36_46_w, ↓s36_47_w, ↓s36_48_w, ↓s36_51_w, ↓r36_52_w, ↓s36_53_w, ↓s36_54_w, ↓s36_57_w, ↓r36_58_w, ↓s36_59_w, ↓s36_60_w, ↓r36_61_w, ↓s36_62_w, List.getElem?_cons_zero, List.getElem?_cons_succ, onV_some', brK_true, brK_false, ne_eq, Nat.reduceEqDiff, not_false_eq_true, Bool.false_eq_true,  bin_addS]))
            exact ⟨by decide, hk⟩
          · rw [hg] at hk
            repeat' (first | done | with_reducible (first | refine y1 ?_ (by omega) | refine y2 ?_ (by omega) | refine y3 (fun _ => ?_) (fun _ => ?_) | refine y4 ?_ (by omega) (by omega) | refine y5 ?_ (by omega) | refine y6 ?_ (by with_unfolding_all rfl) | refine y7 ?_ (by with_unfolding_all rfl) | refine y8 ?_ (by with_unfolding_all rfl) | refine y9 ?_ (by with_unfolding_all rfl) | refine ya ?_ (by with_unfolding_all rfl)) | (simp -dsimp only [↓cw_skip, ↓cw_ops, ↓cw_seq, ↓cw_ret, ↓cw_cond, ↓seqK_normal, ↓seqK_ret, ↓getK_same, ↓getK_ne, ↓evK_tmp, ↓evK_int, ↓evK_bool, ↓evK_string, ↓condV_var, ↓gdV_var, ↓opsW_nil, ↓opsW_d, ↓opsW_gd, ↓opW_move, ↓opW_assign, ↓opW_pick, ↓opW_bin, ↓bin_eql, ↓resK_one, ↓opW_extract, ↓ext_tuple, ↓r36_37_w, ↓s36_38_w, ↓s36_39_w, ↓r36_40_w, ↓s36_41_w, ↓s36_42_w, ↓s36_45_w, ↓r36_46_w, ↓s36_47_w, ↓s36_48_w, ↓s36_51_w, ↓r36_52_w, ↓s36_53_w, ↓s36_54_w, ↓r36_55_w, ↓s36_56_w, ↓s36_57_w, ↓r36_58_w, ↓s36_59_w, ↓s36_60_w, ↓r36_61_w, ↓s36_62_w, List.getElem?_cons_zero, List.getElem?_cons_succ, onV_some', brK_true, brK_false, ne_eq, Nat.reduceEqDiff, not_false_eq_true, Bool.false_eq_true,  bin_addS]))
            exact ⟨by decide, hk⟩
        · exact absurd (by unfold classB; rw [hnan, if_neg (by decide), if_neg h1, if_neg h2]) hc
end Go.Proofs.YtjcmcoabckkjoaaDoor.Li

namespace Go.Proofs.YtjcmcoabckkjoaaDoor.Li
open Go.Ev
set_option maxRecDepth 100000
set_option maxHeartbeats 400000
def textL : Value → List UInt8
  | .float _ n => textB n
  | _ => [110, 97, 110]
theorem textB_len (n : Nat) (hn : n < 18446744073709551616) : (textB n).length ≤ 50 := by
  unfold textB
  by_cases hc : classB n = []
  · have f := Fin.of hn hc
    rw [if_neg (by rw [hc]; simp)]
    have hs : (signL n).length ≤ 1 := by unfold signL; split <;> simp
    obtain ⟨hm0, hm⟩ := f.mant
    have hd := dec_le (u := mant n / 2 ^ Lib.ctz 64 (mant n)) (by have := Nat.div_le_self (mant n) (2 ^ Lib.ctz 64 (mant n)); omega)
    have hct := (ctz_odd hm0 (show mant n < 18446744073709551616 by omega))
    have hx := f.exp
    have hk1 : -1074 ≤ expo n ∧ expo n ≤ 971 := by unfold expo; omega
    have hcl : Lib.ctz 64 (mant n) ≤ 64 := by obtain ⟨_, _, h⟩ := hct; omega
    have htl : (tailB (expo n + (Lib.ctz 64 (mant n) : Nat))).length ≤ 24 := by
      unfold tailB
      split
      · have := Lib.itoa_length_le (expo n + (Lib.ctz 64 (mant n) : Nat)) (by omega) (by omega); simp only [List.length_append, List.length_cons, List.length_nil]; omega
      · split
        · have := Lib.itoa_length_le (-(expo n + (Lib.ctz 64 (mant n) : Nat))) (by omega) (by omega); simp only [List.length_append, List.length_cons, List.length_nil]; omega
        · simp
    simp only [List.length_append]; omega
  · rw [if_pos hc]
    rcases class_cases n with h | h | h | h | h | h <;> rw [h] <;> simp
theorem textL_len {v : Value} (hv : FB v) : (textL v).length ≤ 50 := by
  rcases hv with rfl | ⟨n, hn, rfl⟩
  · simp [textL]
  · exact textB_len n hn
theorem text_v {v : Value} {h : Heap} {K : Value → Heap → Prop} (hv : FB v) (ht : tabsOk tabs h = true) (hh : 2 < h.n) (hK : ∀ h', ExtB h.n h h' → K (strV (textL v)) h') : Ret env (.func 34) [v] h K := by
  rcases hv with rfl | ⟨n, hn, rfl⟩
  · exact text_no (hK h (ExtB.refl _ _))
  · exact text_ret hn ht hh hK
theorem refText_v {v : Value} {h : Heap} {K : Value → Heap → Prop} (hv : FB v) (hK : ∀ h', ExtB h.n h h' → K (strV (textL v)) h') : Ret env (.func 36) [v] h K := by
  rcases hv with rfl | ⟨n, hn, rfl⟩
  · exact refText_no (hK h (ExtB.refl _ _))
  · exact refText_ret hn hK
end Go.Proofs.YtjcmcoabckkjoaaDoor.Li

namespace Go.Proofs.YtjcmcoabckkjoaaDoor.Li
open Go.Ev
set_option maxRecDepth 100000
/-! digits read -/
theorem decFrom_append : ∀ (x y : List UInt8) (a : Nat), Lib.decFrom a (x ++ y) = (Lib.decFrom a x).bind fun m => Lib.decFrom m y
  | [], y, a => rfl
  | b :: x, y, a => by
    simp only [List.cons_append, Lib.decFrom]
    cases Lib.digitVal b with
    | none => rfl
    | some d => exact decFrom_append x y _
theorem decFrom_ge : ∀ (l : List UInt8) (a n : Nat), Lib.decFrom a l = some n → a ≤ n
  | [], a, n, h => by simp only [Lib.decFrom, Option.some.injEq] at h; omega
  | b :: l, a, n, h => by
    simp only [Lib.decFrom] at h
    cases hd : Lib.digitVal b with
    | none => rw [hd] at h; cases h
    | some d => rw [hd] at h; have := decFrom_ge l _ n h; omega
theorem decFrom_take_le {l : List UInt8} {k m n : Nat} (h : Lib.decFrom 0 l = some n) (hm : Lib.decFrom 0 (l.take k) = some m) : m ≤ n := by
  have := decFrom_append (l.take k) (l.drop k) 0
  rw [List.take_append_drop, hm, h, Option.bind_some] at this
  exact decFrom_ge _ _ _ this.symm
theorem decFrom_digits : ∀ (k u : Nat), u ≤ k → Lib.decFrom 0 (Lib.decDigits u) = some u := by
  intro k
  induction k with
  | zero =>
    intro u hu
    have : u = 0 := by omega
    subst this
    rw [dec_small (by decide)]; rfl
  | succ k ih =>
    intro u hu
    have dg : ∀ d : Nat, d < 10 → Lib.digitVal (UInt8.ofNat (48 + d)) = some d := by
      intro d hd
      have h3 : (UInt8.ofNat (48 + d)).toNat = 48 + d := by simp; omega
      unfold Lib.digitVal
      rw [h3, if_pos (by omega)]
      congr 1; omega
    by_cases h : u < 10
    · rw [dec_small h]
      simp only [Lib.decFrom, dg u h]
      congr 1; omega
    · rw [dec_big h, decFrom_append, ih (u / 10) (by omega), Option.bind_some]
      simp only [Lib.decFrom, dg (u % 10) (by omega)]
      congr 1; omega
theorem decNat_digits (u : Nat) : Lib.decNat (Lib.decDigits u) = some u := by
  unfold Lib.decNat
  have : Lib.decDigits u ≠ [] := by
    intro h
    have := congrArg List.length h
    rw [Lib.decDigits_length] at this
    by_cases h1 : u < 10
    · rw [Lib.nDigits_small h1] at this; simp at this
    · have h2 := dec_big h1; rw [h] at h2; simp at h2
  rw [if_neg (by simpa using this)]
  exact decFrom_digits u u (Nat.le_refl _)
theorem digits_ne (u : Nat) : Lib.decDigits u ≠ [] := fun h => by have := decNat_digits u; rw [h] at this; simp [Lib.decNat] at this
/-- each byte of a number's digits is one -/
theorem digits_byte {u : Nat} {b : UInt8} (h : b ∈ Lib.decDigits u) : 48 ≤ b.toNat ∧ b.toNat ≤ 57 := by
  obtain ⟨k, hk, e⟩ := List.getElem_of_mem h
  obtain ⟨d, hd⟩ := Lib.digit_of_decFrom _ _ _ (decFrom_digits u u (Nat.le_refl _)) k b (by rw [List.getElem?_eq_getElem hk, e])
  unfold Lib.digitVal at hd
  split at hd
  · assumption
  · cases hd
theorem atoi_itoa (k : Nat) : Lib.atoi (Lib.itoa (k : Int)) = some (k : Int) := by
  rw [Lib.itoa_nonneg]
  cases hl : Lib.decDigits k with
  | nil => exact absurd hl (digits_ne k)
  | cons b r =>
    have hb := digits_byte (u := k) (b := b) (by rw [hl]; exact List.mem_cons_self)
    unfold Lib.atoi
    have h1 : (b == 45) = false := by
      rw [beq_eq_false_iff_ne]; rintro rfl; revert hb; decide
    have h2 : (b == 43) = false := by
      rw [beq_eq_false_iff_ne]; rintro rfl; revert hb; decide
    dsimp only
    rw [h1, h2, ← hl, decNat_digits]; rfl
/-! finding -/
theorem index_nodigit : ∀ (l r sub : List UInt8) (c : UInt8), (∀ b ∈ l, b ≠ c) → Lib.index (l ++ (c :: sub) ++ r) (c :: sub) = l.length
  | [], r, sub, c, _ => by
    have : (c :: sub).isPrefixOf (c :: (sub ++ r)) = true := by
      rw [List.isPrefixOf_iff_prefix]; exact ⟨r, rfl⟩
    simp only [List.nil_append, List.cons_append, Lib.index, this, if_true]; rfl
  | b :: l, r, sub, c, h => by
    have hb : b ≠ c := h b List.mem_cons_self
    have := index_nodigit l r sub c fun x hx => h x (List.mem_cons_of_mem _ hx)
    have hp : (c :: sub).isPrefixOf (b :: (l ++ (c :: sub) ++ r)) = false := by
      rw [List.isPrefixOf, show (c == b) = false from by rw [beq_eq_false_iff_ne]; exact fun e => hb e.symm, Bool.false_and]
    rw [List.cons_append, List.cons_append, Lib.index, hp, if_neg (by decide), this, if_neg (by rw [beq_iff_eq]; omega)]
    simp
theorem index_none : ∀ (l sub : List UInt8) (c : UInt8), (∀ b ∈ l, b ≠ c) → Lib.index l (c :: sub) = -1
  | [], sub, c, _ => by simp [Lib.index]
  | b :: l, sub, c, h => by
    have hb : b ≠ c := h b List.mem_cons_self
    have := index_none l sub c fun x hx => h x (List.mem_cons_of_mem _ hx)
    have hp : (c :: sub).isPrefixOf (b :: l) = false := by
      rw [List.isPrefixOf, show (c == b) = false from by rw [beq_eq_false_iff_ne]; exact fun e => hb e.symm, Bool.false_and]
    rw [Lib.index, hp, if_neg (by decide), this]; rfl
theorem cut_at (l r sub : List UInt8) (c : UInt8) (h : ∀ b ∈ l, b ≠ c) : Lib.cut (l ++ (c :: sub) ++ r) (c :: sub) = (l, r, true) := by
  unfold Lib.cut
  rw [index_nodigit l r sub c h, if_pos (by omega)]
  simp [List.append_assoc]
theorem cut_no (l sub : List UInt8) (c : UInt8) (h : ∀ b ∈ l, b ≠ c) : Lib.cut l (c :: sub) = (l, [], false) := by
  unfold Lib.cut
  rw [index_none l sub c h, if_neg (by omega)]
end Go.Proofs.YtjcmcoabckkjoaaDoor.Li

namespace Go.Proofs.YtjcmcoabckkjoaaDoor.Li
open Go.Ev
set_option maxRecDepth 100000
set_option maxHeartbeats 400000
theorem conv987 : isSB env 9 87 = true := by kernel_rfl
/-- digits, read: of a number below 2^53 -/
theorem parseIn_ret {l : List UInt8} {u : Nat} {h : Heap} {K : Value → Heap → Prop} (hl : Lib.decFrom 0 l = some u) (hne : l ≠ []) (hn : l.length ≤ 100) (hu : u < 9007199254740992) (hK : ∀ h', ExtB h.n h h' → K (.tuple #[.int .u64 u, .nilIface]) h') :
    Ret env (.func 77) [.string ⟨l.toArray⟩, .int .i64 10, .int .i64 53] h K := by
  refine F77 rfl ?_
  have hs : ¬ ((⟨l.toArray⟩ : ByteArray) = ⟨⟨[]⟩⟩) := fun e => hne (by
    have := congrArg (fun b : ByteArray => b.data.toList) e
    simpa using this)
  have hlen : l.length ≠ 0 := fun e => hne (List.length_eq_zero_iff.1 e)
  have w53 : IntKind.u64.wrap 53 = 53 := rfl
  have wsh : IntKind.u64.wrap (1 * 2 ^ min (53 : Int).toNat IntKind.u64.bits) = 9007199254740992 := by decide
  have wmx : IntKind.u64.wrap (9007199254740992 - 1) = 9007199254740991 := by decide
  repeat' (first | done | with_reducible (first | refine y1 ?_ (by omega) | refine y2 ?_ (by omega) | refine y3 (fun _ => ?_) (fun _ => ?_) | refine y4 ?_ (by omega) (by omega) | refine y5 ?_ (by omega) | refine y6 ?_ (by with_unfolding_all rfl) | refine y7 ?_ (by with_unfolding_all rfl) | refine y8 ?_ (by with_unfolding_all rfl) | refine y9 ?_ (by with_unfolding_all rfl) | refine ya ?_ (by with_unfolding_all rfl)) | (simp -dsimp only [↓cw_skip, ↓cw_ops, ↓cw_seq, ↓cw_block, ↓cw_cond, ↓seqK_normal, ↓blockK_normal, ↓getK_same, ↓getK_ne, ↓evK_tmp, ↓evK_int, ↓evK_bool, ↓evK_string, ↓evK_nilIface, ↓condV_var, ↓gdV_var, ↓opsW_nil, ↓opsW_d, ↓opsW_gd, ↓opW_move, ↓opW_assign, ↓opW_pick, ↓opW_bin, ↓bin_sub, ↓bin_shl, ↓bin_eql, ↓bin_lss, ↓bin_leq, ↓bin_gtr, ↓lenS_some, ↓setAll_cons, ↓setAll_nil, ↓bin_eqlS, ↓cint_int, ↓cv_3_69, ↓len_87, ↓s77_61_w, ↓s77_62_w, ↓r77_63_w, ↓s77_64_w, ↓s77_65_w, ↓r77_66_w, ↓s77_67_w, ↓r77_68_w, ↓s77_69_w, ↓r77_70_w, ↓s77_71_w, ↓r77_72_w, ↓s77_73_w, ↓s77_81_w, ↓r77_82_w, ↓s77_83_w, ↓s77_84_w, ↓r77_85_w, ↓s77_86_w, ↓s77_87_w, ↓r77_88_w, ↓s77_89_w, ↓s77_94_w, ↓r77_95_w, ↓s77_96_w, ↓s77_97_w, ↓r77_98_w, ↓s77_99_w, ↓s77_100_w, ↓s77_137_w, ↓r77_138_w, ↓s77_139_w, ↓s77_140_w, ↓r77_141_w, ↓s77_142_w, ↓r77_143_w, ↓s77_144_w, ↓s77_147_w, ↓r77_148_w, ↓s77_149_w, ↓s77_150_w, ↓r77_151_w, ↓s77_152_w, brK_true, brK_false, ne_eq, Nat.reduceEqDiff, Nat.reduceAdd, not_false_eq_true, Nat.one_ne_zero, Bool.false_eq_true,  hs, ↓opW_sbytes conv987, sbK, str_size, w53, wsh, wmx]))
  have hn1 : (newBlk h (.ro fun j => nth (bytesV ⟨l.toArray⟩) j)).n = h.n + 1 := rfl
  have hb1 : (newBlk h (.ro fun j => nth (bytesV ⟨l.toArray⟩) j)).b.get h.n = some (.ro fun j => nth (bytesV ⟨l.toArray⟩) j) := newBlk_same _ _
  have X1 : ExtB h.n h (newBlk h (.ro fun j => nth (bytesV ⟨l.toArray⟩) j)) := ExtB.new _ (Nat.le_refl _)
  generalize newBlk h (.ro fun j => nth (bytesV ⟨l.toArray⟩) j) = h1 at hn1 hb1 X1 ⊢
  refine cw_loopI (fun n fr h' => h' = h1 ∧ ∃ k a : Nat, k ≤ l.length ∧ n = l.length - k ∧ fr.get 101 = some (.int .i64 k) ∧ fr.get 13 = some (.int .u64 a) ∧ fr.get 12 = some (.bool false) ∧ Lib.decFrom 0 (l.take k) = some a) l.length ?_ (by omega) ?_
  · exact ⟨rfl, 0, 0, by omega, by omega, by simp [T.get_set], by simp [T.get_set], by simp [T.get_set], rfl⟩
  rintro n fr h' ⟨rfl, k, a, hk, rfl, g101, g13, g12, ha⟩ hag
  have g101 := getK_of g101
  have g13 := getK_of g13
  have g12' := g12
  have g12 := getK_of g12
  have a1 := getK_eq (hag 1 rfl)
  have a8 := getK_eq (hag 8 rfl)
  have a10 := getK_eq (hag 10 rfl)
  have a11 := getK_eq (hag 11 rfl)
  have a99 := getK_eq (hag 99 rfl)
  have a100 := getK_eq (hag 100 rfl)
  have hau := decFrom_take_le hl ha
  by_cases hlt : k < l.length
  · obtain ⟨d, hd⟩ := Lib.digit_of_decFrom _ _ _ hl k l[k] (List.getElem?_eq_getElem hlt)
    have hs1 := Lib.decFrom_take l k 0 a l[k] d ha (List.getElem?_eq_getElem hlt) hd
    have hau1 := decFrom_take_le hl hs1
    have hd2 : 48 ≤ l[k].toNat ∧ l[k].toNat ≤ 57 ∧ d = l[k].toNat - 48 := by
      unfold Lib.digitVal at hd
      split at hd
      · rename_i hc; simp only [Option.some.injEq] at hd; exact ⟨hc.1, hc.2, hd.symm⟩
      · cases hd
    have cb := bytes_at (g := fun _ => none) hlt (show h.n < h'.n by omega) hb1
    have cb : cellAt h' ⟨h.n, 0 + k * 1, none⟩ = some (.int .u8 (l[k].toNat : Int)) := by rw [show 0 + k * 1 = k by omega]; exact cb
    have v1 : IntKind.u8.wrap ((l[k].toNat : Int) - 48) = (d : Int) := by rw [wrap_u8 (by omega) (by omega)]; omega
    have v2 : IntKind.u8.wrap 10 = 10 := by decide
    have v3 : IntKind.u64.wrap 10 = 10 := by decide
    have v4 : IntKind.u64.wrap ((a : Int) * 10) = ((a * 10 : Nat) : Int) := by rw [wrap_u64 (by omega) (by omega)]; omega
    have v5 : IntKind.u64.wrap (d : Int) = (d : Int) := wrap_u64 (by omega) (by omega)
    have v6 : IntKind.u64.wrap (((a * 10 : Nat) : Int) + (d : Int)) = ((a * 10 + d : Nat) : Int) := by rw [wrap_u64 (by omega) (by omega)]; omega
    generalize l[k].toNat = b at *
    repeat' (first | done | with_reducible (first | refine y1 ?_ (by omega) | refine y2 ?_ (by omega) | refine y3 (fun _ => ?_) (fun _ => ?_) | refine y4 ?_ (by omega) (by omega) | refine y5 ?_ (by omega) | refine y6 ?_ (by with_unfolding_all rfl) | refine y7 ?_ (by with_unfolding_all rfl) | refine y8 ?_ (by with_unfolding_all rfl) | refine y9 ?_ (by with_unfolding_all rfl) | refine ya ?_ (by with_unfolding_all rfl)) | (simp -dsimp only [↓cw_skip, ↓cw_ops, ↓cw_seq, ↓cw_block, ↓cw_cond, ↓seqK_normal, ↓blockK_normal, ↓loopK_normal, ↓getK_same, ↓getK_ne, ↓evK_tmp, ↓evK_int, ↓evK_bool, ↓condV_var, ↓gdV_var, ↓opsW_nil, ↓opsW_d, ↓opsW_gd, ↓opW_move, ↓opW_assign, ↓opW_pick, ↓opW_bin, ↓bin_add, ↓bin_sub, ↓bin_mul, ↓bin_eql, ↓bin_lss, ↓bin_leq, ↓bin_gtr, ↓bin_geq, ↓ld1_some, ↓idxS_some, ↓cint_int, ↓cv_3_23, ↓ia_87, ↓ld_5, ↓cv_3_5, ↓cv_5_23, ↓r77_8_w, ↓s77_9_w, ↓r77_10_w, ↓s77_11_w, ↓s77_14_w, ↓r77_15_w, ↓s77_16_w, ↓s77_17_w, ↓r77_18_w, ↓s77_19_w, ↓r77_20_w, ↓s77_21_w, ↓s77_24_w, ↓r77_25_w, ↓s77_26_w, ↓s77_27_w, ↓s77_30_w, ↓r77_31_w, ↓s77_32_w, ↓s77_33_w, ↓r77_36_w, ↓s77_37_w, ↓s77_45_w, ↓r77_46_w, ↓s77_47_w, ↓s77_48_w, ↓r77_49_w, ↓s77_50_w, ↓s77_51_w, ↓r77_52_w, ↓s77_53_w, ↓r77_54_w, ↓s77_55_w, ↓s77_56_w, ↓s77_57_w, ↓s77_58_w, ↓r77_59_w, ↓s77_60_w, onV_some', brK_true, brK_false, true_and, ne_eq, Nat.reduceEqDiff, not_false_eq_true, Addr.add_lit, Int.toNat_natCast, Bool.false_eq_true,  ↓g101, ↓g13, ↓a1, ↓a10, ↓a11, ↓a99, ↓a100, cb, v1, v2, v3, v4, v5, v6]))
    refine ⟨l.length - (k + 1), by omega, k + 1, a * 10 + d, by omega, rfl, ?_, ?_, ?_, hs1⟩
    · simp [T.get_set, wrap_succ (show k ≤ 4611686018427387904 by omega)]
    · simp [T.get_set]
    · simp only [T.get_set]; simpa using g12'
  · have e : k = l.length := by omega
    subst e
    rw [List.take_length, hl] at ha
    cases ha
    repeat' (first | done | with_reducible (first | refine y1 ?_ (by omega) | refine y2 ?_ (by omega) | refine y3 (fun _ => ?_) (fun _ => ?_) | refine y4 ?_ (by omega) (by omega) | refine y5 ?_ (by omega) | refine y6 ?_ (by with_unfolding_all rfl) | refine y7 ?_ (by with_unfolding_all rfl) | refine y8 ?_ (by with_unfolding_all rfl) | refine y9 ?_ (by with_unfolding_all rfl) | refine ya ?_ (by with_unfolding_all rfl)) | (simp -dsimp only [↓cw_skip, ↓cw_ops, ↓cw_seq, ↓cw_exit, ↓cw_ret, ↓cw_cond, ↓seqK_normal, ↓seqK_exit, ↓blockK_same, ↓loopK_exit, ↓getK_same, ↓getK_ne, ↓evK_tmp, ↓evK_bool, ↓evK_nilIface, ↓condV_var, ↓gdV_var, ↓opsW_nil, ↓opsW_d, ↓opsW_gd, ↓opW_move, ↓opW_assign, ↓opW_pick, ↓opW_bin, ↓bin_lss, ↓resK_two, ↓r77_0_w, ↓s77_1_w, ↓s77_4_w, ↓r77_5_w, ↓s77_6_w, ↓s77_7_w, ↓s77_57_w, ↓s77_58_w, ↓r77_59_w, ↓s77_60_w, brK_false, ne_eq, Nat.reduceEqDiff, not_false_eq_true, Bool.false_eq_true,  ↓g101, ↓g13, ↓g12, ↓a100]))
    exact hK h' X1
theorem abin_nil : abin env .neq 76 .nilIface .nilIface = some (.bool false) := by kernel_rfl
theorem bin_nil {x : Operand} {K : Value → Prop} : binK env .neq 76 (isConst x || isConst (.const .nilIface)) .nilIface .nilIface K = K (.bool false) := by
  simp only [binK, abin_nil, onV_some', isConst, Bool.or_true, true_and]
theorem parse_ret {l : List UInt8} {u : Nat} {h : Heap} {K : Value → Heap → Prop} (hl : Lib.decFrom 0 l = some u) (hne : l ≠ []) (hn : l.length ≤ 100) (hu : u < 9007199254740992) (hK : ∀ h', ExtB h.n h h' → K (.tuple #[.int .u64 u, .nilIface]) h') :
    Ret env (.func 59) [.string ⟨l.toArray⟩, .int .i64 10, .int .i64 53] h K := by
  refine F59 rfl ?_
  repeat' (first | done | with_reducible (first | refine y1 ?_ (by omega) | refine y2 ?_ (by omega) | refine y3 (fun _ => ?_) (fun _ => ?_) | refine y4 ?_ (by omega) (by omega) | refine y5 ?_ (by omega) | refine y6 ?_ (by with_unfolding_all rfl) | refine y7 ?_ (by with_unfolding_all rfl) | refine y8 ?_ (by with_unfolding_all rfl) | refine y9 ?_ (by with_unfolding_all rfl) | refine ya ?_ (by with_unfolding_all rfl)) | (simp -dsimp only [↓cw_ops, ↓cw_seq, ↓seqK_normal, ↓getK_same, ↓getK_ne, ↓evK_tmp, ↓evK_int, ↓evK_nilIface, ↓opsW_nil, ↓opsW_d, ↓opW_move, ↓opW_assign, ↓evs_nil, ↓evs_cons, ↓opW_call, ↓setAll_cons, ↓setAll_nil, ↓r59_8_w, ↓s59_9_w, ↓r59_10_w, ↓s59_11_w, ne_eq, Nat.reduceEqDiff, Nat.reduceAdd, not_false_eq_true, Nat.one_ne_zero]))
  refine parseIn_ret hl hne hn hu fun h' X => ?_
  repeat' (first | done | with_reducible (first | refine y1 ?_ (by omega) | refine y2 ?_ (by omega) | refine y3 (fun _ => ?_) (fun _ => ?_) | refine y4 ?_ (by omega) (by omega) | refine y5 ?_ (by omega) | refine y6 ?_ (by with_unfolding_all rfl) | refine y7 ?_ (by with_unfolding_all rfl) | refine y8 ?_ (by with_unfolding_all rfl) | refine y9 ?_ (by with_unfolding_all rfl) | refine ya ?_ (by with_unfolding_all rfl)) | (simp -dsimp only [↓cw_skip, ↓cw_ops, ↓cw_seq, ↓cw_ret, ↓cw_cond, ↓seqK_normal, ↓getK_same, ↓getK_ne, ↓evK_tmp, ↓evK_nilIface, ↓condV_var, ↓opsW_nil, ↓opsW_d, ↓opW_move, ↓opW_assign, ↓opW_bin, ↓resK_two, ↓opW_extract, ↓ext_tuple, ↓r59_0_w, ↓s59_1_w, ↓s59_4_w, ↓r59_5_w, ↓s59_6_w, ↓s59_7_w, List.getElem?_cons_zero, List.getElem?_cons_succ, onV_some', brK_false, ne_eq, Nat.reduceEqDiff, not_false_eq_true, Bool.false_eq_true,  bin_nil]))
  exact hK h' X
end Go.Proofs.YtjcmcoabckkjoaaDoor.Li

namespace Go.Proofs.YtjcmcoabckkjoaaDoor.Li
open Go.Ev
set_option maxRecDepth 100000
/-! numbers that the format has -/
theorem log2_pow {M t : Nat} (h : M ≠ 0) : (M * 2 ^ t).log2 = M.log2 + t := by
  have h2 : M * 2 ^ t ≠ 0 := Nat.mul_ne_zero h (Nat.pos_iff_ne_zero.1 (Nat.two_pow_pos t))
  rw [Nat.log2_eq_iff h2]
  obtain ⟨a, b⟩ := (Nat.log2_eq_iff h).1 rfl
  constructor
  · rw [Nat.pow_add]; exact Nat.mul_le_mul_right _ a
  · rw [show M.log2 + t + 1 = M.log2 + 1 + t by omega, Nat.pow_add]; exact Nat.mul_lt_mul_of_pos_right b (Nat.two_pow_pos t)
theorem log2_lt53 {M : Nat} (h : M ≠ 0) (hL : M.log2 ≤ 52) : M < 9007199254740992 := by
  have := ((Nat.log2_eq_iff h).1 rfl).2
  exact Nat.lt_of_lt_of_le this (Nat.pow_le_pow_right (by decide) (by omega : M.log2 + 1 ≤ 53))
theorem cut_exact {neg : Bool} {M t : Nat} (h : M ≠ 0) : Ieee.Toward.even.cut neg (M * 2 ^ t) t = M := by
  have e : min t ((M * 2 ^ t).log2 + 2) = t := by rw [log2_pow h]; omega
  have hp := Nat.two_pow_pos t
  unfold Ieee.Toward.cut
  simp only [e, Nat.one_shiftLeft, Nat.mul_div_cancel _ hp, Nat.mul_mod_left, Nat.mul_zero]
  have h1 : decide (2 ^ t < 0) = false := decide_eq_false (by omega)
  have h2 : (2 ^ t == 0) = false := beq_eq_false_iff_ne.2 (by omega)
  rw [h1, h2]; rfl
theorem fb52 : Ieee.double.fractionBits = 52 := rfl
theorem nearest_norm {neg : Bool} {M t : Nat} {E : Int} (hM : M ≠ 0) (hL : M.log2 = 52 ∨ (M.log2 < 52 ∧ E = -1074)) (hE : -1074 ≤ E) (hE2 : E ≤ 971) :
    Ieee.double.nearest neg (M * 2 ^ t) (E - t) = Ieee.double.word neg ((E + 1074).toNat * 4503599627370496 + M) := by
  have h0 : M * 2 ^ t ≠ 0 := Nat.mul_ne_zero hM (by have := Nat.two_pow_pos t; omega)
  have hm := log2_lt53 hM (by omega)
  unfold Ieee.Format.nearest
  rw [if_neg h0, log2_pow hM, lp, bn, ir, fb52]
  have hlast : max (E - (t : Int) + ((M.log2 + t : Nat) : Int) - ((52 : Nat) : Int)) (-1074) = E := by omega
  simp only [hlast]
  have hs : (E - (t : Int) - E).toNat = 0 := by omega
  have hd : (E - (E - (t : Int))).toNat = t := by omega
  rw [hs, hd, Nat.shiftLeft_zero, cut_exact hM]
  congr 1
  have : (E - -1074).toNat = (E + 1074).toNat := by omega
  rw [this]
  omega
/-- a whole number, as a number with a point -/
theorem nearest_int {n : Nat} (hn : n ≠ 0) (hL : n.log2 ≤ 52) : FloatKind.nearest .f64 (n : Int) = (n.log2 + 1022) * 4503599627370496 + n * 2 ^ (52 - n.log2) := by
  show Ieee.double.nearest (decide ((n : Int) < 0)) (n : Int).natAbs 0 = _
  rw [decide_eq_false (by omega), Int.natAbs_natCast]
  unfold Ieee.Format.nearest
  rw [if_neg hn, lp, bn, ir, fb52]
  have hlast : max ((0 : Int) + (n.log2 : Int) - ((52 : Nat) : Int)) (-1074) = (n.log2 : Int) - 52 := by omega
  simp only [hlast]
  have hs : ((0 : Int) - ((n.log2 : Int) - 52)).toNat = 52 - n.log2 := by omega
  have hd : ((n.log2 : Int) - 52 - 0).toNat = 0 := by omega
  rw [hs, hd, Nat.shiftLeft_eq]
  have hc : Ieee.Toward.even.cut false (n * 2 ^ (52 - n.log2)) 0 = n * 2 ^ (52 - n.log2) := by
    have := cut_exact (neg := false) (M := n * 2 ^ (52 - n.log2)) (t := 0) (Nat.mul_ne_zero hn (by have := Nat.two_pow_pos (52 - n.log2); omega))
    rwa [Nat.pow_zero, Nat.mul_one] at this
  rw [hc]
  have hM : n * 2 ^ (52 - n.log2) < 9007199254740992 := log2_lt53 (Nat.mul_ne_zero hn (by have := Nat.two_pow_pos (52 - n.log2); omega)) (by rw [log2_pow hn]; omega)
  show (if false = true then _ else _) = _
  rw [if_neg (by decide)]
  omega
theorem mant52 {n : Nat} (hn : n ≠ 0) (hL : n.log2 ≤ 52) : 4503599627370496 ≤ n * 2 ^ (52 - n.log2) ∧ n * 2 ^ (52 - n.log2) < 9007199254740992 := by
  have h0 : n * 2 ^ (52 - n.log2) ≠ 0 := Nat.mul_ne_zero hn (by have := Nat.two_pow_pos (52 - n.log2); omega)
  have e : (n * 2 ^ (52 - n.log2)).log2 = 52 := by rw [log2_pow hn]; omega
  refine ⟨?_, log2_lt53 h0 (by omega)⟩
  have := ((Nat.log2_eq_iff h0).1 e).1
  exact this
/-- a product that the format has -/
theorem mul_norm {m x : Nat} {a b : Nat} {p q : Int} {M t : Nat} {E : Int} (hm : Ieee.double.read m = .number false a p) (hx : Ieee.double.read x = .number false b q) (e1 : a * b = M * 2 ^ t) (e2 : p + q = E - t)
    (hM : M ≠ 0) (hL : M.log2 = 52 ∨ (M.log2 < 52 ∧ E = -1074)) (hE : -1074 ≤ E) (hE2 : E ≤ 971) : fA .mul (.float .f64 m) (.float .f64 x) = .float .f64 ((E + 1074).toNat * 4503599627370496 + M) := by
  show fres (Ieee.double.mul m x) = _
  unfold Ieee.Format.mul
  rw [hm, hx]
  show fres (some (Ieee.double.nearest (false ^^ false) (a * b) (p + q))) = _
  rw [e1, e2, nearest_norm hM hL hE hE2]
  rfl
theorem read_one : Ieee.double.read 4607182418800017408 = .number false 4503599627370496 (-52) := by rw [read_eq (by decide)]; rfl
theorem read_tiny : Ieee.double.read 4368491638549381120 = .number false 4503599627370496 (-105) := by rw [read_eq (by decide)]; rfl
/-- one whose place is e -/
theorem read_at {M e : Nat} (h1 : 4503599627370496 ≤ M) (h2 : M < 9007199254740992) (he : e ≤ 2045) : Ieee.double.read (e * 4503599627370496 + M) = .number false M ((e : Int) - 1074) := by
  have hr : rungN (e * 4503599627370496 + M) = e * 4503599627370496 + M := by unfold rungN; omega
  have hn : negN (e * 4503599627370496 + M) = false := by unfold negN; exact decide_eq_false (by omega)
  rw [read_eq (by omega), hr, hn, if_neg (by omega), if_pos (by omega)]
  congr 1 <;> omega
end Go.Proofs.YtjcmcoabckkjoaaDoor.Li

