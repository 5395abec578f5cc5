/- share's median, Less, Same; the reference's. -/
import Derived.Test.YtjcmcoabckkjoaaDoorOM
set_option linter.unusedSimpArgs false
set_option linter.unusedVariables false
namespace Go.Proofs.YtjcmcoabckkjoaaDoor.Or
open Go.Ev
set_option maxRecDepth 100000
set_option maxHeartbeats 400000
def medV (g : Nat → Nat) (M : Nat) : Value := if M = 0 then .float .f64 9221120237041090561 else if M % 2 = 1 then .float .f64 (g (M / 2)) else fA .quo (fA .add (.float .f64 (g (M / 2 - 1))) (.float .f64 (g (M / 2)))) (.float .f64 4611686018427387904)
theorem medV_FB {g : Nat → Nat} {M : Nat} (hg : Bits g M) : FB (medV g M) := by
  unfold medV
  by_cases h0 : M = 0
  · rw [if_pos h0]; exact .inr ⟨_, by omega, rfl⟩
  · rw [if_neg h0]
    by_cases h1 : M % 2 = 1
    · rw [if_pos h1]; exact .inr ⟨_, hg _ (by omega), rfl⟩
    · rw [if_neg h1]
      exact fA_FB rfl (fA_FB rfl (.inr ⟨_, hg _ (by omega), rfl⟩) (.inr ⟨_, hg _ (by omega), rfl⟩)) (.inr ⟨_, by omega, rfl⟩)
theorem median_ret {v : Value} {f : Nat → Nat} {N : Nat} {h : Heap} {K : Value → Heap → Prop} (r : Rd h v f N) (hN : N ≤ 1000) (hf : Bits f N)
    (hK : ∀ g M h', ExtB h.n h h' → Sw 0 N f g → SortedN g 0 N → NanFrom g N M → K (medV g M) h') : Ret env (.func 26) [v] h K := by
  refine F26 rfl ?_
  repeat' (first | done | with_reducible (first | refine y1 ?_ (by omega) | refine y2 ?_ (by omega) | refine y3 (fun _ => ?_) (fun _ => ?_) | refine y4 ?_ (by omega) (by omega) | refine y5 ?_ (by omega) | refine y6 ?_ (by with_unfolding_all rfl) | refine y7 ?_ (by with_unfolding_all rfl) | refine y8 ?_ (by with_unfolding_all rfl) | refine y9 ?_ (by with_unfolding_all rfl) | refine ya ?_ (by with_unfolding_all rfl)) | ((with_reducible refine And.intro ?_ ?_); (· omega)) | (simp -dsimp only [↓cw_ops, ↓cw_seq, ↓seqK_normal, ↓getK_same, ↓getK_ne, ↓evK_tmp, ↓evK_float, ↓opsW_nil, ↓opsW_d, ↓opW_move, ↓opW_assign, ↓evs_nil, ↓evs_cons, ↓opW_call, ↓setAll_cons, ↓setAll_nil, ↓r26_15_w, ↓s26_16_w, ↓r26_17_w, ↓s26_18_w, ne_eq, Nat.reduceEqDiff, not_false_eq_true]))
  refine numbers_ret r hN hf fun g M v' h1 r1 X1 s so nf => ?_
  have n1 := X1.n
  have hM := nf.le
  have gb : Bits g N := hf.sw s (Nat.le_refl N)
  have hq := fun h' X => hK g M h' X s so nf
  obtain ⟨a, c, rfl, q⟩ := id r1
  have w1 : IntKind.i64.wrap (Int.tdiv (M : Int) 2) = ((M / 2 : Nat) : Int) := by rw [show Int.tdiv (M : Int) 2 = ((M / 2 : Nat) : Int) from rfl, wrap_i64 (by omega) (by omega)]
  have h20 : (¬ (2 : Int) = 0) = True := eq_true (by omega)
  have w2 : Int.tmod (M : Int) 2 = ((M % 2 : Nat) : Int) := rfl
  repeat' (first | done | with_reducible (first | refine y1 ?_ (by omega) | refine y2 ?_ (by omega) | refine y3 (fun _ => ?_) (fun _ => ?_) | refine y4 ?_ (by omega) (by omega) | refine y5 ?_ (by omega) | refine y6 ?_ (by with_unfolding_all rfl) | refine y7 ?_ (by with_unfolding_all rfl) | refine y8 ?_ (by with_unfolding_all rfl) | refine y9 ?_ (by with_unfolding_all rfl) | refine ya ?_ (by with_unfolding_all rfl)) | ((with_reducible refine And.intro ?_ ?_); (· omega)) | (simp -dsimp only [↓cw_ops, ↓cw_seq, ↓seqK_normal, ↓getK_same, ↓getK_ne, ↓evK_tmp, ↓evK_int, ↓opsW_nil, ↓opsW_d, ↓opW_move, ↓opW_assign, ↓opW_bin, ↓bin_quo, ↓evs_nil, ↓evs_cons, ↓opW_call, ↓lenS_some, ↓len_25, ↓r26_13_w, ↓s26_14_w, true_and, ne_eq, Nat.reduceEqDiff, not_false_eq_true, w1, h20]))
  refine at_ret r1 (by omega) ?_
  unfold medV at hq
  by_cases h0 : M = 0
  · subst h0
    rw [if_neg (by omega), decide_eq_false (by omega)]
    have := hq h1 X1
    rw [if_pos rfl] at this
    repeat' (first | done | with_reducible (first | refine y1 ?_ (by omega) | refine y2 ?_ (by omega) | refine y3 (fun _ => ?_) (fun _ => ?_) | refine y4 ?_ (by omega) (by omega) | refine y5 ?_ (by omega) | refine y6 ?_ (by with_unfolding_all rfl) | refine y7 ?_ (by with_unfolding_all rfl) | refine y8 ?_ (by with_unfolding_all rfl) | refine y9 ?_ (by with_unfolding_all rfl) | refine ya ?_ (by with_unfolding_all rfl)) | ((with_reducible refine And.intro ?_ ?_); (· omega)) | (simp -dsimp only [↓cw_ops, ↓cw_seq, ↓cw_block, ↓cw_cond, ↓seqK_normal, ↓getK_same, ↓getK_ne, ↓evK_tmp, ↓condV_var, ↓opsW_nil, ↓opsW_d, ↓opW_move, ↓opW_assign, ↓evs_nil, ↓opW_call, ↓opW_un, ↓un_not, ↓opW_extract, ↓ext_tuple, ↓r26_2_w, ↓s26_3_w, ↓s26_9_w, ↓r26_10_w, ↓s26_11_w, ↓s26_12_w, List.getElem?_cons_zero, List.getElem?_cons_succ, onV_some', brK_true, ne_eq, Nat.reduceEqDiff, not_false_eq_true, Bool.not_false]))
    refine nanf_ret ?_
    repeat' (first | done | with_reducible (first | refine y1 ?_ (by omega) | refine y2 ?_ (by omega) | refine y3 (fun _ => ?_) (fun _ => ?_) | refine y4 ?_ (by omega) (by omega) | refine y5 ?_ (by omega) | refine y6 ?_ (by with_unfolding_all rfl) | refine y7 ?_ (by with_unfolding_all rfl) | refine y8 ?_ (by with_unfolding_all rfl) | refine y9 ?_ (by with_unfolding_all rfl) | refine ya ?_ (by with_unfolding_all rfl)) | ((with_reducible refine And.intro ?_ ?_); (· omega)) | (simp -dsimp only [↓cw_ret, ↓seqK_normal, ↓seqK_ret, ↓blockK_ret, ↓getK_same, ↓evK_tmp, ↓opsW_nil, ↓opsW_d, ↓opW_assign, ↓resK_one]))
    exact this
  · rw [if_pos (by omega), decide_eq_true (by omega), Int.toNat_natCast]
    have hq := fun h' X => by
      have := hq h' X
      rw [if_neg h0] at this
      exact this
    by_cases h2 : M % 2 = 1
    · have := hq h1 X1
      rw [if_pos h2] at this
      have c1 : ((M % 2 : Nat) : Int) = 1 := by omega
      repeat' (first | done | with_reducible (first | refine y1 ?_ (by omega) | refine y2 ?_ (by omega) | refine y3 (fun _ => ?_) (fun _ => ?_) | refine y4 ?_ (by omega) (by omega) | refine y5 ?_ (by omega) | refine y6 ?_ (by with_unfolding_all rfl) | refine y7 ?_ (by with_unfolding_all rfl) | refine y8 ?_ (by with_unfolding_all rfl) | refine y9 ?_ (by with_unfolding_all rfl) | refine ya ?_ (by with_unfolding_all rfl)) | ((with_reducible refine And.intro ?_ ?_); (· omega)) | (simp -dsimp only [↓cw_ops, ↓cw_seq, ↓cw_block, ↓cw_ret, ↓cw_cond, ↓seqK_normal, ↓seqK_ret, ↓blockK_ret, ↓getK_same, ↓getK_ne, ↓evK_tmp, ↓evK_int, ↓condV_var, ↓opsW_nil, ↓opsW_d, ↓opW_move, ↓opW_assign, ↓opW_bin, ↓bin_rem, ↓bin_eql, ↓lenS_some, ↓resK_one, ↓opW_un, ↓un_not, ↓opW_extract, ↓ext_tuple, ↓len_25, ↓r26_4_w, ↓s26_5_w, ↓s26_6_w, ↓r26_7_w, ↓s26_8_w, ↓s26_9_w, ↓r26_10_w, ↓s26_11_w, ↓s26_12_w, List.getElem?_cons_zero, List.getElem?_cons_succ, onV_some', brK_true, brK_false, true_and, ne_eq, Nat.reduceEqDiff, not_false_eq_true, Bool.false_eq_true,  Bool.not_true, w2, c1, h20]))
      exact this
    · have hq := fun h' X => by
        have := hq h' X
        rw [if_neg h2] at this
        exact this
      have c1 : ¬ ((M % 2 : Nat) : Int) = 1 := by omega
      obtain ⟨i, rfl, hi, d1⟩ := q (M / 2 - 1) (by omega)
      have z1 : 0 + (M / 2 - 1) * 1 = M / 2 - 1 := zero_add_one _
      have w3 : IntKind.i64.wrap (((M / 2 : Nat) : Int) - 1) = ((M / 2 - 1 : Nat) : Int) := by rw [wrap_i64 (by omega) (by omega)]; omega
      have b1 : ((M / 2 - 1 : Nat) : Int) < (M : Int) := by omega
      have b2 : (0 : Int) ≤ ((M / 2 - 1 : Nat) : Int) := by omega
      have f1 : FB (.float .f64 (g (M / 2 - 1))) := .inr ⟨_, gb _ (by omega), rfl⟩
      have f2 : FB (.float .f64 (g (M / 2))) := .inr ⟨_, gb _ (by omega), rfl⟩
      repeat' (first | done | with_reducible (first | refine y1 ?_ (by omega) | refine y2 ?_ (by omega) | refine y3 (fun _ => ?_) (fun _ => ?_) | refine y4 ?_ (by omega) (by omega) | refine y5 ?_ (by omega) | refine y6 ?_ (by with_unfolding_all rfl) | refine y7 ?_ (by with_unfolding_all rfl) | refine y8 ?_ (by with_unfolding_all rfl) | refine y9 ?_ (by with_unfolding_all rfl) | refine ya ?_ (by with_unfolding_all rfl)) | ((with_reducible refine And.intro ?_ ?_); (· omega)) | (simp -dsimp only [↓cw_skip, ↓cw_ops, ↓cw_seq, ↓cw_block, ↓cw_cond, ↓seqK_normal, ↓blockK_normal, ↓getK_same, ↓getK_ne, ↓evK_tmp, ↓evK_int, ↓condV_var, ↓opsW_nil, ↓opsW_d, ↓opW_move, ↓opW_assign, ↓opW_bin, ↓bin_sub, ↓bin_quo, ↓bin_rem, ↓bin_eql, ↓ld1_some, ↓idxS_some, ↓lenS_some, ↓evp_nil, ↓evp_cons, ↓opW_un, ↓un_not, ↓opW_extract, ↓ext_tuple, ↓len_25, ↓ia_25, ↓ld_27, ↓bsl_25_2, ↓r26_0_w, ↓s26_1_w, ↓s26_6_w, ↓r26_7_w, ↓s26_8_w, ↓s26_9_w, ↓r26_10_w, ↓s26_11_w, ↓s26_12_w, List.getElem?_cons_zero, List.getElem?_cons_succ, onV_some', brK_false, true_and, ne_eq, Nat.reduceEqDiff, not_false_eq_true, Addr.add_lit, Int.toNat_natCast, Bool.false_eq_true,  Bool.not_true, w1, w2, c1, w3, z1, d1, h20]))
      refine bs_of (l := [.float .f64 (g (M / 2 - 1)), .float .f64 (g (M / 2))]) rfl ?_
      have n3 : (newBlk h1 (.cells [.float .f64 (g (M / 2 - 1)), .float .f64 (g (M / 2))] 27 true)).n = h1.n + 1 := rfl
      repeat' (first | done | with_reducible (first | refine y1 ?_ (by omega) | refine y2 ?_ (by omega) | refine y3 (fun _ => ?_) (fun _ => ?_) | refine y4 ?_ (by omega) (by omega) | refine y5 ?_ (by omega) | refine y6 ?_ (by with_unfolding_all rfl) | refine y7 ?_ (by with_unfolding_all rfl) | refine y8 ?_ (by with_unfolding_all rfl) | refine y9 ?_ (by with_unfolding_all rfl) | refine ya ?_ (by with_unfolding_all rfl)) | ((with_reducible refine And.intro ?_ ?_); (· omega)) | (simp -dsimp only [↓getK_same, ↓evK_tmp, ↓opsW_d, ↓evs_nil, ↓evs_cons, ↓opW_call]))
      refine sum2_ret f1 f2 fun h2 X2 => ?_
      have n2 := X2.n
      repeat' (first | done | with_reducible (first | refine y1 ?_ (by omega) | refine y2 ?_ (by omega) | refine y3 (fun _ => ?_) (fun _ => ?_) | refine y4 ?_ (by omega) (by omega) | refine y5 ?_ (by omega) | refine y6 ?_ (by with_unfolding_all rfl) | refine y7 ?_ (by with_unfolding_all rfl) | refine y8 ?_ (by with_unfolding_all rfl) | refine y9 ?_ (by with_unfolding_all rfl) | refine ya ?_ (by with_unfolding_all rfl)) | ((with_reducible refine And.intro ?_ ?_); (· omega)) | (simp -dsimp only [↓getK_same, ↓evK_tmp, ↓evK_float, ↓opsW_d, ↓evs_nil, ↓evs_cons, ↓opW_call]))
      refine ratio_ret (fA_FB rfl f1 f2) (.inr ⟨_, by omega, rfl⟩) ?_
      repeat' (first | done | with_reducible (first | refine y1 ?_ (by omega) | refine y2 ?_ (by omega) | refine y3 (fun _ => ?_) (fun _ => ?_) | refine y4 ?_ (by omega) (by omega) | refine y5 ?_ (by omega) | refine y6 ?_ (by with_unfolding_all rfl) | refine y7 ?_ (by with_unfolding_all rfl) | refine y8 ?_ (by with_unfolding_all rfl) | refine y9 ?_ (by with_unfolding_all rfl) | refine ya ?_ (by with_unfolding_all rfl)) | ((with_reducible refine And.intro ?_ ?_); (· omega)) | (simp -dsimp only [↓cw_ret, ↓seqK_normal, ↓getK_same, ↓evK_tmp, ↓opsW_nil, ↓opsW_d, ↓opW_assign, ↓resK_one]))
      exact hq h2 (X1.trans (X2.mono n1))
theorem less_ret {a b : Nat} {h : Heap} {K : Value → Heap → Prop} (ha : a < 18446744073709551616) (hb : b < 18446744073709551616) (hK : K (.bool (decide (keyN a < keyN b))) h) : Ret env (.func 28) [.float .f64 a, .float .f64 b] h K := by
  refine F28 rfl ?_
  repeat' (first | done | with_reducible (first | refine y1 ?_ (by omega) | refine y2 ?_ (by omega) | refine y3 (fun _ => ?_) (fun _ => ?_) | refine y4 ?_ (by omega) (by omega) | refine y5 ?_ (by omega) | refine y6 ?_ (by with_unfolding_all rfl) | refine y7 ?_ (by with_unfolding_all rfl) | refine y8 ?_ (by with_unfolding_all rfl) | refine y9 ?_ (by with_unfolding_all rfl) | refine ya ?_ (by with_unfolding_all rfl)) | ((with_reducible refine And.intro ?_ ?_); (· omega)) | (simp -dsimp only [↓cw_ops, ↓cw_seq, ↓seqK_normal, ↓getK_same, ↓getK_ne, ↓evK_tmp, ↓evK_bool, ↓opsW_nil, ↓opsW_d, ↓opW_move, ↓opW_assign, ↓evs_nil, ↓evs_cons, ↓opW_call, ↓setAll_cons, ↓setAll_nil, ↓r28_0_w, ↓s28_1_w, ↓r28_2_w, ↓s28_3_w, ne_eq, Nat.reduceEqDiff, Nat.reduceAdd, not_false_eq_true, Nat.one_ne_zero]))
  refine key_ret ha ?_
  repeat' (first | done | with_reducible (first | refine y1 ?_ (by omega) | refine y2 ?_ (by omega) | refine y3 (fun _ => ?_) (fun _ => ?_) | refine y4 ?_ (by omega) (by omega) | refine y5 ?_ (by omega) | refine y6 ?_ (by with_unfolding_all rfl) | refine y7 ?_ (by with_unfolding_all rfl) | refine y8 ?_ (by with_unfolding_all rfl) | refine y9 ?_ (by with_unfolding_all rfl) | refine ya ?_ (by with_unfolding_all rfl)) | ((with_reducible refine And.intro ?_ ?_); (· omega)) | (simp -dsimp only [↓getK_same, ↓getK_ne, ↓evK_tmp, ↓opsW_d, ↓opW_move, ↓evs_nil, ↓evs_cons, ↓opW_call, ↓setAll_cons, ↓setAll_nil, ne_eq, Nat.reduceEqDiff, Nat.reduceAdd, not_false_eq_true]))
  refine key_ret hb ?_
  by_cases hc : keyN a < keyN b
  · rw [decide_eq_true hc] at hK
    have e : (keyN a : Int) < (keyN b : Int) := by omega
    repeat' (first | done | with_reducible (first | refine y1 ?_ (by omega) | refine y2 ?_ (by omega) | refine y3 (fun _ => ?_) (fun _ => ?_) | refine y4 ?_ (by omega) (by omega) | refine y5 ?_ (by omega) | refine y6 ?_ (by with_unfolding_all rfl) | refine y7 ?_ (by with_unfolding_all rfl) | refine y8 ?_ (by with_unfolding_all rfl) | refine y9 ?_ (by with_unfolding_all rfl) | refine ya ?_ (by with_unfolding_all rfl)) | ((with_reducible refine And.intro ?_ ?_); (· omega)) | (simp -dsimp only [↓cw_ret, ↓seqK_normal, ↓getK_same, ↓getK_ne, ↓evK_tmp, ↓opsW_nil, ↓opsW_d, ↓opW_assign, ↓opW_bin, ↓bin_lss, ↓resK_one, brK_true, ne_eq, Nat.reduceEqDiff, not_false_eq_true, e]))
    exact hK
  · rw [decide_eq_false hc] at hK
    have e : ¬ (keyN a : Int) < (keyN b : Int) := by omega
    repeat' (first | done | with_reducible (first | refine y1 ?_ (by omega) | refine y2 ?_ (by omega) | refine y3 (fun _ => ?_) (fun _ => ?_) | refine y4 ?_ (by omega) (by omega) | refine y5 ?_ (by omega) | refine y6 ?_ (by with_unfolding_all rfl) | refine y7 ?_ (by with_unfolding_all rfl) | refine y8 ?_ (by with_unfolding_all rfl) | refine y9 ?_ (by with_unfolding_all rfl) | refine ya ?_ (by with_unfolding_all rfl)) | ((with_reducible refine And.intro ?_ ?_); (· omega)) | (simp -dsimp only [↓cw_ret, ↓seqK_normal, ↓getK_same, ↓getK_ne, ↓evK_tmp, ↓opsW_nil, ↓opsW_d, ↓opW_assign, ↓opW_bin, ↓bin_lss, ↓resK_one, brK_false, ne_eq, Nat.reduceEqDiff, not_false_eq_true, e]))
    exact hK
theorem ssame_ret {a b : Nat} {h : Heap} {K : Value → Heap → Prop} (ha : a < 18446744073709551616) (hb : b < 18446744073709551616) (hK : K (.bool (decide (keyN a = keyN b))) h) : Ret env (.func 30) [.float .f64 a, .float .f64 b] h K := by
  refine F30 rfl ?_
  repeat' (first | done | with_reducible (first | refine y1 ?_ (by omega) | refine y2 ?_ (by omega) | refine y3 (fun _ => ?_) (fun _ => ?_) | refine y4 ?_ (by omega) (by omega) | refine y5 ?_ (by omega) | refine y6 ?_ (by with_unfolding_all rfl) | refine y7 ?_ (by with_unfolding_all rfl) | refine y8 ?_ (by with_unfolding_all rfl) | refine y9 ?_ (by with_unfolding_all rfl) | refine ya ?_ (by with_unfolding_all rfl)) | ((with_reducible refine And.intro ?_ ?_); (· omega)) | (simp -dsimp only [↓cw_ops, ↓cw_seq, ↓seqK_normal, ↓getK_same, ↓getK_ne, ↓evK_tmp, ↓evK_bool, ↓opsW_nil, ↓opsW_d, ↓opW_move, ↓opW_assign, ↓evs_nil, ↓evs_cons, ↓opW_call, ↓setAll_cons, ↓setAll_nil, ↓r30_0_w, ↓s30_1_w, ↓r30_2_w, ↓s30_3_w, ne_eq, Nat.reduceEqDiff, Nat.reduceAdd, not_false_eq_true, Nat.one_ne_zero]))
  refine key_ret ha ?_
  repeat' (first | done | with_reducible (first | refine y1 ?_ (by omega) | refine y2 ?_ (by omega) | refine y3 (fun _ => ?_) (fun _ => ?_) | refine y4 ?_ (by omega) (by omega) | refine y5 ?_ (by omega) | refine y6 ?_ (by with_unfolding_all rfl) | refine y7 ?_ (by with_unfolding_all rfl) | refine y8 ?_ (by with_unfolding_all rfl) | refine y9 ?_ (by with_unfolding_all rfl) | refine ya ?_ (by with_unfolding_all rfl)) | ((with_reducible refine And.intro ?_ ?_); (· omega)) | (simp -dsimp only [↓getK_same, ↓getK_ne, ↓evK_tmp, ↓opsW_d, ↓opW_move, ↓evs_nil, ↓evs_cons, ↓opW_call, ↓setAll_cons, ↓setAll_nil, ne_eq, Nat.reduceEqDiff, Nat.reduceAdd, not_false_eq_true]))
  refine key_ret hb ?_
  by_cases hc : keyN a = keyN b
  · rw [decide_eq_true hc] at hK
    have e : (keyN a : Int) = (keyN b : Int) := by omega
    repeat' (first | done | with_reducible (first | refine y1 ?_ (by omega) | refine y2 ?_ (by omega) | refine y3 (fun _ => ?_) (fun _ => ?_) | refine y4 ?_ (by omega) (by omega) | refine y5 ?_ (by omega) | refine y6 ?_ (by with_unfolding_all rfl) | refine y7 ?_ (by with_unfolding_all rfl) | refine y8 ?_ (by with_unfolding_all rfl) | refine y9 ?_ (by with_unfolding_all rfl) | refine ya ?_ (by with_unfolding_all rfl)) | ((with_reducible refine And.intro ?_ ?_); (· omega)) | (simp -dsimp only [↓cw_ret, ↓seqK_normal, ↓getK_same, ↓getK_ne, ↓evK_tmp, ↓opsW_nil, ↓opsW_d, ↓opW_assign, ↓opW_bin, ↓bin_eql, ↓resK_one, brK_true, ne_eq, Nat.reduceEqDiff, not_false_eq_true, e]))
    exact hK
  · rw [decide_eq_false hc] at hK
    have e : ¬ (keyN a : Int) = (keyN b : Int) := by omega
    repeat' (first | done | with_reducible (first | refine y1 ?_ (by omega) | refine y2 ?_ (by omega) | refine y3 (fun _ => ?_) (fun _ => ?_) | refine y4 ?_ (by omega) (by omega) | refine y5 ?_ (by omega) | refine y6 ?_ (by with_unfolding_all rfl) | refine y7 ?_ (by with_unfolding_all rfl) | refine y8 ?_ (by with_unfolding_all rfl) | refine y9 ?_ (by with_unfolding_all rfl) | refine ya ?_ (by with_unfolding_all rfl)) | ((with_reducible refine And.intro ?_ ?_); (· omega)) | (simp -dsimp only [↓cw_ret, ↓seqK_normal, ↓getK_same, ↓getK_ne, ↓evK_tmp, ↓opsW_nil, ↓opsW_d, ↓opW_assign, ↓opW_bin, ↓bin_eql, ↓resK_one, brK_false, ne_eq, Nat.reduceEqDiff, not_false_eq_true, e]))
    exact hK
end Go.Proofs.YtjcmcoabckkjoaaDoor.Or

namespace Go.Proofs.YtjcmcoabckkjoaaDoor.Or
open Go.Ev
set_option maxRecDepth 100000
set_option maxHeartbeats 400000
def expN (n : Nat) : Nat := n / 4503599627370496 % 2048
theorem parts_ret {n : Nat} {h : Heap} {K : Value → Heap → Prop} (hn : n < 18446744073709551616)
    (hK : K (.tuple #[.bool (negN n), .int .i64 (expN n : Nat), .int .u64 (n % 4503599627370496 : Nat)]) h) : Ret env (.func 40) [.float .f64 n] h K := by
  have e0 : (n : Int).tdiv 4503599627370496 = (n / 4503599627370496 : Nat) := rfl
  have e1 : IntKind.u64.wrap ((n : Int).tdiv 4503599627370496) = (n / 4503599627370496 : Nat) := by rw [e0]; exact wrap_u64 (by omega) (by omega)
  have e2 : ((n / 4503599627370496 : Nat) : Int).tmod 2048 = (n / 4503599627370496 % 2048 : Nat) := rfl
  have e3 : IntKind.i64.wrap (n / 4503599627370496 % 2048 : Nat) = (n / 4503599627370496 % 2048 : Nat) := wrap_i64 (by omega) (by omega)
  have e4 : (n : Int).tmod 4503599627370496 = (n % 4503599627370496 : Nat) := rfl
  unfold expN negN at hK
  refine F40 rfl ?_
  repeat' (first | done | with_reducible (first | refine y1 ?_ (by omega) | refine y2 ?_ (by omega) | refine y3 (fun _ => ?_) (fun _ => ?_) | refine y4 ?_ (by omega) (by omega) | refine y5 ?_ (by omega) | refine y6 ?_ (by with_unfolding_all rfl) | refine y7 ?_ (by with_unfolding_all rfl) | refine y8 ?_ (by with_unfolding_all rfl) | refine y9 ?_ (by with_unfolding_all rfl) | refine ya ?_ (by with_unfolding_all rfl)) | ((with_reducible refine And.intro ?_ ?_); (· omega)) | (simp -dsimp only [↓cw_ops, ↓cw_seq, ↓seqK_normal, ↓getK_same, ↓getK_ne, ↓evK_tmp, ↓evK_int, ↓evK_bool, ↓opsW_nil, ↓opsW_d, ↓opW_move, ↓opW_assign, ↓evs_nil, ↓evs_cons, ↓opW_call, ↓setAll_cons, ↓setAll_nil, ↓r40_2_w, ↓s40_3_w, ↓r40_4_w, ↓s40_5_w, ne_eq, Nat.reduceEqDiff, not_false_eq_true]))
  refine bits_fl ?_
  by_cases hg : 9223372036854775808 ≤ n
  · rw [decide_eq_true hg] at hK
    have c1 : (9223372036854775807 : Int) < (n : Int) := by omega
    repeat' (first | done | with_reducible (first | refine y1 ?_ (by omega) | refine y2 ?_ (by omega) | refine y3 (fun _ => ?_) (fun _ => ?_) | refine y4 ?_ (by omega) (by omega) | refine y5 ?_ (by omega) | refine y6 ?_ (by with_unfolding_all rfl) | refine y7 ?_ (by with_unfolding_all rfl) | refine y8 ?_ (by with_unfolding_all rfl) | refine y9 ?_ (by with_unfolding_all rfl) | refine ya ?_ (by with_unfolding_all rfl)) | ((with_reducible refine And.intro ?_ ?_); (· omega)) | (simp -dsimp only [↓cw_ops, ↓cw_seq, ↓cw_ret, ↓seqK_normal, ↓getK_same, ↓getK_ne, ↓evK_tmp, ↓evK_int, ↓opsW_nil, ↓opsW_d, ↓opW_move, ↓opW_assign, ↓opW_bin, ↓bin_quo, ↓bin_rem, ↓bin_gtr, ↓cint_int, ↓resK_three, ↓cv_23_3, ↓r40_0_w, ↓s40_1_w, brK_true, ne_eq, Nat.reduceEqDiff, not_false_eq_true, e1, e2, e3, e4, c1]))
    exact hK
  · rw [decide_eq_false hg] at hK
    have c1 : ¬ (9223372036854775807 : Int) < (n : Int) := by omega
    repeat' (first | done | with_reducible (first | refine y1 ?_ (by omega) | refine y2 ?_ (by omega) | refine y3 (fun _ => ?_) (fun _ => ?_) | refine y4 ?_ (by omega) (by omega) | refine y5 ?_ (by omega) | refine y6 ?_ (by with_unfolding_all rfl) | refine y7 ?_ (by with_unfolding_all rfl) | refine y8 ?_ (by with_unfolding_all rfl) | refine y9 ?_ (by with_unfolding_all rfl) | refine ya ?_ (by with_unfolding_all rfl)) | ((with_reducible refine And.intro ?_ ?_); (· omega)) | (simp -dsimp only [↓cw_ops, ↓cw_seq, ↓cw_ret, ↓seqK_normal, ↓getK_same, ↓getK_ne, ↓evK_tmp, ↓evK_int, ↓opsW_nil, ↓opsW_d, ↓opW_move, ↓opW_assign, ↓opW_bin, ↓bin_quo, ↓bin_rem, ↓bin_gtr, ↓cint_int, ↓resK_three, ↓cv_23_3, ↓r40_0_w, ↓s40_1_w, brK_false, ne_eq, Nat.reduceEqDiff, not_false_eq_true, e1, e2, e3, e4, c1]))
    exact hK
theorem isBool4 : isBoolT env 4 = true := by kernel_rfl
theorem rless_ret {a b : Nat} {h : Heap} {K : Value → Heap → Prop} (ha : a < 18446744073709551616) (hb : b < 18446744073709551616) (hK : K (.bool (decide (keyN a < keyN b))) h) : Ret env (.func 29) [.float .f64 a, .float .f64 b] h K := by
  refine F29 rfl ?_
  have ka := keyN_nan ha
  have kb := keyN_nan hb
  have la := keyN_lt ha
  have lb := keyN_lt hb
  repeat' (first | done | with_reducible (first | refine y1 ?_ (by omega) | refine y2 ?_ (by omega) | refine y3 (fun _ => ?_) (fun _ => ?_) | refine y4 ?_ (by omega) (by omega) | refine y5 ?_ (by omega) | refine y6 ?_ (by with_unfolding_all rfl) | refine y7 ?_ (by with_unfolding_all rfl) | refine y8 ?_ (by with_unfolding_all rfl) | refine y9 ?_ (by with_unfolding_all rfl) | refine ya ?_ (by with_unfolding_all rfl)) | ((with_reducible refine And.intro ?_ ?_); (· omega)) | (simp -dsimp only [↓cw_ops, ↓cw_seq, ↓seqK_normal, ↓getK_same, ↓getK_ne, ↓evK_tmp, ↓evK_bool, ↓opsW_nil, ↓opsW_d, ↓opW_move, ↓opW_assign, ↓evs_nil, ↓evs_cons, ↓opW_call, ↓setAll_cons, ↓setAll_nil, ↓r29_23_w, ↓s29_24_w, ↓s29_25_w, ↓r29_26_w, ↓s29_27_w, ne_eq, Nat.reduceEqDiff, Nat.reduceAdd, not_false_eq_true, Nat.one_ne_zero]))
  refine nan_fl ha ?_
  cases na : isNan a with
  | true =>
    rw [decide_eq_false (by rw [ka.2 na]; omega)] at hK
    repeat' (first | done | with_reducible (first | refine y1 ?_ (by omega) | refine y2 ?_ (by omega) | refine y3 (fun _ => ?_) (fun _ => ?_) | refine y4 ?_ (by omega) (by omega) | refine y5 ?_ (by omega) | refine y6 ?_ (by with_unfolding_all rfl) | refine y7 ?_ (by with_unfolding_all rfl) | refine y8 ?_ (by with_unfolding_all rfl) | refine y9 ?_ (by with_unfolding_all rfl) | refine ya ?_ (by with_unfolding_all rfl)) | ((with_reducible refine And.intro ?_ ?_); (· omega)) | (simp -dsimp only [↓cw_ops, ↓cw_seq, ↓cw_cond, ↓seqK_normal, ↓getK_same, ↓getK_ne, ↓evK_tmp, ↓evK_bool, ↓condV_var, ↓gdV_var, ↓opsW_nil, ↓opsW_d, ↓opsW_gd, ↓opW_move, ↓opW_pick, ↓evs_nil, ↓evs_cons, ↓opW_call, ↓setAll_cons, ↓setAll_nil, ↓r29_20_w, ↓s29_21_w, ↓s29_22_w, brK_true, brK_false, ne_eq, Nat.reduceEqDiff, Nat.reduceAdd, not_false_eq_true, Nat.one_ne_zero, Bool.true_eq_false]))
    refine nan_fl ha ?_
    rw [na]
    repeat' (first | done | with_reducible (first | refine y1 ?_ (by omega) | refine y2 ?_ (by omega) | refine y3 (fun _ => ?_) (fun _ => ?_) | refine y4 ?_ (by omega) (by omega) | refine y5 ?_ (by omega) | refine y6 ?_ (by with_unfolding_all rfl) | refine y7 ?_ (by with_unfolding_all rfl) | refine y8 ?_ (by with_unfolding_all rfl) | refine y9 ?_ (by with_unfolding_all rfl) | refine ya ?_ (by with_unfolding_all rfl)) | ((with_reducible refine And.intro ?_ ?_); (· omega)) | (simp -dsimp only [↓cw_ret, ↓seqK_normal, ↓seqK_ret, ↓getK_same, ↓evK_tmp, ↓opsW_nil, ↓opsW_d, ↓opW_assign, ↓resK_one, ↓opW_un, ↓un_not, Bool.not_true]))
    exact hK
  | false =>
    repeat' (first | done | with_reducible (first | refine y1 ?_ (by omega) | refine y2 ?_ (by omega) | refine y3 (fun _ => ?_) (fun _ => ?_) | refine y4 ?_ (by omega) (by omega) | refine y5 ?_ (by omega) | refine y6 ?_ (by with_unfolding_all rfl) | refine y7 ?_ (by with_unfolding_all rfl) | refine y8 ?_ (by with_unfolding_all rfl) | refine y9 ?_ (by with_unfolding_all rfl) | refine ya ?_ (by with_unfolding_all rfl)) | ((with_reducible refine And.intro ?_ ?_); (· omega)) | (simp -dsimp only [↓getK_same, ↓getK_ne, ↓evK_tmp, ↓gdV_var, ↓opsW_d, ↓opsW_gd, ↓opW_move, ↓evs_nil, ↓evs_cons, ↓opW_call, ↓setAll_cons, ↓setAll_nil, brK_true, ne_eq, Nat.reduceEqDiff, Nat.reduceAdd, not_false_eq_true]))
    refine nan_fl hb ?_
    cases nb : isNan b with
    | true =>
      rw [decide_eq_true (by rw [kb.2 nb]; have : ¬ keyN a = 18446744073709551615 := fun e => by rw [ka.1 e] at na; cases na
                             omega)] at hK
      repeat' (first | done | with_reducible (first | refine y1 ?_ (by omega) | refine y2 ?_ (by omega) | refine y3 (fun _ => ?_) (fun _ => ?_) | refine y4 ?_ (by omega) (by omega) | refine y5 ?_ (by omega) | refine y6 ?_ (by with_unfolding_all rfl) | refine y7 ?_ (by with_unfolding_all rfl) | refine y8 ?_ (by with_unfolding_all rfl) | refine y9 ?_ (by with_unfolding_all rfl) | refine ya ?_ (by with_unfolding_all rfl)) | ((with_reducible refine And.intro ?_ ?_); (· omega)) | (simp -dsimp only [↓cw_ops, ↓cw_seq, ↓cw_cond, ↓seqK_normal, ↓getK_same, ↓getK_ne, ↓evK_tmp, ↓condV_var, ↓opsW_nil, ↓opsW_d, ↓opW_move, ↓opW_pick, ↓evs_nil, ↓evs_cons, ↓opW_call, ↓setAll_cons, ↓setAll_nil, ↓r29_20_w, ↓s29_21_w, ↓s29_22_w, brK_true, brK_false, ne_eq, Nat.reduceEqDiff, Nat.reduceAdd, not_false_eq_true, Nat.one_ne_zero, Bool.false_eq_true]))
      refine nan_fl ha ?_
      rw [na]
      repeat' (first | done | with_reducible (first | refine y1 ?_ (by omega) | refine y2 ?_ (by omega) | refine y3 (fun _ => ?_) (fun _ => ?_) | refine y4 ?_ (by omega) (by omega) | refine y5 ?_ (by omega) | refine y6 ?_ (by with_unfolding_all rfl) | refine y7 ?_ (by with_unfolding_all rfl) | refine y8 ?_ (by with_unfolding_all rfl) | refine y9 ?_ (by with_unfolding_all rfl) | refine ya ?_ (by with_unfolding_all rfl)) | ((with_reducible refine And.intro ?_ ?_); (· omega)) | (simp -dsimp only [↓cw_ret, ↓seqK_normal, ↓seqK_ret, ↓getK_same, ↓evK_tmp, ↓opsW_nil, ↓opsW_d, ↓opW_assign, ↓resK_one, ↓opW_un, ↓un_not, Bool.not_false]))
      exact hK
    | false =>
      repeat' (first | done | with_reducible (first | refine y1 ?_ (by omega) | refine y2 ?_ (by omega) | refine y3 (fun _ => ?_) (fun _ => ?_) | refine y4 ?_ (by omega) (by omega) | refine y5 ?_ (by omega) | refine y6 ?_ (by with_unfolding_all rfl) | refine y7 ?_ (by with_unfolding_all rfl) | refine y8 ?_ (by with_unfolding_all rfl) | refine y9 ?_ (by with_unfolding_all rfl) | refine ya ?_ (by with_unfolding_all rfl)) | ((with_reducible refine And.intro ?_ ?_); (· omega)) | (simp -dsimp only [↓cw_skip, ↓cw_ops, ↓cw_seq, ↓cw_cond, ↓seqK_normal, ↓getK_same, ↓getK_ne, ↓evK_tmp, ↓condV_var, ↓opsW_nil, ↓opsW_d, ↓opW_move, ↓opW_pick, ↓evs_nil, ↓evs_cons, ↓opW_call, ↓setAll_cons, ↓setAll_nil, ↓r29_18_w, ↓s29_19_w, ↓s29_22_w, brK_false, ne_eq, Nat.reduceEqDiff, Nat.reduceAdd, not_false_eq_true, Nat.one_ne_zero, Bool.false_eq_true]))
      refine parts_ret ha ?_
      repeat' (first | done | with_reducible (first | refine y1 ?_ (by omega) | refine y2 ?_ (by omega) | refine y3 (fun _ => ?_) (fun _ => ?_) | refine y4 ?_ (by omega) (by omega) | refine y5 ?_ (by omega) | refine y6 ?_ (by with_unfolding_all rfl) | refine y7 ?_ (by with_unfolding_all rfl) | refine y8 ?_ (by with_unfolding_all rfl) | refine y9 ?_ (by with_unfolding_all rfl) | refine ya ?_ (by with_unfolding_all rfl)) | ((with_reducible refine And.intro ?_ ?_); (· omega)) | (simp -dsimp only [↓cw_ops, ↓cw_seq, ↓seqK_normal, ↓getK_same, ↓getK_ne, ↓evK_tmp, ↓opsW_nil, ↓opsW_d, ↓opW_move, ↓opW_assign, ↓evs_nil, ↓evs_cons, ↓opW_call, ↓setAll_cons, ↓setAll_nil, ↓opW_extract, ↓ext_tuple, ↓r29_16_w, ↓s29_17_w, List.getElem?_cons_zero, List.getElem?_cons_succ, onV_some', ne_eq, Nat.reduceEqDiff, Nat.reduceAdd, not_false_eq_true]))
      refine parts_ret hb ?_
      have hka : keyN a = if 9223372036854775808 ≤ a then 18446744073709551615 - a else a + 9223372036854775808 := by unfold keyN; rw [na]; rfl
      have hkb : keyN b = if 9223372036854775808 ≤ b then 18446744073709551615 - b else b + 9223372036854775808 := by unfold keyN; rw [nb]; rfl
      rw [hka, hkb] at hK
      clear ka kb la lb hka hkb na nb
      have ea : a = (if negN a then 9223372036854775808 else 0) + expN a * 4503599627370496 + a % 4503599627370496 := by
        unfold negN expN; by_cases h : 9223372036854775808 ≤ a
        · rw [decide_eq_true h, if_pos rfl]; omega
        · rw [decide_eq_false h, if_neg (by decide)]; omega
      have eb : b = (if negN b then 9223372036854775808 else 0) + expN b * 4503599627370496 + b % 4503599627370496 := by
        unfold negN expN; by_cases h : 9223372036854775808 ≤ b
        · rw [decide_eq_true h, if_pos rfl]; omega
        · rw [decide_eq_false h, if_neg (by decide)]; omega
      have xa : expN a < 2048 := by unfold expN; omega
      have xb : expN b < 2048 := by unfold expN; omega
      have ya : a % 4503599627370496 < 4503599627370496 := by omega
      have yb : b % 4503599627370496 < 4503599627370496 := by omega
      have sa : negN a = decide (9223372036854775808 ≤ a) := rfl
      have sb : negN b = decide (9223372036854775808 ≤ b) := rfl
      generalize expN a = p at *
      generalize expN b = q at *
      generalize a % 4503599627370496 = u at *
      generalize b % 4503599627370496 = w at *
      have b1 : (!(true == true)) = false := rfl
      have b2 : (!(true == false)) = true := rfl
      have b3 : (!(false == true)) = true := rfl
      have b4 : (!(false == false)) = false := rfl
      cases ga : negN a with
      | true =>
        rw [ga] at ea sa
        have ga2 : 9223372036854775808 ≤ a := of_decide_eq_true sa.symm
        rw [if_pos ga2] at hK
        rw [if_pos rfl] at ea
        cases gb : negN b with
        | false =>
          rw [gb] at eb sb
          have gb2 : ¬ 9223372036854775808 ≤ b := of_decide_eq_false sb.symm
          rw [if_neg gb2, decide_eq_true (by omega)] at hK
          repeat' (first | done | with_reducible (first | refine y1 ?_ (by omega) | refine y2 ?_ (by omega) | refine y3 (fun _ => ?_) (fun _ => ?_) | refine y4 ?_ (by omega) (by omega) | refine y5 ?_ (by omega) | refine y6 ?_ (by with_unfolding_all rfl) | refine y7 ?_ (by with_unfolding_all rfl) | refine y8 ?_ (by with_unfolding_all rfl) | refine y9 ?_ (by with_unfolding_all rfl) | refine ya ?_ (by with_unfolding_all rfl)) | ((with_reducible refine And.intro ?_ ?_); (· omega)) | (simp -dsimp only [↓cw_ops, ↓cw_seq, ↓cw_ret, ↓cw_cond, ↓seqK_normal, ↓seqK_ret, ↓getK_same, ↓getK_ne, ↓evK_tmp, ↓condV_var, ↓opsW_nil, ↓opsW_d, ↓opW_move, ↓opW_assign, ↓opW_bin, ↓resK_one, ↓opW_extract, ↓ext_tuple, ↓r29_10_w, ↓s29_11_w, ↓s29_12_w, ↓r29_13_w, ↓s29_14_w, ↓s29_15_w, List.getElem?_cons_zero, List.getElem?_cons_succ, onV_some', brK_true, ne_eq, Nat.reduceEqDiff, not_false_eq_true, b2, bin_neqB isBool4]))
          exact hK
        | true =>
          rw [gb] at eb sb
          have gb2 : 9223372036854775808 ≤ b := of_decide_eq_true sb.symm
          rw [if_pos gb2] at hK
          rw [if_pos rfl] at eb
          clear sa sb
          by_cases c1 : p = q
          · have d1 : (p : Int) = (q : Int) := by omega
            have d2 : ¬ (p : Int) < (q : Int) := by omega
            by_cases c2 : u = w
            · have d3 : (u : Int) = (w : Int) := by omega
              rw [decide_eq_false (by omega)] at hK
              repeat' (first | done | with_reducible (first | refine y1 ?_ (by omega) | refine y2 ?_ (by omega) | refine y3 (fun _ => ?_) (fun _ => ?_) | refine y4 ?_ (by omega) (by omega) | refine y5 ?_ (by omega) | refine y6 ?_ (by with_unfolding_all rfl) | refine y7 ?_ (by with_unfolding_all rfl) | refine y8 ?_ (by with_unfolding_all rfl) | refine y9 ?_ (by with_unfolding_all rfl) | refine ya ?_ (by with_unfolding_all rfl)) | ((with_reducible refine And.intro ?_ ?_); (· omega)) | (simp -dsimp only [↓cw_skip, ↓cw_ops, ↓cw_seq, ↓cw_ret, ↓cw_cond, ↓seqK_normal, ↓seqK_ret, ↓getK_same, ↓getK_ne, ↓evK_tmp, ↓evK_bool, ↓condV_var, ↓gdV_var, ↓opsW_nil, ↓opsW_d, ↓opsW_gd, ↓opW_move, ↓opW_assign, ↓opW_pick, ↓opW_bin, ↓bin_eql, ↓resK_one, ↓opW_extract, ↓ext_tuple, ↓r29_4_w, ↓s29_5_w, ↓s29_6_w, ↓r29_7_w, ↓s29_8_w, ↓s29_9_w, ↓s29_12_w, ↓r29_13_w, ↓s29_14_w, ↓s29_15_w, List.getElem?_cons_zero, List.getElem?_cons_succ, onV_some', brK_true, brK_false, ne_eq, Nat.reduceEqDiff, not_false_eq_true, Bool.false_eq_true,  b1, bin_neqB isBool4, d1, d3]))
              exact hK
            · have d3 : ¬ (u : Int) = (w : Int) := by omega
              by_cases c3 : u < w
              · have d4 : (u : Int) < (w : Int) := by omega
                rw [decide_eq_false (by omega)] at hK
                repeat' (first | done | with_reducible (first | refine y1 ?_ (by omega) | refine y2 ?_ (by omega) | refine y3 (fun _ => ?_) (fun _ => ?_) | refine y4 ?_ (by omega) (by omega) | refine y5 ?_ (by omega) | refine y6 ?_ (by with_unfolding_all rfl) | refine y7 ?_ (by with_unfolding_all rfl) | refine y8 ?_ (by with_unfolding_all rfl) | refine y9 ?_ (by with_unfolding_all rfl) | refine ya ?_ (by with_unfolding_all rfl)) | ((with_reducible refine And.intro ?_ ?_); (· omega)) | (simp -dsimp only [↓cw_skip, ↓cw_ops, ↓cw_seq, ↓cw_ret, ↓cw_cond, ↓seqK_normal, ↓getK_same, ↓getK_ne, ↓evK_tmp, ↓condV_var, ↓gdV_var, ↓opsW_nil, ↓opsW_d, ↓opsW_gd, ↓opW_move, ↓opW_assign, ↓opW_pick, ↓opW_bin, ↓bin_eql, ↓bin_lss, ↓resK_one, ↓opW_extract, ↓ext_tuple, ↓r29_0_w, ↓s29_1_w, ↓r29_2_w, ↓s29_3_w, ↓s29_6_w, ↓r29_7_w, ↓s29_8_w, ↓s29_9_w, ↓s29_12_w, ↓r29_13_w, ↓s29_14_w, ↓s29_15_w, List.getElem?_cons_zero, List.getElem?_cons_succ, onV_some', brK_true, brK_false, ne_eq, Nat.reduceEqDiff, not_false_eq_true, Bool.false_eq_true,  b1, bin_neqB isBool4, d1, d3, d4]))
                exact hK
              · have d4 : ¬ (u : Int) < (w : Int) := by omega
                rw [decide_eq_true (by omega)] at hK
                repeat' (first | done | with_reducible (first | refine y1 ?_ (by omega) | refine y2 ?_ (by omega) | refine y3 (fun _ => ?_) (fun _ => ?_) | refine y4 ?_ (by omega) (by omega) | refine y5 ?_ (by omega) | refine y6 ?_ (by with_unfolding_all rfl) | refine y7 ?_ (by with_unfolding_all rfl) | refine y8 ?_ (by with_unfolding_all rfl) | refine y9 ?_ (by with_unfolding_all rfl) | refine ya ?_ (by with_unfolding_all rfl)) | ((with_reducible refine And.intro ?_ ?_); (· omega)) | (simp -dsimp only [↓cw_skip, ↓cw_ops, ↓cw_seq, ↓cw_ret, ↓cw_cond, ↓seqK_normal, ↓getK_same, ↓getK_ne, ↓evK_tmp, ↓condV_var, ↓gdV_var, ↓opsW_nil, ↓opsW_d, ↓opsW_gd, ↓opW_move, ↓opW_assign, ↓opW_pick, ↓opW_bin, ↓bin_eql, ↓bin_lss, ↓resK_one, ↓opW_extract, ↓ext_tuple, ↓r29_0_w, ↓s29_1_w, ↓r29_2_w, ↓s29_3_w, ↓s29_6_w, ↓r29_7_w, ↓s29_8_w, ↓s29_9_w, ↓s29_12_w, ↓r29_13_w, ↓s29_14_w, ↓s29_15_w, List.getElem?_cons_zero, List.getElem?_cons_succ, onV_some', brK_true, brK_false, ne_eq, Nat.reduceEqDiff, not_false_eq_true, Bool.false_eq_true,  b1, b3, bin_neqB isBool4, d1, d3, d4]))
                exact hK
          · have d1 : ¬ (p : Int) = (q : Int) := by omega
            by_cases c2 : p < q
            · have d2 : (p : Int) < (q : Int) := by omega
              rw [decide_eq_false (by omega)] at hK
              repeat' (first | done | with_reducible (first | refine y1 ?_ (by omega) | refine y2 ?_ (by omega) | refine y3 (fun _ => ?_) (fun _ => ?_) | refine y4 ?_ (by omega) (by omega) | refine y5 ?_ (by omega) | refine y6 ?_ (by with_unfolding_all rfl) | refine y7 ?_ (by with_unfolding_all rfl) | refine y8 ?_ (by with_unfolding_all rfl) | refine y9 ?_ (by with_unfolding_all rfl) | refine ya ?_ (by with_unfolding_all rfl)) | ((with_reducible refine And.intro ?_ ?_); (· omega)) | (simp -dsimp only [↓cw_skip, ↓cw_ops, ↓cw_seq, ↓cw_ret, ↓cw_cond, ↓seqK_normal, ↓getK_same, ↓getK_ne, ↓evK_tmp, ↓evK_bool, ↓condV_var, ↓gdV_var, ↓gdV_undef, ↓opsW_nil, ↓opsW_d, ↓opsW_gd, ↓opW_move, ↓opW_assign, ↓opW_pick, ↓opW_bin, ↓bin_eql, ↓bin_lss, ↓resK_one, ↓opW_extract, ↓ext_tuple, ↓r29_0_w, ↓s29_1_w, ↓r29_2_w, ↓s29_3_w, ↓s29_6_w, ↓r29_7_w, ↓s29_8_w, ↓s29_9_w, ↓s29_12_w, ↓r29_13_w, ↓s29_14_w, ↓s29_15_w, List.getElem?_cons_zero, List.getElem?_cons_succ, onV_some', brK_true, brK_false, ne_eq, Nat.reduceEqDiff, not_false_eq_true, Bool.true_eq_false, Bool.false_eq_true,  b1, bin_neqB isBool4, d1, d2]))
              exact hK
            · have d2 : ¬ (p : Int) < (q : Int) := by omega
              rw [decide_eq_true (by omega)] at hK
              repeat' (first | done | with_reducible (first | refine y1 ?_ (by omega) | refine y2 ?_ (by omega) | refine y3 (fun _ => ?_) (fun _ => ?_) | refine y4 ?_ (by omega) (by omega) | refine y5 ?_ (by omega) | refine y6 ?_ (by with_unfolding_all rfl) | refine y7 ?_ (by with_unfolding_all rfl) | refine y8 ?_ (by with_unfolding_all rfl) | refine y9 ?_ (by with_unfolding_all rfl) | refine ya ?_ (by with_unfolding_all rfl)) | ((with_reducible refine And.intro ?_ ?_); (· omega)) | (simp -dsimp only [↓cw_skip, ↓cw_ops, ↓cw_seq, ↓cw_ret, ↓cw_cond, ↓seqK_normal, ↓getK_same, ↓getK_ne, ↓evK_tmp, ↓evK_bool, ↓condV_var, ↓gdV_var, ↓opsW_nil, ↓opsW_d, ↓opsW_gd, ↓opW_move, ↓opW_assign, ↓opW_pick, ↓opW_bin, ↓bin_eql, ↓bin_lss, ↓resK_one, ↓opW_extract, ↓ext_tuple, ↓r29_0_w, ↓s29_1_w, ↓r29_2_w, ↓s29_3_w, ↓s29_6_w, ↓r29_7_w, ↓s29_8_w, ↓s29_9_w, ↓s29_12_w, ↓r29_13_w, ↓s29_14_w, ↓s29_15_w, List.getElem?_cons_zero, List.getElem?_cons_succ, onV_some', brK_true, brK_false, ne_eq, Nat.reduceEqDiff, not_false_eq_true, Bool.false_eq_true,  b1, b3, bin_neqB isBool4, d1, d2]))
              exact hK
      | false =>
        rw [ga] at ea sa
        have ga2 : ¬ 9223372036854775808 ≤ a := of_decide_eq_false sa.symm
        rw [if_neg ga2] at hK
        rw [if_neg (by decide)] at ea
        cases gb : negN b with
        | true =>
          rw [gb] at eb sb
          have gb2 : 9223372036854775808 ≤ b := of_decide_eq_true sb.symm
          rw [if_pos gb2, decide_eq_false (by omega)] at hK
          repeat' (first | done | with_reducible (first | refine y1 ?_ (by omega) | refine y2 ?_ (by omega) | refine y3 (fun _ => ?_) (fun _ => ?_) | refine y4 ?_ (by omega) (by omega) | refine y5 ?_ (by omega) | refine y6 ?_ (by with_unfolding_all rfl) | refine y7 ?_ (by with_unfolding_all rfl) | refine y8 ?_ (by with_unfolding_all rfl) | refine y9 ?_ (by with_unfolding_all rfl) | refine ya ?_ (by with_unfolding_all rfl)) | ((with_reducible refine And.intro ?_ ?_); (· omega)) | (simp -dsimp only [↓cw_ops, ↓cw_seq, ↓cw_ret, ↓cw_cond, ↓seqK_normal, ↓seqK_ret, ↓getK_same, ↓getK_ne, ↓evK_tmp, ↓condV_var, ↓opsW_nil, ↓opsW_d, ↓opW_move, ↓opW_assign, ↓opW_bin, ↓resK_one, ↓opW_extract, ↓ext_tuple, ↓r29_10_w, ↓s29_11_w, ↓s29_12_w, ↓r29_13_w, ↓s29_14_w, ↓s29_15_w, List.getElem?_cons_zero, List.getElem?_cons_succ, onV_some', brK_true, ne_eq, Nat.reduceEqDiff, not_false_eq_true, b3, bin_neqB isBool4]))
          exact hK
        | false =>
          rw [gb] at eb sb
          have gb2 : ¬ 9223372036854775808 ≤ b := of_decide_eq_false sb.symm
          rw [if_neg gb2] at hK
          rw [if_neg (by decide)] at eb
          clear sa sb
          by_cases c1 : p = q
          · have d1 : (p : Int) = (q : Int) := by omega
            have d2 : ¬ (p : Int) < (q : Int) := by omega
            by_cases c2 : u = w
            · have d3 : (u : Int) = (w : Int) := by omega
              rw [decide_eq_false (by omega)] at hK
              repeat' (first | done | with_reducible (first | refine y1 ?_ (by omega) | refine y2 ?_ (by omega) | refine y3 (fun _ => ?_) (fun _ => ?_) | refine y4 ?_ (by omega) (by omega) | refine y5 ?_ (by omega) | refine y6 ?_ (by with_unfolding_all rfl) | refine y7 ?_ (by with_unfolding_all rfl) | refine y8 ?_ (by with_unfolding_all rfl) | refine y9 ?_ (by with_unfolding_all rfl) | refine ya ?_ (by with_unfolding_all rfl)) | ((with_reducible refine And.intro ?_ ?_); (· omega)) | (simp -dsimp only [↓cw_skip, ↓cw_ops, ↓cw_seq, ↓cw_ret, ↓cw_cond, ↓seqK_normal, ↓seqK_ret, ↓getK_same, ↓getK_ne, ↓evK_tmp, ↓evK_bool, ↓condV_var, ↓gdV_var, ↓opsW_nil, ↓opsW_d, ↓opsW_gd, ↓opW_move, ↓opW_assign, ↓opW_pick, ↓opW_bin, ↓bin_eql, ↓resK_one, ↓opW_extract, ↓ext_tuple, ↓r29_4_w, ↓s29_5_w, ↓s29_6_w, ↓r29_7_w, ↓s29_8_w, ↓s29_9_w, ↓s29_12_w, ↓r29_13_w, ↓s29_14_w, ↓s29_15_w, List.getElem?_cons_zero, List.getElem?_cons_succ, onV_some', brK_true, brK_false, ne_eq, Nat.reduceEqDiff, not_false_eq_true, Bool.false_eq_true,  b4, bin_neqB isBool4, d1, d3]))
              exact hK
            · have d3 : ¬ (u : Int) = (w : Int) := by omega
              by_cases c3 : u < w
              · have d4 : (u : Int) < (w : Int) := by omega
                rw [decide_eq_true (by omega)] at hK
                repeat' (first | done | with_reducible (first | refine y1 ?_ (by omega) | refine y2 ?_ (by omega) | refine y3 (fun _ => ?_) (fun _ => ?_) | refine y4 ?_ (by omega) (by omega) | refine y5 ?_ (by omega) | refine y6 ?_ (by with_unfolding_all rfl) | refine y7 ?_ (by with_unfolding_all rfl) | refine y8 ?_ (by with_unfolding_all rfl) | refine y9 ?_ (by with_unfolding_all rfl) | refine ya ?_ (by with_unfolding_all rfl)) | ((with_reducible refine And.intro ?_ ?_); (· omega)) | (simp -dsimp only [↓cw_skip, ↓cw_ops, ↓cw_seq, ↓cw_ret, ↓cw_cond, ↓seqK_normal, ↓getK_same, ↓getK_ne, ↓evK_tmp, ↓condV_var, ↓gdV_var, ↓opsW_nil, ↓opsW_d, ↓opsW_gd, ↓opW_move, ↓opW_assign, ↓opW_pick, ↓opW_bin, ↓bin_eql, ↓bin_lss, ↓resK_one, ↓opW_extract, ↓ext_tuple, ↓r29_0_w, ↓s29_1_w, ↓r29_2_w, ↓s29_3_w, ↓s29_6_w, ↓r29_7_w, ↓s29_8_w, ↓s29_9_w, ↓s29_12_w, ↓r29_13_w, ↓s29_14_w, ↓s29_15_w, List.getElem?_cons_zero, List.getElem?_cons_succ, onV_some', brK_true, brK_false, ne_eq, Nat.reduceEqDiff, not_false_eq_true, Bool.false_eq_true,  b2, b4, bin_neqB isBool4, d1, d3, d4]))
                exact hK
              · have d4 : ¬ (u : Int) < (w : Int) := by omega
                rw [decide_eq_false (by omega)] at hK
                repeat' (first | done | with_reducible (first | refine y1 ?_ (by omega) | refine y2 ?_ (by omega) | refine y3 (fun _ => ?_) (fun _ => ?_) | refine y4 ?_ (by omega) (by omega) | refine y5 ?_ (by omega) | refine y6 ?_ (by with_unfolding_all rfl) | refine y7 ?_ (by with_unfolding_all rfl) | refine y8 ?_ (by with_unfolding_all rfl) | refine y9 ?_ (by with_unfolding_all rfl) | refine ya ?_ (by with_unfolding_all rfl)) | ((with_reducible refine And.intro ?_ ?_); (· omega)) | (simp -dsimp only [↓cw_skip, ↓cw_ops, ↓cw_seq, ↓cw_ret, ↓cw_cond, ↓seqK_normal, ↓getK_same, ↓getK_ne, ↓evK_tmp, ↓condV_var, ↓gdV_var, ↓opsW_nil, ↓opsW_d, ↓opsW_gd, ↓opW_move, ↓opW_assign, ↓opW_pick, ↓opW_bin, ↓bin_eql, ↓bin_lss, ↓resK_one, ↓opW_extract, ↓ext_tuple, ↓r29_0_w, ↓s29_1_w, ↓r29_2_w, ↓s29_3_w, ↓s29_6_w, ↓r29_7_w, ↓s29_8_w, ↓s29_9_w, ↓s29_12_w, ↓r29_13_w, ↓s29_14_w, ↓s29_15_w, List.getElem?_cons_zero, List.getElem?_cons_succ, onV_some', brK_true, brK_false, ne_eq, Nat.reduceEqDiff, not_false_eq_true, Bool.false_eq_true,  b4, bin_neqB isBool4, d1, d3, d4]))
                exact hK
          · have d1 : ¬ (p : Int) = (q : Int) := by omega
            by_cases c2 : p < q
            · have d2 : (p : Int) < (q : Int) := by omega
              rw [decide_eq_true (by omega)] at hK
              repeat' (first | done | with_reducible (first | refine y1 ?_ (by omega) | refine y2 ?_ (by omega) | refine y3 (fun _ => ?_) (fun _ => ?_) | refine y4 ?_ (by omega) (by omega) | refine y5 ?_ (by omega) | refine y6 ?_ (by with_unfolding_all rfl) | refine y7 ?_ (by with_unfolding_all rfl) | refine y8 ?_ (by with_unfolding_all rfl) | refine y9 ?_ (by with_unfolding_all rfl) | refine ya ?_ (by with_unfolding_all rfl)) | ((with_reducible refine And.intro ?_ ?_); (· omega)) | (simp -dsimp only [↓cw_skip, ↓cw_ops, ↓cw_seq, ↓cw_ret, ↓cw_cond, ↓seqK_normal, ↓getK_same, ↓getK_ne, ↓evK_tmp, ↓evK_bool, ↓condV_var, ↓gdV_var, ↓gdV_undef, ↓opsW_nil, ↓opsW_d, ↓opsW_gd, ↓opW_move, ↓opW_assign, ↓opW_pick, ↓opW_bin, ↓bin_eql, ↓bin_lss, ↓resK_one, ↓opW_extract, ↓ext_tuple, ↓r29_0_w, ↓s29_1_w, ↓r29_2_w, ↓s29_3_w, ↓s29_6_w, ↓r29_7_w, ↓s29_8_w, ↓s29_9_w, ↓s29_12_w, ↓r29_13_w, ↓s29_14_w, ↓s29_15_w, List.getElem?_cons_zero, List.getElem?_cons_succ, onV_some', brK_true, brK_false, ne_eq, Nat.reduceEqDiff, not_false_eq_true, Bool.true_eq_false, Bool.false_eq_true,  b2, b4, bin_neqB isBool4, d1, d2]))
              exact hK
            · have d2 : ¬ (p : Int) < (q : Int) := by omega
              rw [decide_eq_false (by omega)] at hK
              repeat' (first | done | with_reducible (first | refine y1 ?_ (by omega) | refine y2 ?_ (by omega) | refine y3 (fun _ => ?_) (fun _ => ?_) | refine y4 ?_ (by omega) (by omega) | refine y5 ?_ (by omega) | refine y6 ?_ (by with_unfolding_all rfl) | refine y7 ?_ (by with_unfolding_all rfl) | refine y8 ?_ (by with_unfolding_all rfl) | refine y9 ?_ (by with_unfolding_all rfl) | refine ya ?_ (by with_unfolding_all rfl)) | ((with_reducible refine And.intro ?_ ?_); (· omega)) | (simp -dsimp only [↓cw_skip, ↓cw_ops, ↓cw_seq, ↓cw_ret, ↓cw_cond, ↓seqK_normal, ↓getK_same, ↓getK_ne, ↓evK_tmp, ↓evK_bool, ↓condV_var, ↓gdV_var, ↓opsW_nil, ↓opsW_d, ↓opsW_gd, ↓opW_move, ↓opW_assign, ↓opW_pick, ↓opW_bin, ↓bin_eql, ↓bin_lss, ↓resK_one, ↓opW_extract, ↓ext_tuple, ↓r29_0_w, ↓s29_1_w, ↓r29_2_w, ↓s29_3_w, ↓s29_6_w, ↓r29_7_w, ↓s29_8_w, ↓s29_9_w, ↓s29_12_w, ↓r29_13_w, ↓s29_14_w, ↓s29_15_w, List.getElem?_cons_zero, List.getElem?_cons_succ, onV_some', brK_true, brK_false, ne_eq, Nat.reduceEqDiff, not_false_eq_true, Bool.false_eq_true,  b4, bin_neqB isBool4, d1, d2]))
              exact hK
/-- the reference's Same -/
theorem rsame_ret {n m : Nat} {h : Heap} {K : Value → Heap → Prop} (hn : n < 18446744073709551616) (hm : m < 18446744073709551616) (hK : K (.bool (decide (keyN n = keyN m))) h) : Ret env (.func 12) [.float .f64 n, .float .f64 m] h K := by
  refine F12 rfl ?_
  have hi := keyN_inj hn hm
  repeat' (first | done | with_reducible (first | refine y1 ?_ (by omega) | refine y2 ?_ (by omega) | refine y3 (fun _ => ?_) (fun _ => ?_) | refine y4 ?_ (by omega) (by omega) | refine y5 ?_ (by omega) | refine y6 ?_ (by with_unfolding_all rfl) | refine y7 ?_ (by with_unfolding_all rfl) | refine y8 ?_ (by with_unfolding_all rfl) | refine y9 ?_ (by with_unfolding_all rfl) | refine ya ?_ (by with_unfolding_all rfl)) | ((with_reducible refine And.intro ?_ ?_); (· omega)) | (simp -dsimp only [↓cw_ops, ↓cw_seq, ↓seqK_normal, ↓getK_same, ↓getK_ne, ↓evK_tmp, ↓evK_bool, ↓opsW_nil, ↓opsW_d, ↓opW_move, ↓opW_assign, ↓evs_nil, ↓evs_cons, ↓opW_call, ↓setAll_cons, ↓setAll_nil, ↓r12_0_w, ↓s12_1_w, ↓r12_2_w, ↓s12_3_w, ne_eq, Nat.reduceEqDiff, Nat.reduceAdd, not_false_eq_true, Nat.one_ne_zero]))
  refine nan_fl hn ?_
  cases na : isNan n with
  | true =>
    repeat' (first | done | with_reducible (first | refine y1 ?_ (by omega) | refine y2 ?_ (by omega) | refine y3 (fun _ => ?_) (fun _ => ?_) | refine y4 ?_ (by omega) (by omega) | refine y5 ?_ (by omega) | refine y6 ?_ (by with_unfolding_all rfl) | refine y7 ?_ (by with_unfolding_all rfl) | refine y8 ?_ (by with_unfolding_all rfl) | refine y9 ?_ (by with_unfolding_all rfl) | refine ya ?_ (by with_unfolding_all rfl)) | ((with_reducible refine And.intro ?_ ?_); (· omega)) | (simp -dsimp only [↓getK_same, ↓getK_ne, ↓evK_tmp, ↓gdV_var, ↓opsW_d, ↓opsW_gd, ↓opW_move, ↓evs_nil, ↓evs_cons, ↓opW_call, ↓setAll_cons, ↓setAll_nil, brK_true, ne_eq, Nat.reduceEqDiff, Nat.reduceAdd, not_false_eq_true]))
    refine nan_fl hm ?_
    cases nb : isNan m with
    | true =>
      rw [decide_eq_true (hi.2 (.inl ⟨na, nb⟩))] at hK
      repeat' (first | done | with_reducible (first | refine y1 ?_ (by omega) | refine y2 ?_ (by omega) | refine y3 (fun _ => ?_) (fun _ => ?_) | refine y4 ?_ (by omega) (by omega) | refine y5 ?_ (by omega) | refine y6 ?_ (by with_unfolding_all rfl) | refine y7 ?_ (by with_unfolding_all rfl) | refine y8 ?_ (by with_unfolding_all rfl) | refine y9 ?_ (by with_unfolding_all rfl) | refine ya ?_ (by with_unfolding_all rfl)) | ((with_reducible refine And.intro ?_ ?_); (· omega)) | (simp -dsimp only [↓cw_ret, ↓seqK_normal, ↓getK_same, ↓getK_ne, ↓evK_tmp, ↓evK_bool, ↓condV_var, ↓gdV_var, ↓opsW_nil, ↓opsW_d, ↓opsW_gd, ↓opW_move, ↓opW_assign, ↓opW_pick, ↓resK_one, brK_true, brK_false, ne_eq, Nat.reduceEqDiff, not_false_eq_true, Bool.true_eq_false]))
      exact hK
    | false =>
      have hne : n ≠ m := fun e => by rw [e, nb] at na; cases na
      rw [decide_eq_false (fun e => by rcases hi.1 e with ⟨_, h2⟩ | h2; (· rw [nb] at h2; cases h2); (· exact hne h2))] at hK
      have d : ¬ (n : Int) = (m : Int) := by omega
      repeat' (first | done | with_reducible (first | refine y1 ?_ (by omega) | refine y2 ?_ (by omega) | refine y3 (fun _ => ?_) (fun _ => ?_) | refine y4 ?_ (by omega) (by omega) | refine y5 ?_ (by omega) | refine y6 ?_ (by with_unfolding_all rfl) | refine y7 ?_ (by with_unfolding_all rfl) | refine y8 ?_ (by with_unfolding_all rfl) | refine y9 ?_ (by with_unfolding_all rfl) | refine ya ?_ (by with_unfolding_all rfl)) | ((with_reducible refine And.intro ?_ ?_); (· omega)) | (simp -dsimp only [↓getK_same, ↓getK_ne, ↓evK_tmp, ↓condV_var, ↓gdV_var, ↓opsW_d, ↓opsW_gd, ↓opW_move, ↓opW_pick, ↓evs_nil, ↓evs_cons, ↓opW_call, ↓setAll_cons, ↓setAll_nil, brK_true, ne_eq, Nat.reduceEqDiff, Nat.reduceAdd, not_false_eq_true, Nat.one_ne_zero]))
      refine bits_fl ?_
      repeat' (first | done | with_reducible (first | refine y1 ?_ (by omega) | refine y2 ?_ (by omega) | refine y3 (fun _ => ?_) (fun _ => ?_) | refine y4 ?_ (by omega) (by omega) | refine y5 ?_ (by omega) | refine y6 ?_ (by with_unfolding_all rfl) | refine y7 ?_ (by with_unfolding_all rfl) | refine y8 ?_ (by with_unfolding_all rfl) | refine y9 ?_ (by with_unfolding_all rfl) | refine ya ?_ (by with_unfolding_all rfl)) | ((with_reducible refine And.intro ?_ ?_); (· omega)) | (simp -dsimp only [↓getK_same, ↓getK_ne, ↓evK_tmp, ↓gdV_var, ↓opsW_gd, ↓opW_move, ↓evs_nil, ↓evs_cons, ↓opW_call, ↓setAll_cons, ↓setAll_nil, brK_true, ne_eq, Nat.reduceEqDiff, Nat.reduceAdd, not_false_eq_true]))
      refine bits_fl ?_
      repeat' (first | done | with_reducible (first | refine y1 ?_ (by omega) | refine y2 ?_ (by omega) | refine y3 (fun _ => ?_) (fun _ => ?_) | refine y4 ?_ (by omega) (by omega) | refine y5 ?_ (by omega) | refine y6 ?_ (by with_unfolding_all rfl) | refine y7 ?_ (by with_unfolding_all rfl) | refine y8 ?_ (by with_unfolding_all rfl) | refine y9 ?_ (by with_unfolding_all rfl) | refine ya ?_ (by with_unfolding_all rfl)) | ((with_reducible refine And.intro ?_ ?_); (· omega)) | (simp -dsimp only [↓cw_ret, ↓seqK_normal, ↓getK_same, ↓getK_ne, ↓evK_tmp, ↓condV_var, ↓gdV_var, ↓opsW_nil, ↓opsW_d, ↓opsW_gd, ↓opW_assign, ↓opW_pick, ↓opW_bin, ↓bin_eql, ↓resK_one, brK_true, brK_false, ne_eq, Nat.reduceEqDiff, not_false_eq_true, Bool.false_eq_true,  d]))
      exact hK
  | false =>
    by_cases he : n = m
    · subst he
      rw [decide_eq_true rfl] at hK
      repeat' (first | done | with_reducible (first | refine y1 ?_ (by omega) | refine y2 ?_ (by omega) | refine y3 (fun _ => ?_) (fun _ => ?_) | refine y4 ?_ (by omega) (by omega) | refine y5 ?_ (by omega) | refine y6 ?_ (by with_unfolding_all rfl) | refine y7 ?_ (by with_unfolding_all rfl) | refine y8 ?_ (by with_unfolding_all rfl) | refine y9 ?_ (by with_unfolding_all rfl) | refine ya ?_ (by with_unfolding_all rfl)) | ((with_reducible refine And.intro ?_ ?_); (· omega)) | (simp -dsimp only [↓getK_same, ↓getK_ne, ↓evK_tmp, ↓evK_bool, ↓condV_var, ↓gdV_var, ↓opsW_d, ↓opsW_gd, ↓opW_move, ↓opW_pick, ↓evs_nil, ↓evs_cons, ↓opW_call, ↓setAll_cons, ↓setAll_nil, brK_true, brK_false, ne_eq, Nat.reduceEqDiff, Nat.reduceAdd, not_false_eq_true, Nat.one_ne_zero, Bool.false_eq_true]))
      refine bits_fl ?_
      repeat' (first | done | with_reducible (first | refine y1 ?_ (by omega) | refine y2 ?_ (by omega) | refine y3 (fun _ => ?_) (fun _ => ?_) | refine y4 ?_ (by omega) (by omega) | refine y5 ?_ (by omega) | refine y6 ?_ (by with_unfolding_all rfl) | refine y7 ?_ (by with_unfolding_all rfl) | refine y8 ?_ (by with_unfolding_all rfl) | refine y9 ?_ (by with_unfolding_all rfl) | refine ya ?_ (by with_unfolding_all rfl)) | ((with_reducible refine And.intro ?_ ?_); (· omega)) | (simp -dsimp only [↓getK_same, ↓getK_ne, ↓evK_tmp, ↓gdV_var, ↓opsW_gd, ↓opW_move, ↓evs_nil, ↓evs_cons, ↓opW_call, ↓setAll_cons, ↓setAll_nil, brK_true, ne_eq, Nat.reduceEqDiff, Nat.reduceAdd, not_false_eq_true]))
      refine bits_fl ?_
      repeat' (first | done | with_reducible (first | refine y1 ?_ (by omega) | refine y2 ?_ (by omega) | refine y3 (fun _ => ?_) (fun _ => ?_) | refine y4 ?_ (by omega) (by omega) | refine y5 ?_ (by omega) | refine y6 ?_ (by with_unfolding_all rfl) | refine y7 ?_ (by with_unfolding_all rfl) | refine y8 ?_ (by with_unfolding_all rfl) | refine y9 ?_ (by with_unfolding_all rfl) | refine ya ?_ (by with_unfolding_all rfl)) | ((with_reducible refine And.intro ?_ ?_); (· omega)) | (simp -dsimp only [↓cw_ret, ↓seqK_normal, ↓getK_same, ↓getK_ne, ↓evK_tmp, ↓condV_var, ↓gdV_var, ↓opsW_nil, ↓opsW_d, ↓opsW_gd, ↓opW_assign, ↓opW_pick, ↓opW_bin, ↓bin_eql, ↓resK_one, brK_true, brK_false, ne_eq, Nat.reduceEqDiff, not_false_eq_true, Bool.false_eq_true]))
      exact hK
    · rw [decide_eq_false (fun e => by rcases hi.1 e with ⟨h2, _⟩ | h2; (· rw [na] at h2; cases h2); (· exact he h2))] at hK
      have d : ¬ (n : Int) = (m : Int) := by omega
      repeat' (first | done | with_reducible (first | refine y1 ?_ (by omega) | refine y2 ?_ (by omega) | refine y3 (fun _ => ?_) (fun _ => ?_) | refine y4 ?_ (by omega) (by omega) | refine y5 ?_ (by omega) | refine y6 ?_ (by with_unfolding_all rfl) | refine y7 ?_ (by with_unfolding_all rfl) | refine y8 ?_ (by with_unfolding_all rfl) | refine y9 ?_ (by with_unfolding_all rfl) | refine ya ?_ (by with_unfolding_all rfl)) | ((with_reducible refine And.intro ?_ ?_); (· omega)) | (simp -dsimp only [↓getK_same, ↓getK_ne, ↓evK_tmp, ↓evK_bool, ↓condV_var, ↓gdV_var, ↓opsW_d, ↓opsW_gd, ↓opW_move, ↓opW_pick, ↓evs_nil, ↓evs_cons, ↓opW_call, ↓setAll_cons, ↓setAll_nil, brK_true, brK_false, ne_eq, Nat.reduceEqDiff, Nat.reduceAdd, not_false_eq_true, Nat.one_ne_zero, Bool.false_eq_true]))
      refine bits_fl ?_
      repeat' (first | done | with_reducible (first | refine y1 ?_ (by omega) | refine y2 ?_ (by omega) | refine y3 (fun _ => ?_) (fun _ => ?_) | refine y4 ?_ (by omega) (by omega) | refine y5 ?_ (by omega) | refine y6 ?_ (by with_unfolding_all rfl) | refine y7 ?_ (by with_unfolding_all rfl) | refine y8 ?_ (by with_unfolding_all rfl) | refine y9 ?_ (by with_unfolding_all rfl) | refine ya ?_ (by with_unfolding_all rfl)) | ((with_reducible refine And.intro ?_ ?_); (· omega)) | (simp -dsimp only [↓getK_same, ↓getK_ne, ↓evK_tmp, ↓gdV_var, ↓opsW_gd, ↓opW_move, ↓evs_nil, ↓evs_cons, ↓opW_call, ↓setAll_cons, ↓setAll_nil, brK_true, ne_eq, Nat.reduceEqDiff, Nat.reduceAdd, not_false_eq_true]))
      refine bits_fl ?_
      repeat' (first | done | with_reducible (first | refine y1 ?_ (by omega) | refine y2 ?_ (by omega) | refine y3 (fun _ => ?_) (fun _ => ?_) | refine y4 ?_ (by omega) (by omega) | refine y5 ?_ (by omega) | refine y6 ?_ (by with_unfolding_all rfl) | refine y7 ?_ (by with_unfolding_all rfl) | refine y8 ?_ (by with_unfolding_all rfl) | refine y9 ?_ (by with_unfolding_all rfl) | refine ya ?_ (by with_unfolding_all rfl)) | ((with_reducible refine And.intro ?_ ?_); (· omega)) | (simp -dsimp only [↓cw_ret, ↓seqK_normal, ↓getK_same, ↓getK_ne, ↓evK_tmp, ↓condV_var, ↓gdV_var, ↓opsW_nil, ↓opsW_d, ↓opsW_gd, ↓opW_assign, ↓opW_pick, ↓opW_bin, ↓bin_eql, ↓resK_one, brK_true, brK_false, ne_eq, Nat.reduceEqDiff, not_false_eq_true, Bool.false_eq_true,  d]))
      exact hK
theorem same_self {v : Value} {h : Heap} {K : Value → Heap → Prop} (hv : FB v) (hK : K (.bool true) h) : Ret env (.func 12) [v, v] h K := by
  rcases hv with rfl | ⟨n, hn, rfl⟩
  · refine F12 rfl ?_
    repeat' (first | done | with_reducible (first | refine y1 ?_ (by omega) | refine y2 ?_ (by omega) | refine y3 (fun _ => ?_) (fun _ => ?_) | refine y4 ?_ (by omega) (by omega) | refine y5 ?_ (by omega) | refine y6 ?_ (by with_unfolding_all rfl) | refine y7 ?_ (by with_unfolding_all rfl) | refine y8 ?_ (by with_unfolding_all rfl) | refine y9 ?_ (by with_unfolding_all rfl) | refine ya ?_ (by with_unfolding_all rfl)) | ((with_reducible refine And.intro ?_ ?_); (· omega)) | (simp -dsimp only [↓cw_ops, ↓cw_seq, ↓seqK_normal, ↓getK_same, ↓getK_ne, ↓evK_tmp, ↓evK_bool, ↓opsW_nil, ↓opsW_d, ↓opW_move, ↓opW_assign, ↓evs_nil, ↓evs_cons, ↓opW_call, ↓setAll_cons, ↓setAll_nil, ↓r12_0_w, ↓s12_1_w, ↓r12_2_w, ↓s12_3_w, ne_eq, Nat.reduceEqDiff, Nat.reduceAdd, not_false_eq_true, Nat.one_ne_zero]))
    refine nan_no ?_
    repeat' (first | done | with_reducible (first | refine y1 ?_ (by omega) | refine y2 ?_ (by omega) | refine y3 (fun _ => ?_) (fun _ => ?_) | refine y4 ?_ (by omega) (by omega) | refine y5 ?_ (by omega) | refine y6 ?_ (by with_unfolding_all rfl) | refine y7 ?_ (by with_unfolding_all rfl) | refine y8 ?_ (by with_unfolding_all rfl) | refine y9 ?_ (by with_unfolding_all rfl) | refine ya ?_ (by with_unfolding_all rfl)) | ((with_reducible refine And.intro ?_ ?_); (· omega)) | (simp -dsimp only [↓getK_same, ↓getK_ne, ↓evK_tmp, ↓gdV_var, ↓opsW_d, ↓opsW_gd, ↓opW_move, ↓evs_nil, ↓evs_cons, ↓opW_call, ↓setAll_cons, ↓setAll_nil, brK_true, ne_eq, Nat.reduceEqDiff, Nat.reduceAdd, not_false_eq_true]))
    refine nan_no ?_
    repeat' (first | done | with_reducible (first | refine y1 ?_ (by omega) | refine y2 ?_ (by omega) | refine y3 (fun _ => ?_) (fun _ => ?_) | refine y4 ?_ (by omega) (by omega) | refine y5 ?_ (by omega) | refine y6 ?_ (by with_unfolding_all rfl) | refine y7 ?_ (by with_unfolding_all rfl) | refine y8 ?_ (by with_unfolding_all rfl) | refine y9 ?_ (by with_unfolding_all rfl) | refine ya ?_ (by with_unfolding_all rfl)) | ((with_reducible refine And.intro ?_ ?_); (· omega)) | (simp -dsimp only [↓cw_ret, ↓seqK_normal, ↓getK_same, ↓getK_ne, ↓evK_tmp, ↓evK_bool, ↓condV_var, ↓gdV_var, ↓opsW_nil, ↓opsW_d, ↓opsW_gd, ↓opW_move, ↓opW_assign, ↓opW_pick, ↓resK_one, brK_true, brK_false, ne_eq, Nat.reduceEqDiff, not_false_eq_true, Bool.true_eq_false]))
    exact hK
  · exact rsame_ret hn hn (by rw [decide_eq_true rfl]; exact hK)
end Go.Proofs.YtjcmcoabckkjoaaDoor.Or

