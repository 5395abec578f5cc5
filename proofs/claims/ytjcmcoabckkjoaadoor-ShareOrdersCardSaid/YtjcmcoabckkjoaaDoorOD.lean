/- Ranges swapped, turned, sorted by insertion. -/
import Derived.Test.YtjcmcoabckkjoaaDoorOB
set_option linter.unusedSimpArgs false
set_option linter.unusedVariables false
namespace Go.Proofs.YtjcmcoabckkjoaaDoor.Or
open Go.Ev
set_option maxRecDepth 100000
set_option maxHeartbeats 400000
def datV (i N : Nat) : Value := .slice (some ⟨i, 0, none⟩) N UNK
theorem zero_add_one (k : Nat) : 0 + k * 1 = k := by omega
/-- two ranges, exchanged -/
theorem swapR_ret {i N a b n : Nat} {f : Nat → Nat} {h0 : Heap} {K : Value → Heap → Prop} (hi : i < h0.n) (hg : h0.b.get i = some (.cells (rowL f N) 27 false)) (hN : N ≤ 1000) (hab : a + n ≤ b) (hb : b + n ≤ N)
    (hK : ∀ h', Up h0 h' i (swr f a b n) N → Sw a (b + n) f (swr f a b n) → K (.tuple #[]) h') : Ret env (.func 115) [datV i N, .int .i64 (a : Nat), .int .i64 (b : Nat), .int .i64 (n : Nat), cmpV] h0 K := by
  refine F115 rfl ?_
  unfold datV cmpV
  repeat' (first | done | with_reducible (first | refine y1 ?_ (by omega) | refine y2 ?_ (by omega) | refine y3 (fun _ => ?_) (fun _ => ?_) | refine y4 ?_ (by omega) (by omega) | refine y5 ?_ (by omega) | refine y6 ?_ (by with_unfolding_all rfl) | refine y7 ?_ (by with_unfolding_all rfl) | refine y8 ?_ (by with_unfolding_all rfl) | refine y9 ?_ (by with_unfolding_all rfl) | refine ya ?_ (by with_unfolding_all rfl)) | ((with_reducible refine And.intro ?_ ?_); (· omega)) | (simp -dsimp only [↓cw_ops, ↓cw_seq, ↓cw_block, ↓seqK_normal, ↓evK_int, ↓opsW_nil, ↓opsW_d, ↓opW_assign, ↓setAll_cons, ↓setAll_nil, ↓s115_9_w, ↓s115_10_w, ↓r115_11_w, ↓s115_12_w, Nat.reduceAdd]))
  refine cw_loopI (fun m fr h' => ∃ k : Nat, k ≤ n ∧ m = n - k ∧ fr.get 10 = some (.int .i64 (k : Nat)) ∧ Up h0 h' i (swr f a b k) N ∧ Sw a (b + n) f (swr f a b k)) n ?_ (by omega) ?_
  · exact ⟨0, by omega, by omega, by simp [T.get_set], by rw [swr_zero]; exact Up.start hi hg, by rw [swr_zero]; exact .refl _⟩
  rintro m fr h' ⟨k, hk, rfl, g10, u, s⟩ hag
  have n1 := u.n
  have g10 := getK_of g10
  have a0 := getK_eq (hag 0 rfl)
  have a1 := getK_eq (hag 1 rfl)
  have a2 := getK_eq (hag 2 rfl)
  have a3 := getK_eq (hag 3 rfl)
  by_cases hlt : k < n
  · have c1 : (k : Int) < (n : Int) := by omega
    have w1 : IntKind.i64.wrap ((a : Int) + (k : Int)) = ((a + k : Nat) : Int) := by rw [wrap_i64 (by omega) (by omega)]; omega
    have w2 : IntKind.i64.wrap ((b : Int) + (k : Int)) = ((b + k : Nat) : Int) := by rw [wrap_i64 (by omega) (by omega)]; omega
    have d1 := u.cell (k := a + k) (by omega)
    have d2 := u.cell (k := b + k) (by omega)
    have z1 : 0 + (a + k) * 1 = a + k := zero_add_one _
    have z2 : 0 + (b + k) * 1 = b + k := zero_add_one _
    repeat' (first | done | with_reducible (first | refine y1 ?_ (by omega) | refine y2 ?_ (by omega) | refine y3 (fun _ => ?_) (fun _ => ?_) | refine y4 ?_ (by omega) (by omega) | refine y5 ?_ (by omega) | refine y6 ?_ (by with_unfolding_all rfl) | refine y7 ?_ (by with_unfolding_all rfl) | refine y8 ?_ (by with_unfolding_all rfl) | refine y9 ?_ (by with_unfolding_all rfl) | refine ya ?_ (by with_unfolding_all rfl)) | ((with_reducible refine And.intro ?_ ?_); (· omega)) | (simp -dsimp only [↓cw_skip, ↓cw_ops, ↓cw_plan, ↓cw_seq, ↓cw_block, ↓cw_cond, ↓seqK_normal, ↓getK_same, ↓getK_ne, ↓evK_tmp, ↓condV_var, ↓opsW_nil, ↓opsW_d, ↓planW_d, ↓planW_n, ↓agK_nil, ↓opW_move, ↓opW_bin, ↓bin_add, ↓bin_lss, ↓ld1_some, ↓idxS_some, ↓ia_25, ↓ld_27, ↓st_27, ↓p115_2_w, ↓s115_3_w, ↓s115_4_w, ↓s115_5_w, ↓r115_6_w, ↓s115_7_w, ↓s115_8_w, onV_some', brK_true, Nat.le_refl, true_and, ne_eq, Nat.reduceEqDiff, not_false_eq_true, Nat.one_ne_zero, Addr.add_lit, Int.toNat_natCast, ↓g10, ↓a0, ↓a1, ↓a2, ↓a3, c1, w1, w2, z1, z2, d1, d2]))
    refine u.put (by omega) fun h2 u2 => ?_
    have n2 := u2.n
    repeat' (first | done | with_reducible (first | refine y1 ?_ (by omega) | refine y2 ?_ (by omega) | refine y3 (fun _ => ?_) (fun _ => ?_) | refine y4 ?_ (by omega) (by omega) | refine y5 ?_ (by omega) | refine y6 ?_ (by with_unfolding_all rfl) | refine y7 ?_ (by with_unfolding_all rfl) | refine y8 ?_ (by with_unfolding_all rfl) | refine y9 ?_ (by with_unfolding_all rfl) | refine ya ?_ (by with_unfolding_all rfl)) | ((with_reducible refine And.intro ?_ ?_); (· omega)) | (simp -dsimp only [↓getK_same, ↓getK_ne, ↓evK_tmp, ↓planW_d, ↓planW_n, ↓agK_nil, ↓idxS_some, ↓ia_25, ↓st_27, Nat.le_refl, true_and, ne_eq, Nat.reduceEqDiff, not_false_eq_true, Addr.add_lit, Int.toNat_natCast, w2, z2]))
    refine u2.put (by omega) fun h3 u3 => ?_
    have n3 := u3.n
    rw [put_swap, ← swr_succ (by omega)] at u3
    repeat' (first | done | with_reducible (first | refine y1 ?_ (by omega) | refine y2 ?_ (by omega) | refine y3 (fun _ => ?_) (fun _ => ?_) | refine y4 ?_ (by omega) (by omega) | refine y5 ?_ (by omega) | refine y6 ?_ (by with_unfolding_all rfl) | refine y7 ?_ (by with_unfolding_all rfl) | refine y8 ?_ (by with_unfolding_all rfl) | refine y9 ?_ (by with_unfolding_all rfl) | refine ya ?_ (by with_unfolding_all rfl)) | ((with_reducible refine And.intro ?_ ?_); (· omega)) | (simp -dsimp only [↓cw_ops, ↓seqK_normal, ↓blockK_normal, ↓loopK_normal, ↓getK_same, ↓getK_ne, ↓evK_tmp, ↓evK_int, ↓opsW_nil, ↓opsW_d, ↓planW_nil, ↓agK_nil, ↓opW_move, ↓opW_assign, ↓opW_bin, ↓bin_add, ↓r115_0_w, ↓s115_1_w, true_and, ne_eq, Nat.reduceEqDiff, not_false_eq_true, Addr.add_lit, Int.toNat_natCast, ↓g10, w1, w2, z1, z2]))
    refine ⟨n - (k + 1), by omega, k + 1, by omega, rfl, by simp [T.get_set, wrap_succ (show k ≤ 4611686018427387904 by omega)], u3, ?_⟩
    rw [swr_succ (by omega)]
    exact .step s _ _ (by omega) (by omega)
  · have e : k = n := by omega
    subst e
    have c1 : ¬ (k : Int) < (k : Int) := by omega
    repeat' (first | done | with_reducible (first | refine y1 ?_ (by omega) | refine y2 ?_ (by omega) | refine y3 (fun _ => ?_) (fun _ => ?_) | refine y4 ?_ (by omega) (by omega) | refine y5 ?_ (by omega) | refine y6 ?_ (by with_unfolding_all rfl) | refine y7 ?_ (by with_unfolding_all rfl) | refine y8 ?_ (by with_unfolding_all rfl) | refine y9 ?_ (by with_unfolding_all rfl) | refine ya ?_ (by with_unfolding_all rfl)) | ((with_reducible refine And.intro ?_ ?_); (· omega)) | (simp -dsimp only [↓cw_ops, ↓cw_seq, ↓cw_exit, ↓cw_cond, ↓seqK_normal, ↓seqK_exit, ↓blockK_same, ↓loopK_exit, ↓getK_same, ↓getK_ne, ↓evK_tmp, ↓condV_var, ↓opsW_nil, ↓opsW_d, ↓opW_move, ↓opW_bin, ↓bin_lss, ↓resK_nil, ↓s115_5_w, ↓r115_6_w, ↓s115_7_w, ↓s115_8_w, brK_false, ne_eq, Nat.reduceEqDiff, not_false_eq_true, Bool.false_eq_true,  ↓g10, ↓a3, c1]))
    exact hK h' u s
theorem Up.lt' {h0 h : Heap} {i N : Nat} {f : Nat → Nat} (u : Up h0 h i f N) : i < h.n := by rw [u.n]; exact u.lt
/-- a row, turned -/
theorem rotate_ret {i N a m b : Nat} {f : Nat → Nat} {h0 : Heap} {K : Value → Heap → Prop} (hi : i < h0.n) (hg : h0.b.get i = some (.cells (rowL f N) 27 false)) (hN : N ≤ 1000) (ham : a < m) (hmb : m < b) (hb : b ≤ N)
    (hK : ∀ h', Up h0 h' i (rot f a m b) N → Sw a b f (rot f a m b) → K (.tuple #[]) h') : Ret env (.func 101) [datV i N, .int .i64 (a : Nat), .int .i64 (m : Nat), .int .i64 (b : Nat), cmpV] h0 K := by
  refine F101 rfl ?_
  unfold datV cmpV
  have w1 : IntKind.i64.wrap ((m : Int) - (a : Int)) = ((m - a : Nat) : Int) := by rw [wrap_i64 (by omega) (by omega)]; omega
  have w2 : IntKind.i64.wrap ((b : Int) - (m : Int)) = ((b - m : Nat) : Int) := by rw [wrap_i64 (by omega) (by omega)]; omega
  repeat' (first | done | with_reducible (first | refine y1 ?_ (by omega) | refine y2 ?_ (by omega) | refine y3 (fun _ => ?_) (fun _ => ?_) | refine y4 ?_ (by omega) (by omega) | refine y5 ?_ (by omega) | refine y6 ?_ (by with_unfolding_all rfl) | refine y7 ?_ (by with_unfolding_all rfl) | refine y8 ?_ (by with_unfolding_all rfl) | refine y9 ?_ (by with_unfolding_all rfl) | refine ya ?_ (by with_unfolding_all rfl)) | ((with_reducible refine And.intro ?_ ?_); (· omega)) | (simp -dsimp only [↓cw_ops, ↓cw_seq, ↓cw_block, ↓seqK_normal, ↓getK_same, ↓getK_ne, ↓evK_tmp, ↓opsW_nil, ↓opsW_d, ↓opW_move, ↓opW_assign, ↓opW_bin, ↓bin_sub, ↓setAll_cons, ↓setAll_nil, ↓s101_18_w, ↓s101_19_w, ↓r101_20_w, ↓s101_21_w, ↓r101_22_w, ↓s101_23_w, ne_eq, Nat.reduceEqDiff, Nat.reduceAdd, not_false_eq_true, w1, w2]))
  refine cw_loopI (fun x fr h' => ∃ (p q : Nat) (g : Nat → Nat), 0 < p ∧ 0 < q ∧ a + p ≤ m ∧ m + q ≤ b ∧ x = p + q ∧ fr.get 10 = some (.int .i64 (p : Nat)) ∧ fr.get 11 = some (.int .i64 (q : Nat)) ∧ Up h0 h' i g N ∧ Sw a b f g ∧ rot g (m - p) m (m + q) = rot f a m b) ((m - a) + (b - m)) ?_ (by omega) ?_
  · refine ⟨m - a, b - m, f, by omega, by omega, by omega, by omega, rfl, by simp [T.get_set], by simp [T.get_set], Up.start hi hg, .refl _, ?_⟩
    rw [show m - (m - a) = a by omega, show m + (b - m) = b by omega]
  rintro x fr h' ⟨p, q, g, hp, hq, hpa, hqb, rfl, g10, g11, u, s, hrot⟩ hag
  have n1 := u.n
  have z10 := g10
  have z11 := g11
  have g10 := getK_of g10
  have g11 := getK_of g11
  have a0 := getK_eq (hag 0 rfl)
  have a2 := getK_eq (hag 2 rfl)
  have a4 := getK_eq (hag 4 rfl)
  have w3 : IntKind.i64.wrap ((m : Int) - (p : Int)) = ((m - p : Nat) : Int) := by rw [wrap_i64 (by omega) (by omega)]; omega
  by_cases heq : p = q
  · subst heq
    repeat' (first | done | with_reducible (first | refine y1 ?_ (by omega) | refine y2 ?_ (by omega) | refine y3 (fun _ => ?_) (fun _ => ?_) | refine y4 ?_ (by omega) (by omega) | refine y5 ?_ (by omega) | refine y6 ?_ (by with_unfolding_all rfl) | refine y7 ?_ (by with_unfolding_all rfl) | refine y8 ?_ (by with_unfolding_all rfl) | refine y9 ?_ (by with_unfolding_all rfl) | refine ya ?_ (by with_unfolding_all rfl)) | ((with_reducible refine And.intro ?_ ?_); (· omega)) | (simp -dsimp only [↓cw_ops, ↓cw_seq, ↓cw_exit, ↓cw_cond, ↓seqK_normal, ↓seqK_exit, ↓blockK_same, ↓loopK_exit, ↓getK_same, ↓getK_ne, ↓evK_tmp, ↓condV_var, ↓opsW_nil, ↓opsW_d, ↓opW_move, ↓opW_bin, ↓bin_sub, ↓bin_neq, ↓evs_nil, ↓evs_cons, ↓opW_call, ↓r101_0_w, ↓s101_1_w, ↓s101_14_w, ↓r101_15_w, ↓s101_16_w, ↓s101_17_w, brK_true, brK_false, ne_eq, Nat.reduceEqDiff, not_false_eq_true, Nat.one_ne_zero, Bool.false_eq_true,  ↓g10, ↓g11, ↓a0, ↓a2, ↓a4, w3]))
    refine swapR_ret u.lt' u.g hN (by omega) (by omega) fun h2 u2 s2 => ?_
    rw [rot_eq (by omega), hrot] at u2 s2
    have n2 := u2.n
    repeat' (first | done | with_reducible (first | refine y1 ?_ (by omega) | refine y2 ?_ (by omega) | refine y3 (fun _ => ?_) (fun _ => ?_) | refine y4 ?_ (by omega) (by omega) | refine y5 ?_ (by omega) | refine y6 ?_ (by with_unfolding_all rfl) | refine y7 ?_ (by with_unfolding_all rfl) | refine y8 ?_ (by with_unfolding_all rfl) | refine y9 ?_ (by with_unfolding_all rfl) | refine ya ?_ (by with_unfolding_all rfl)) | ((with_reducible refine And.intro ?_ ?_); (· omega)) | (simp -dsimp only [↓opsW_nil, ↓resK_nil]))
    exact hK h2 (u.trans u2) (s.trans (s2.mono (by omega) (by omega)))
  · have c0 : ¬ (p : Int) = (q : Int) := by omega
    by_cases hlt : q < p
    · have c1 : (q : Int) < (p : Int) := by omega
      have w4 : IntKind.i64.wrap ((p : Int) - (q : Int)) = ((p - q : Nat) : Int) := by rw [wrap_i64 (by omega) (by omega)]; omega
      repeat' (first | done | with_reducible (first | refine y1 ?_ (by omega) | refine y2 ?_ (by omega) | refine y3 (fun _ => ?_) (fun _ => ?_) | refine y4 ?_ (by omega) (by omega) | refine y5 ?_ (by omega) | refine y6 ?_ (by with_unfolding_all rfl) | refine y7 ?_ (by with_unfolding_all rfl) | refine y8 ?_ (by with_unfolding_all rfl) | refine y9 ?_ (by with_unfolding_all rfl) | refine ya ?_ (by with_unfolding_all rfl)) | ((with_reducible refine And.intro ?_ ?_); (· omega)) | (simp -dsimp only [↓cw_skip, ↓cw_ops, ↓cw_seq, ↓cw_block, ↓cw_cond, ↓seqK_normal, ↓getK_same, ↓getK_ne, ↓evK_tmp, ↓condV_var, ↓opsW_nil, ↓opsW_d, ↓opW_move, ↓opW_bin, ↓bin_sub, ↓bin_neq, ↓bin_gtr, ↓evs_nil, ↓evs_cons, ↓opW_call, ↓r101_4_w, ↓s101_5_w, ↓s101_10_w, ↓r101_11_w, ↓s101_12_w, ↓s101_13_w, ↓s101_14_w, ↓r101_15_w, ↓s101_16_w, ↓s101_17_w, brK_true, brK_false, ne_eq, Nat.reduceEqDiff, not_false_eq_true, Nat.one_ne_zero, ↓g10, ↓g11, ↓a0, ↓a2, ↓a4, c0, c1, w3]))
      refine swapR_ret u.lt' u.g hN (by omega) (by omega) fun h2 u2 s2 => ?_
      have n2 := u2.n
      repeat' (first | done | with_reducible (first | refine y1 ?_ (by omega) | refine y2 ?_ (by omega) | refine y3 (fun _ => ?_) (fun _ => ?_) | refine y4 ?_ (by omega) (by omega) | refine y5 ?_ (by omega) | refine y6 ?_ (by with_unfolding_all rfl) | refine y7 ?_ (by with_unfolding_all rfl) | refine y8 ?_ (by with_unfolding_all rfl) | refine y9 ?_ (by with_unfolding_all rfl) | refine ya ?_ (by with_unfolding_all rfl)) | ((with_reducible refine And.intro ?_ ?_); (· omega)) | (simp -dsimp only [↓cw_ops, ↓seqK_normal, ↓blockK_normal, ↓loopK_normal, ↓getK_same, ↓getK_ne, ↓evK_tmp, ↓opsW_nil, ↓opsW_d, ↓opW_move, ↓opW_assign, ↓opW_bin, ↓bin_sub, ↓r101_2_w, ↓s101_3_w, ne_eq, Nat.reduceEqDiff, not_false_eq_true, ↓g10, ↓g11, w3, w4]))
      refine ⟨p - q + q, by omega, p - q, q, _, by omega, by omega, by omega, by omega, rfl, ?_, ?_, u.trans u2, s.trans (s2.mono (by omega) (by omega)), ?_⟩
      · simp [T.get_set]
      · simp only [T.get_set]; simpa using z11
      · rw [rot_gt (by omega) hlt]; exact hrot
    · have c1 : ¬ (q : Int) < (p : Int) := by omega
      have w4 : IntKind.i64.wrap ((q : Int) - (p : Int)) = ((q - p : Nat) : Int) := by rw [wrap_i64 (by omega) (by omega)]; omega
      have w5 : IntKind.i64.wrap ((m : Int) + (q : Int)) = ((m + q : Nat) : Int) := by rw [wrap_i64 (by omega) (by omega)]; omega
      have w6 : IntKind.i64.wrap (((m + q : Nat) : Int) - (p : Int)) = ((m + q - p : Nat) : Int) := by rw [wrap_i64 (by omega) (by omega)]; omega
      repeat' (first | done | with_reducible (first | refine y1 ?_ (by omega) | refine y2 ?_ (by omega) | refine y3 (fun _ => ?_) (fun _ => ?_) | refine y4 ?_ (by omega) (by omega) | refine y5 ?_ (by omega) | refine y6 ?_ (by with_unfolding_all rfl) | refine y7 ?_ (by with_unfolding_all rfl) | refine y8 ?_ (by with_unfolding_all rfl) | refine y9 ?_ (by with_unfolding_all rfl) | refine ya ?_ (by with_unfolding_all rfl)) | ((with_reducible refine And.intro ?_ ?_); (· omega)) | (simp -dsimp only [↓cw_skip, ↓cw_ops, ↓cw_seq, ↓cw_block, ↓cw_cond, ↓seqK_normal, ↓getK_same, ↓getK_ne, ↓evK_tmp, ↓condV_var, ↓opsW_nil, ↓opsW_d, ↓opW_move, ↓opW_bin, ↓bin_add, ↓bin_sub, ↓bin_neq, ↓bin_gtr, ↓evs_nil, ↓evs_cons, ↓opW_call, ↓r101_8_w, ↓s101_9_w, ↓s101_10_w, ↓r101_11_w, ↓s101_12_w, ↓s101_13_w, ↓s101_14_w, ↓r101_15_w, ↓s101_16_w, ↓s101_17_w, brK_true, brK_false, ne_eq, Nat.reduceEqDiff, not_false_eq_true, Nat.one_ne_zero, Bool.false_eq_true,  ↓g10, ↓g11, ↓a0, ↓a2, ↓a4, c0, c1, w3, w5, w6]))
      refine swapR_ret u.lt' u.g hN (by omega) (by omega) fun h2 u2 s2 => ?_
      have n2 := u2.n
      repeat' (first | done | with_reducible (first | refine y1 ?_ (by omega) | refine y2 ?_ (by omega) | refine y3 (fun _ => ?_) (fun _ => ?_) | refine y4 ?_ (by omega) (by omega) | refine y5 ?_ (by omega) | refine y6 ?_ (by with_unfolding_all rfl) | refine y7 ?_ (by with_unfolding_all rfl) | refine y8 ?_ (by with_unfolding_all rfl) | refine y9 ?_ (by with_unfolding_all rfl) | refine ya ?_ (by with_unfolding_all rfl)) | ((with_reducible refine And.intro ?_ ?_); (· omega)) | (simp -dsimp only [↓cw_ops, ↓seqK_normal, ↓blockK_normal, ↓loopK_normal, ↓getK_same, ↓getK_ne, ↓evK_tmp, ↓opsW_nil, ↓opsW_d, ↓opW_move, ↓opW_assign, ↓opW_bin, ↓bin_sub, ↓r101_6_w, ↓s101_7_w, ne_eq, Nat.reduceEqDiff, not_false_eq_true, ↓g10, ↓g11, w3, w4]))
      refine ⟨p + (q - p), by omega, p, q - p, _, by omega, by omega, by omega, by omega, rfl, ?_, ?_, u.trans u2, s.trans (s2.mono (by omega) (by omega)), ?_⟩
      · simp only [T.get_set]; simpa using z10
      · simp [T.get_set]
      · rw [rot_lt (by omega) (by omega)]; exact hrot
end Go.Proofs.YtjcmcoabckkjoaaDoor.Or

namespace Go.Proofs.YtjcmcoabckkjoaaDoor.Or
open Go.Ev
set_option maxRecDepth 100000
set_option maxHeartbeats 400000
def Bits (f : Nat → Nat) (N : Nat) : Prop := ∀ k, k < N → f k < 18446744073709551616
theorem Bits.sw {f g : Nat → Nat} {a b N : Nat} (hf : Bits f N) (s : Sw a b f g) (hb : b ≤ N) : Bits g N := fun k hk =>
  (s.mono (a' := 0) (b' := N) (Nat.zero_le _) hb).all (P := fun x => x < 18446744073709551616) (fun k _ h => hf k h) k (Nat.zero_le _) hk
/-- a range, sorted by insertion -/
theorem insert_ret {i N a b : Nat} {f : Nat → Nat} {h0 : Heap} {K : Value → Heap → Prop} (hi : i < h0.n) (hg : h0.b.get i = some (.cells (rowL f N) 27 false)) (hN : N ≤ 1000) (hf : Bits f N) (hb : b ≤ N) (ha : a ≤ N)
    (hK : ∀ g h', Up h0 h' i g N → Sw a b f g → SortedN g a b → K (.tuple #[]) h') : Ret env (.func 81) [datV i N, .int .i64 (a : Nat), .int .i64 (b : Nat), cmpV] h0 K := by
  refine F81 rfl ?_
  unfold datV cmpV
  have w1 : IntKind.i64.wrap ((a : Int) + 1) = ((a + 1 : Nat) : Int) := by rw [wrap_i64 (by omega) (by omega)]; omega
  repeat' (first | done | with_reducible (first | refine y1 ?_ (by omega) | refine y2 ?_ (by omega) | refine y3 (fun _ => ?_) (fun _ => ?_) | refine y4 ?_ (by omega) (by omega) | refine y5 ?_ (by omega) | refine y6 ?_ (by with_unfolding_all rfl) | refine y7 ?_ (by with_unfolding_all rfl) | refine y8 ?_ (by with_unfolding_all rfl) | refine y9 ?_ (by with_unfolding_all rfl) | refine ya ?_ (by with_unfolding_all rfl)) | ((with_reducible refine And.intro ?_ ?_); (· omega)) | (simp -dsimp only [↓cw_ops, ↓cw_seq, ↓cw_block, ↓seqK_normal, ↓getK_same, ↓getK_ne, ↓evK_tmp, ↓evK_int, ↓opsW_nil, ↓opsW_d, ↓opW_move, ↓opW_assign, ↓opW_bin, ↓bin_add, ↓setAll_cons, ↓setAll_nil, ↓s81_20_w, ↓s81_21_w, ↓r81_22_w, ↓s81_23_w, ne_eq, Nat.reduceEqDiff, Nat.reduceAdd, not_false_eq_true, w1]))
  refine cw_loopI (fun x fr h' => ∃ (k : Nat) (g : Nat → Nat), a + 1 ≤ k ∧ (k ≤ b ∨ k = a + 1) ∧ x = b - k ∧ fr.get 8 = some (.int .i64 (k : Nat)) ∧ Up h0 h' i g N ∧ Sw a b f g ∧ SortedN g a k) (b - (a + 1)) ?_ (by omega) ?_
  · exact ⟨a + 1, f, by omega, .inr rfl, rfl, by simp [T.get_set], Up.start hi hg, .refl _, SortedN.one (by omega)⟩
  rintro x fr h' ⟨k, g, hk1, hk2, rfl, g8, u, s, so⟩ hag
  have n1 := u.n
  have z8 := g8
  have g8 := getK_of g8
  have y0 := hag 0 rfl
  have y1 := hag 1 rfl
  have y3 := hag 3 rfl
  simp [T.get_set] at y0 y1 y3
  have a0 := getK_eq (hag 0 rfl)
  have a1 := getK_eq (hag 1 rfl)
  have a2 := getK_eq (hag 2 rfl)
  have a3 := getK_eq (hag 3 rfl)
  by_cases hlt : k < b
  · have c1 : (k : Int) < (b : Int) := by omega
    repeat' (first | done | with_reducible (first | refine y1 ?_ (by omega) | refine y2 ?_ (by omega) | refine y3 (fun _ => ?_) (fun _ => ?_) | refine y4 ?_ (by omega) (by omega) | refine y5 ?_ (by omega) | refine y6 ?_ (by with_unfolding_all rfl) | refine y7 ?_ (by with_unfolding_all rfl) | refine y8 ?_ (by with_unfolding_all rfl) | refine y9 ?_ (by with_unfolding_all rfl) | refine ya ?_ (by with_unfolding_all rfl)) | ((with_reducible refine And.intro ?_ ?_); (· omega)) | (simp -dsimp only [↓cw_skip, ↓cw_ops, ↓cw_seq, ↓cw_block, ↓cw_cond, ↓seqK_normal, ↓getK_same, ↓getK_ne, ↓evK_tmp, ↓condV_var, ↓opsW_nil, ↓opsW_d, ↓opW_move, ↓opW_assign, ↓opW_bin, ↓bin_lss, ↓s81_11_w, ↓s81_12_w, ↓r81_13_w, ↓s81_14_w, ↓s81_15_w, ↓s81_16_w, ↓r81_17_w, ↓s81_18_w, ↓s81_19_w, brK_true, ne_eq, Nat.reduceEqDiff, not_false_eq_true, ↓g8, ↓a2, c1]))
    refine cw_loopI (fun x fr h' => ∃ (j : Nat) (e : Nat → Nat), a ≤ j ∧ j ≤ k ∧ x = j - a ∧ fr.get 9 = some (.int .i64 (j : Nat)) ∧ Up h0 h' i e N ∧ Sw a b f e ∧ InsAt e a k j) (k - a) ?_ (by omega) ?_
    · exact ⟨k, g, by omega, by omega, rfl, by simp [T.get_set], u, s, InsAt.start so⟩
    rintro x fr2 h2 ⟨j, e, hj1, hj2, rfl, g9, u2, s2, ins⟩ hag2
    have n2 := u2.n
    have z9 := g9
    have g9 := getK_of g9
    have q0 : fr2.get 0 = fr.get 0 := by rw [hag2 0 rfl]; simp [T.get_set]
    have q1 : fr2.get 1 = fr.get 1 := by rw [hag2 1 rfl]; simp [T.get_set]
    have q3 : fr2.get 3 = fr.get 3 := by rw [hag2 3 rfl]; simp [T.get_set]
    have q8 : fr2.get 8 = fr.get 8 := by rw [hag2 8 rfl]; simp [T.get_set]
    have b0 := getK_of (q0.trans y0)
    have b1 := getK_of (q1.trans y1)
    have b3 := getK_of (q3.trans y3)
    have b8 := getK_of (q8.trans z8)
    have be := hf.sw s2 hb
    have w2 : IntKind.i64.wrap ((k : Int) + 1) = ((k + 1 : Nat) : Int) := by rw [wrap_i64 (by omega) (by omega)]; omega
    by_cases hja : a < j
    · have c2 : (a : Int) < (j : Int) := by omega
      have w3 : IntKind.i64.wrap ((j : Int) - 1) = ((j - 1 : Nat) : Int) := by rw [wrap_i64 (by omega) (by omega)]; omega
      have d1 := u2.cell (k := j) (by omega)
      have d2 := u2.cell (k := j - 1) (by omega)
      have z1 : 0 + j * 1 = j := zero_add_one _
      have z2 : 0 + (j - 1) * 1 = j - 1 := zero_add_one _
      repeat' (first | done | with_reducible (first | refine y1 ?_ (by omega) | refine y2 ?_ (by omega) | refine y3 (fun _ => ?_) (fun _ => ?_) | refine y4 ?_ (by omega) (by omega) | refine y5 ?_ (by omega) | refine y6 ?_ (by with_unfolding_all rfl) | refine y7 ?_ (by with_unfolding_all rfl) | refine y8 ?_ (by with_unfolding_all rfl) | refine y9 ?_ (by with_unfolding_all rfl) | refine ya ?_ (by with_unfolding_all rfl)) | ((with_reducible refine And.intro ?_ ?_); (· omega)) | (simp -dsimp only [↓cw_plan, ↓cw_seq, ↓getK_same, ↓getK_ne, ↓evK_tmp, ↓evK_int, ↓gdV_var, ↓planW_d, ↓planW_gd, ↓agK_nil, ↓opW_move, ↓opW_bin, ↓bin_sub, ↓bin_gtr, ↓ld1_some, ↓idxS_some, ↓evs_nil, ↓evs_cons, ↓opW_callV, ↓callV_some, ↓ia_25, ↓ld_27, ↓p81_8_w, ↓s81_9_w, ↓s81_10_w, onV_some', brK_true, Nat.le_refl, true_and, ne_eq, Nat.reduceEqDiff, not_false_eq_true, Addr.add_lit, Int.toNat_natCast, ↓g9, ↓b0, ↓b1, ↓b3, c2, w3, z1, z2, d1, d2, List.nil_append, List.append_nil]))
      refine cmp_ret (be j (by omega)) (be (j - 1) (by omega)) ?_
      by_cases hcmp : keyN (e j) < keyN (e (j - 1))
      · have c3 : cmpN (e j) (e (j - 1)) < 0 := cmpN_lt.2 hcmp
        repeat' (first | done | with_reducible (first | refine y1 ?_ (by omega) | refine y2 ?_ (by omega) | refine y3 (fun _ => ?_) (fun _ => ?_) | refine y4 ?_ (by omega) (by omega) | refine y5 ?_ (by omega) | refine y6 ?_ (by with_unfolding_all rfl) | refine y7 ?_ (by with_unfolding_all rfl) | refine y8 ?_ (by with_unfolding_all rfl) | refine y9 ?_ (by with_unfolding_all rfl) | refine ya ?_ (by with_unfolding_all rfl)) | ((with_reducible refine And.intro ?_ ?_); (· omega)) | (simp -dsimp only [↓cw_skip, ↓cw_plan, ↓cw_seq, ↓cw_block, ↓cw_cond, ↓seqK_normal, ↓getK_same, ↓getK_ne, ↓evK_tmp, ↓evK_int, ↓condV_var, ↓gdV_var, ↓planW_nil, ↓planW_d, ↓planW_n, ↓planW_gd, ↓agK_nil, ↓opW_move, ↓opW_pick, ↓opW_bin, ↓bin_sub, ↓bin_lss, ↓ld1_some, ↓idxS_some, ↓ia_25, ↓ld_27, ↓st_27, ↓p81_4_w, ↓s81_5_w, ↓s81_6_w, ↓s81_7_w, onV_some', brK_true, Nat.le_refl, true_and, ne_eq, Nat.reduceEqDiff, not_false_eq_true, Addr.add_lit, Int.toNat_natCast, ↓g9, ↓b0, c3, w3, z1, z2, d1, d2]))
        refine u2.put (by omega) fun h3 u3 => ?_
        have n3 := u3.n
        repeat' (first | done | with_reducible (first | refine y1 ?_ (by omega) | refine y2 ?_ (by omega) | refine y3 (fun _ => ?_) (fun _ => ?_) | refine y4 ?_ (by omega) (by omega) | refine y5 ?_ (by omega) | refine y6 ?_ (by with_unfolding_all rfl) | refine y7 ?_ (by with_unfolding_all rfl) | refine y8 ?_ (by with_unfolding_all rfl) | refine y9 ?_ (by with_unfolding_all rfl) | refine ya ?_ (by with_unfolding_all rfl)) | ((with_reducible refine And.intro ?_ ?_); (· omega)) | (simp -dsimp only [↓getK_same, ↓getK_ne, ↓evK_tmp, ↓planW_d, ↓planW_n, ↓agK_nil, ↓idxS_some, ↓ia_25, ↓st_27, Nat.le_refl, true_and, ne_eq, Nat.reduceEqDiff, not_false_eq_true, Addr.add_lit, Int.toNat_natCast, w3, z2]))
        refine u3.put (by omega) fun h4 u4 => ?_
        have n4 := u4.n
        rw [put_swap] at u4
        repeat' (first | done | with_reducible (first | refine y1 ?_ (by omega) | refine y2 ?_ (by omega) | refine y3 (fun _ => ?_) (fun _ => ?_) | refine y4 ?_ (by omega) (by omega) | refine y5 ?_ (by omega) | refine y6 ?_ (by with_unfolding_all rfl) | refine y7 ?_ (by with_unfolding_all rfl) | refine y8 ?_ (by with_unfolding_all rfl) | refine y9 ?_ (by with_unfolding_all rfl) | refine ya ?_ (by with_unfolding_all rfl)) | ((with_reducible refine And.intro ?_ ?_); (· omega)) | (simp -dsimp only [↓cw_ops, ↓seqK_normal, ↓blockK_normal, ↓loopK_normal, ↓getK_same, ↓getK_ne, ↓evK_tmp, ↓evK_int, ↓opsW_nil, ↓opsW_d, ↓planW_nil, ↓agK_nil, ↓opW_move, ↓opW_assign, ↓opW_bin, ↓bin_sub, ↓r81_2_w, ↓s81_3_w, true_and, ne_eq, Nat.reduceEqDiff, not_false_eq_true, Addr.add_lit, Int.toNat_natCast, ↓g9, w3, z1, z2]))
        exact ⟨j - 1 - a, by omega, j - 1, sw e j (j - 1), by omega, by omega, rfl, by simp [T.get_set], u4, .step s2 _ _ (by omega) (by omega), ins.step ⟨by omega, by omega⟩ hcmp⟩
      · have c3 : ¬ cmpN (e j) (e (j - 1)) < 0 := fun h => hcmp (cmpN_lt.1 h)
        have so2 := ins.stop ⟨hj1, hj2⟩ (.inr (by omega))
        repeat' (first | done | with_reducible (first | refine y1 ?_ (by omega) | refine y2 ?_ (by omega) | refine y3 (fun _ => ?_) (fun _ => ?_) | refine y4 ?_ (by omega) (by omega) | refine y5 ?_ (by omega) | refine y6 ?_ (by with_unfolding_all rfl) | refine y7 ?_ (by with_unfolding_all rfl) | refine y8 ?_ (by with_unfolding_all rfl) | refine y9 ?_ (by with_unfolding_all rfl) | refine ya ?_ (by with_unfolding_all rfl)) | ((with_reducible refine And.intro ?_ ?_); (· omega)) | (simp -dsimp only [↓cw_ops, ↓cw_exit, ↓cw_cond, ↓seqK_normal, ↓seqK_exit, ↓blockK_normal, ↓blockK_same, ↓loopK_normal, ↓loopK_exit, ↓getK_same, ↓getK_ne, ↓evK_tmp, ↓evK_int, ↓condV_var, ↓gdV_var, ↓opsW_nil, ↓opsW_d, ↓planW_nil, ↓planW_d, ↓planW_gd, ↓agK_nil, ↓opW_move, ↓opW_assign, ↓opW_pick, ↓opW_bin, ↓bin_add, ↓bin_lss, ↓r81_0_w, ↓s81_1_w, ↓s81_7_w, brK_true, brK_false, Nat.le_refl, true_and, ne_eq, Nat.reduceEqDiff, not_false_eq_true, Addr.add_lit, Int.toNat_natCast, Bool.false_eq_true,  ↓b8, c3, w3, z1, z2, w2]))
        exact ⟨b - (k + 1), by omega, k + 1, e, by omega, by omega, rfl, by simp [T.get_set], u2, s2, so2⟩
    · have c2 : ¬ (a : Int) < (j : Int) := by omega
      have so2 := ins.stop ⟨hj1, hj2⟩ (.inl (by omega))
      repeat' (first | done | with_reducible (first | refine y1 ?_ (by omega) | refine y2 ?_ (by omega) | refine y3 (fun _ => ?_) (fun _ => ?_) | refine y4 ?_ (by omega) (by omega) | refine y5 ?_ (by omega) | refine y6 ?_ (by with_unfolding_all rfl) | refine y7 ?_ (by with_unfolding_all rfl) | refine y8 ?_ (by with_unfolding_all rfl) | refine y9 ?_ (by with_unfolding_all rfl) | refine ya ?_ (by with_unfolding_all rfl)) | ((with_reducible refine And.intro ?_ ?_); (· omega)) | (simp -dsimp only [↓cw_ops, ↓cw_plan, ↓cw_seq, ↓cw_exit, ↓cw_cond, ↓seqK_normal, ↓seqK_exit, ↓blockK_normal, ↓blockK_same, ↓loopK_normal, ↓loopK_exit, ↓getK_same, ↓getK_ne, ↓evK_tmp, ↓evK_int, ↓evK_bool, ↓condV_var, ↓gdV_var, ↓opsW_nil, ↓opsW_d, ↓planW_nil, ↓planW_d, ↓planW_gd, ↓agK_nil, ↓opW_move, ↓opW_assign, ↓opW_pick, ↓opW_bin, ↓bin_add, ↓bin_gtr, ↓r81_0_w, ↓s81_1_w, ↓s81_7_w, ↓p81_8_w, ↓s81_9_w, ↓s81_10_w, brK_false, Nat.le_refl, true_and, ne_eq, Nat.reduceEqDiff, not_false_eq_true, Bool.false_eq_true,  ↓g9, ↓b1, ↓b8, c2, w2]))
      exact ⟨b - (k + 1), by omega, k + 1, e, by omega, by omega, rfl, by simp [T.get_set], u2, s2, so2⟩
  · have c1 : ¬ (k : Int) < (b : Int) := by omega
    repeat' (first | done | with_reducible (first | refine y1 ?_ (by omega) | refine y2 ?_ (by omega) | refine y3 (fun _ => ?_) (fun _ => ?_) | refine y4 ?_ (by omega) (by omega) | refine y5 ?_ (by omega) | refine y6 ?_ (by with_unfolding_all rfl) | refine y7 ?_ (by with_unfolding_all rfl) | refine y8 ?_ (by with_unfolding_all rfl) | refine y9 ?_ (by with_unfolding_all rfl) | refine ya ?_ (by with_unfolding_all rfl)) | ((with_reducible refine And.intro ?_ ?_); (· omega)) | (simp -dsimp only [↓cw_ops, ↓cw_seq, ↓cw_exit, ↓cw_cond, ↓seqK_normal, ↓seqK_exit, ↓blockK_same, ↓loopK_exit, ↓getK_same, ↓getK_ne, ↓evK_tmp, ↓condV_var, ↓opsW_nil, ↓opsW_d, ↓opW_move, ↓opW_bin, ↓bin_lss, ↓resK_nil, ↓s81_16_w, ↓r81_17_w, ↓s81_18_w, ↓s81_19_w, brK_false, ne_eq, Nat.reduceEqDiff, not_false_eq_true, Bool.false_eq_true,  ↓g8, ↓a2, c1]))
    exact hK g h' u s (so.sub (Nat.le_refl _) (by omega))
end Go.Proofs.YtjcmcoabckkjoaaDoor.Or

