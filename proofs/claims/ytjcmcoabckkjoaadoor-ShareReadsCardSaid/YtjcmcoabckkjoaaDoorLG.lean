/- Numbers' texts: classes, digits. -/
import Derived.Test.YtjcmcoabckkjoaaDoorLK
import Derived.Lib.ItoaLen
set_option linter.unusedSimpArgs false
set_option linter.unusedVariables false
namespace Go.Proofs.YtjcmcoabckkjoaaDoor.Li
open Go.Ev
set_option maxRecDepth 100000
set_option maxHeartbeats 400000
theorem nan_fl {n : Nat} {h : Heap} {K : Value → Heap → Prop} (hn : n < 18446744073709551616) (hK : K (.bool (isNan n)) h) : Ret env (.func 19) [.float .f64 n] h K := by
  refine Ret.ext (v := .bool (isNan n)) ?_ hK
  show extNan 19 (extFl 18 10 fun _ _ _ => none) 19 [.float .f64 n] h = _
  have : Nat.blt n 18446744073709551616 = true := by rw [blt_eq]; exact decide_eq_true hn
  simp only [extNan, Nat.beq_refl, cond_true, this]
theorem nan_no {h : Heap} {K : Value → Heap → Prop} (hK : K (.bool true) h) : Ret env (.func 19) [.chan none] h K := Ret.ext (v := .bool true) rfl hK
theorem bits_fl {n : Nat} {h : Heap} {K : Value → Heap → Prop} (hK : K (.int .u64 n) h) : Ret env (.func 18) [.float .f64 n] h K := Ret.ext (v := .int .u64 n) rfl hK
theorem from_u {n : Int} {h : Heap} {K : Value → Heap → Prop} (hK : K (.float .f64 n.toNat) h) : Ret env (.func 10) [.int .u64 n] h K := Ret.ext (v := .float .f64 n.toNat) rfl hK
def strV (l : List UInt8) : Value := .string ⟨l.toArray⟩
theorem decV_def (u : Nat) : decV u = strV (Lib.decDigits u) := rfl
theorem itoaV_def (n : Int) : itoaV n = strV (Lib.itoa n) := rfl
theorem dec_le {u : Nat} (hu : u < 18446744073709551616) : (Lib.decDigits u).length ≤ 20 := by
  rw [Lib.decDigits_length]
  by_cases h : u = 0
  · subst h; rw [Lib.nDigits_small (by decide)]; decide
  · exact nd_le (by omega) hu
/-! the reference's digits -/
theorem digit_val {d : Nat} (hd : d < 10) : Value.int .u8 (IntKind.wrap .u8 (IntKind.wrap .u64 (48 + (d : Int)))) = byteV (UInt8.ofNat (48 + d)) := by
  have h1 : IntKind.wrap .u64 (48 + (d : Int)) = ((48 + d : Nat) : Int) := by rw [wrap_u64 (by omega) (by omega)]; omega
  have h2 : IntKind.wrap .u8 ((48 + d : Nat) : Int) = ((48 + d : Nat) : Int) := wrap_u8 (by omega) (by omega)
  have h3 : (UInt8.ofNat (48 + d)).toNat = 48 + d := by simp; omega
  rw [h1, h2]; unfold byteV; rw [h3]
theorem conv879 : isBytes env 87 9 = true := by kernel_rfl
theorem digit_str {d : Nat} {h : Heap} {K : Value → Prop} (hd : d < 10) (q : K (strV [UInt8.ofNat (48 + d)])) :
    bstrK (newBlk h (.cells (Value.int .u8 (IntKind.wrap .u8 (IntKind.wrap .u64 (48 + (d : Int))))).cells.toList 5 true)) (.slice (some ⟨h.n, 0, none⟩) 1 1) K := by
  refine bstr_of (l := [UInt8.ofNat (48 + d)]) ?_ q
  rw [digit_val hd]
  exact cellsAt_newE rfl
theorem dec_small {u : Nat} (h : u < 10) : Lib.decDigits u = [UInt8.ofNat (48 + u)] := by rw [Lib.decDigits, dif_pos h]
theorem dec_big {u : Nat} (h : ¬ u < 10) : Lib.decDigits u = Lib.decDigits (u / 10) ++ [UInt8.ofNat (48 + u % 10)] := by rw [Lib.decDigits, dif_neg h]
theorem big_ret : ∀ (k : Nat) {u : Nat} {h : Heap} {K : Value → Heap → Prop}, u ≤ k → u < 18446744073709551616 → (∀ h', ExtB h.n h h' → K (strV (Lib.decDigits u)) h') → Ret env (.func 53) [.int .u64 u] h K := by
  intro k
  induction k with
  | zero =>
    intro u h K hk hu hK
    obtain rfl : u = 0 := by omega
    refine F53 rfl ?_
    rw [dec_small (by decide)] at hK
    repeat' (first | done | with_reducible (first | refine y1 ?_ (by omega) | refine y2 ?_ (by omega) | refine y3 (fun _ => ?_) (fun _ => ?_) | refine y4 ?_ (by omega) (by omega) | refine y5 ?_ (by omega) | refine y6 ?_ (by with_unfolding_all rfl) | refine y7 ?_ (by with_unfolding_all rfl) | refine y8 ?_ (by with_unfolding_all rfl) | refine y9 ?_ (by with_unfolding_all rfl) | refine ya ?_ (by with_unfolding_all rfl)) | (simp -dsimp only [↓cw_ops, ↓cw_seq, ↓cw_cond, ↓seqK_normal, ↓getK_same, ↓getK_ne, ↓evK_tmp, ↓evK_int, ↓evK_string, ↓condV_var, ↓opsW_nil, ↓opsW_d, ↓opW_move, ↓opW_assign, ↓opW_bin, ↓bin_add, ↓bin_lss, ↓setAll_cons, ↓setAll_nil, ↓evp_nil, ↓evp_cons, ↓cint_int, ↓cv_23_5, ↓bsl_87_1, ↓cv_87_9, ↓r53_2_w, ↓s53_3_w, ↓s53_4_w, ↓r53_5_w, ↓s53_6_w, ↓s53_7_w, ↓r53_8_w, ↓s53_9_w, brK_true, ne_eq, Nat.reduceEqDiff, not_false_eq_true]))
    refine digit_str (by decide) ?_
    unfold strV at hK ⊢
    repeat' (first | done | with_reducible (first | refine y1 ?_ (by omega) | refine y2 ?_ (by omega) | refine y3 (fun _ => ?_) (fun _ => ?_) | refine y4 ?_ (by omega) (by omega) | refine y5 ?_ (by omega) | refine y6 ?_ (by with_unfolding_all rfl) | refine y7 ?_ (by with_unfolding_all rfl) | refine y8 ?_ (by with_unfolding_all rfl) | refine y9 ?_ (by with_unfolding_all rfl) | refine ya ?_ (by with_unfolding_all rfl)) | (simp -dsimp only [↓cw_ret, ↓seqK_normal, ↓seqK_ret, ↓getK_same, ↓evK_tmp, ↓opsW_nil, ↓opsW_d, ↓opW_assign, ↓resK_one, Nat.add_zero]))
    exact hK _ (ExtB.new _ (Nat.le_refl _))
  | succ k ih =>
    intro u h K hk hu hK
    refine F53 rfl ?_
    by_cases h10 : u < 10
    · rw [dec_small h10] at hK
      repeat' (first | done | with_reducible (first | refine y1 ?_ (by omega) | refine y2 ?_ (by omega) | refine y3 (fun _ => ?_) (fun _ => ?_) | refine y4 ?_ (by omega) (by omega) | refine y5 ?_ (by omega) | refine y6 ?_ (by with_unfolding_all rfl) | refine y7 ?_ (by with_unfolding_all rfl) | refine y8 ?_ (by with_unfolding_all rfl) | refine y9 ?_ (by with_unfolding_all rfl) | refine ya ?_ (by with_unfolding_all rfl)) | (simp -dsimp only [↓cw_ops, ↓cw_seq, ↓cw_cond, ↓seqK_normal, ↓getK_same, ↓getK_ne, ↓evK_tmp, ↓evK_int, ↓evK_string, ↓condV_var, ↓opsW_nil, ↓opsW_d, ↓opW_move, ↓opW_assign, ↓opW_bin, ↓bin_add, ↓bin_lss, ↓setAll_cons, ↓setAll_nil, ↓evp_nil, ↓evp_cons, ↓cint_int, ↓cv_23_5, ↓bsl_87_1, ↓cv_87_9, ↓r53_2_w, ↓s53_3_w, ↓s53_4_w, ↓r53_5_w, ↓s53_6_w, ↓s53_7_w, ↓r53_8_w, ↓s53_9_w, brK_true, ne_eq, Nat.reduceEqDiff, not_false_eq_true]))
      refine digit_str h10 ?_
      unfold strV at hK ⊢
      repeat' (first | done | with_reducible (first | refine y1 ?_ (by omega) | refine y2 ?_ (by omega) | refine y3 (fun _ => ?_) (fun _ => ?_) | refine y4 ?_ (by omega) (by omega) | refine y5 ?_ (by omega) | refine y6 ?_ (by with_unfolding_all rfl) | refine y7 ?_ (by with_unfolding_all rfl) | refine y8 ?_ (by with_unfolding_all rfl) | refine y9 ?_ (by with_unfolding_all rfl) | refine ya ?_ (by with_unfolding_all rfl)) | (simp -dsimp only [↓cw_ret, ↓seqK_normal, ↓seqK_ret, ↓getK_same, ↓evK_tmp, ↓opsW_nil, ↓opsW_d, ↓opW_assign, ↓resK_one]))
      exact hK _ (ExtB.new _ (Nat.le_refl _))
    · rw [dec_big h10] at hK
      have e1 : (u : Int).tmod 10 = ((u % 10 : Nat) : Int) := rfl
      have e2 : (u : Int).tdiv 10 = ((u / 10 : Nat) : Int) := rfl
      have e3 : IntKind.wrap .u64 ((u / 10 : Nat) : Int) = ((u / 10 : Nat) : Int) := wrap_u64 (by omega) (by omega)
      repeat' (first | done | with_reducible (first | refine y1 ?_ (by omega) | refine y2 ?_ (by omega) | refine y3 (fun _ => ?_) (fun _ => ?_) | refine y4 ?_ (by omega) (by omega) | refine y5 ?_ (by omega) | refine y6 ?_ (by with_unfolding_all rfl) | refine y7 ?_ (by with_unfolding_all rfl) | refine y8 ?_ (by with_unfolding_all rfl) | refine y9 ?_ (by with_unfolding_all rfl) | refine ya ?_ (by with_unfolding_all rfl)) | (simp -dsimp only [↓cw_skip, ↓cw_ops, ↓cw_plan, ↓cw_seq, ↓cw_cond, ↓seqK_normal, ↓getK_same, ↓getK_ne, ↓evK_tmp, ↓evK_int, ↓evK_string, ↓condV_var, ↓opsW_nil, ↓opsW_d, ↓planW_d, ↓agK_nil, ↓opW_move, ↓opW_assign, ↓opW_bin, ↓bin_add, ↓bin_quo, ↓bin_rem, ↓bin_lss, ↓setAll_cons, ↓setAll_nil, ↓evp_nil, ↓evp_cons, ↓cint_int, ↓cv_23_5, ↓bsl_87_1, ↓cv_87_9, ↓p53_0_w, ↓s53_1_w, ↓s53_4_w, ↓r53_5_w, ↓s53_6_w, ↓s53_7_w, ↓r53_8_w, ↓s53_9_w, newBlk_n, brK_false, Nat.le_refl, true_and, ne_eq, Nat.reduceEqDiff, not_false_eq_true, Bool.false_eq_true,  e1]))
      refine digit_str (by omega) ?_
      repeat' (first | done | with_reducible (first | refine y1 ?_ (by omega) | refine y2 ?_ (by omega) | refine y3 (fun _ => ?_) (fun _ => ?_) | refine y4 ?_ (by omega) (by omega) | refine y5 ?_ (by omega) | refine y6 ?_ (by with_unfolding_all rfl) | refine y7 ?_ (by with_unfolding_all rfl) | refine y8 ?_ (by with_unfolding_all rfl) | refine y9 ?_ (by with_unfolding_all rfl) | refine ya ?_ (by with_unfolding_all rfl)) | (simp -dsimp only [↓getK_same, ↓getK_ne, ↓evK_tmp, ↓planW_d, ↓agK_nil, ↓evs_nil, ↓evs_cons, ↓opW_call, true_and, ne_eq, Nat.reduceEqDiff, not_false_eq_true, e2, e3]))
      refine ih (by omega) (by omega) fun h' X => ?_
      have hd := dec_le (u := u / 10) (by omega)
      unfold strV at hK ⊢
      have n1 := X.n
      refine ⟨n1, ?_, ?_⟩
      · repeat' (first | done | with_reducible (first | refine y1 ?_ (by omega) | refine y2 ?_ (by omega) | refine y3 (fun _ => ?_) (fun _ => ?_) | refine y4 ?_ (by omega) (by omega) | refine y5 ?_ (by omega) | refine y6 ?_ (by with_unfolding_all rfl) | refine y7 ?_ (by with_unfolding_all rfl) | refine y8 ?_ (by with_unfolding_all rfl) | refine y9 ?_ (by with_unfolding_all rfl) | refine ya ?_ (by with_unfolding_all rfl)) | (simp -dsimp only [↓getK_same, ↓getK_ne, ↓evK_tmp, ↓agK_nil, ↓setAll_cons, ↓setAll_nil, and_true, ne_eq, Nat.reduceEqDiff, not_false_eq_true, agK_bstr conv879]))
        refine bstr_of (l := [UInt8.ofNat (48 + u % 10)]) ?_ ?_
        · have hc := cellsAt_ext (b := h.n) (off := 0) (n := 1) X (by simp [newBlk]) (cellsAt_newE (h := h) (cs := (Value.int .u8 (IntKind.wrap .u8 (IntKind.wrap .u64 (48 + ((u % 10 : Nat) : Int))))).cells.toList) (e := 5) (b := true) rfl)
          rw [hc, digit_val (by omega)]; rfl
        · repeat' (first | done | with_reducible (first | refine y1 ?_ (by omega) | refine y2 ?_ (by omega) | refine y3 (fun _ => ?_) (fun _ => ?_) | refine y4 ?_ (by omega) (by omega) | refine y5 ?_ (by omega) | refine y6 ?_ (by with_unfolding_all rfl) | refine y7 ?_ (by with_unfolding_all rfl) | refine y8 ?_ (by with_unfolding_all rfl) | refine y9 ?_ (by with_unfolding_all rfl) | refine ya ?_ (by with_unfolding_all rfl)) | (simp -dsimp only [↓agV_same, ↓agV_ne, ne_eq, Nat.reduceEqDiff, not_false_eq_true, same_str]))
      repeat' (first | done | with_reducible (first | refine y1 ?_ (by omega) | refine y2 ?_ (by omega) | refine y3 (fun _ => ?_) (fun _ => ?_) | refine y4 ?_ (by omega) (by omega) | refine y5 ?_ (by omega) | refine y6 ?_ (by with_unfolding_all rfl) | refine y7 ?_ (by with_unfolding_all rfl) | refine y8 ?_ (by with_unfolding_all rfl) | refine y9 ?_ (by with_unfolding_all rfl) | refine ya ?_ (by with_unfolding_all rfl)) | (simp -dsimp only [↓cw_ret, ↓seqK_normal, ↓getK_same, ↓getK_ne, ↓evK_tmp, ↓planW_nil, ↓planW_d, ↓agK_nil, ↓opW_assign, ↓opW_bin, ↓resK_one, List.length_cons, List.length_nil, Nat.le_refl, true_and, ne_eq, Nat.reduceEqDiff, Nat.reduceAdd, not_false_eq_true, bin_addS, app_str, str_size]))
      exact hK _ ((ExtB.new _ (Nat.le_refl _)).trans (X.mono (by simp [newBlk])))
/-! the reference's whole numbers -/
theorem num_ret {n : Int} {h : Heap} {K : Value → Heap → Prop} (b0 : -9223372036854775808 ≤ n) (b1 : n ≤ 9223372036854775807) (hK : ∀ h', ExtB h.n h h' → K (strV (Lib.itoa n)) h') : Ret env (.func 52) [.int .i64 n] h K := by
  refine F52 rfl ?_
  by_cases hneg : n < 0
  · obtain ⟨u, rfl⟩ : ∃ u : Nat, n = -(u : Int) := ⟨n.natAbs, by omega⟩
    rw [Lib.itoa_neg u (by omega)] at hK
    have w : IntKind.wrap .u64 (IntKind.wrap .i64 (0 - -(u : Int))) = (u : Int) := by rw [IntKind.wrap_u64, IntKind.wrap_i64]; omega
    repeat' (first | done | with_reducible (first | refine y1 ?_ (by omega) | refine y2 ?_ (by omega) | refine y3 (fun _ => ?_) (fun _ => ?_) | refine y4 ?_ (by omega) (by omega) | refine y5 ?_ (by omega) | refine y6 ?_ (by with_unfolding_all rfl) | refine y7 ?_ (by with_unfolding_all rfl) | refine y8 ?_ (by with_unfolding_all rfl) | refine y9 ?_ (by with_unfolding_all rfl) | refine ya ?_ (by with_unfolding_all rfl)) | (simp -dsimp only [↓cw_ops, ↓cw_seq, ↓cw_cond, ↓seqK_normal, ↓getK_same, ↓getK_ne, ↓evK_tmp, ↓evK_int, ↓evK_string, ↓condV_var, ↓opsW_nil, ↓opsW_d, ↓opW_move, ↓opW_assign, ↓opW_bin, ↓bin_lss, ↓evs_nil, ↓evs_cons, ↓opW_call, ↓setAll_cons, ↓setAll_nil, ↓opW_un, ↓un_neg, ↓cint_int, ↓cv_3_23, ↓r52_2_w, ↓s52_3_w, ↓s52_4_w, ↓r52_5_w, ↓s52_6_w, ↓s52_7_w, ↓r52_8_w, ↓s52_9_w, brK_true, ne_eq, Nat.reduceEqDiff, not_false_eq_true, w]))
    refine big_ret u (Nat.le_refl _) (by omega) fun h' X => ?_
    have hd := dec_le (u := u) (by omega)
    unfold strV at hK ⊢
    repeat' (first | done | with_reducible (first | refine y1 ?_ (by omega) | refine y2 ?_ (by omega) | refine y3 (fun _ => ?_) (fun _ => ?_) | refine y4 ?_ (by omega) (by omega) | refine y5 ?_ (by omega) | refine y6 ?_ (by with_unfolding_all rfl) | refine y7 ?_ (by with_unfolding_all rfl) | refine y8 ?_ (by with_unfolding_all rfl) | refine y9 ?_ (by with_unfolding_all rfl) | refine ya ?_ (by with_unfolding_all rfl)) | (simp -dsimp only [↓cw_ret, ↓seqK_normal, ↓seqK_ret, ↓getK_same, ↓evK_tmp, ↓evK_string, ↓opsW_nil, ↓opsW_d, ↓opW_assign, ↓opW_bin, ↓resK_one, List.length_cons, List.length_nil, Nat.reduceAdd, bin_addS, app_str, str_size]))
    exact hK h' X
  · obtain ⟨u, rfl⟩ : ∃ u : Nat, n = u := ⟨n.toNat, by omega⟩
    rw [Lib.itoa_nonneg] at hK
    have w : IntKind.wrap .u64 (u : Int) = (u : Int) := by rw [IntKind.wrap_u64]; omega
    repeat' (first | done | with_reducible (first | refine y1 ?_ (by omega) | refine y2 ?_ (by omega) | refine y3 (fun _ => ?_) (fun _ => ?_) | refine y4 ?_ (by omega) (by omega) | refine y5 ?_ (by omega) | refine y6 ?_ (by with_unfolding_all rfl) | refine y7 ?_ (by with_unfolding_all rfl) | refine y8 ?_ (by with_unfolding_all rfl) | refine y9 ?_ (by with_unfolding_all rfl) | refine ya ?_ (by with_unfolding_all rfl)) | (simp -dsimp only [↓cw_skip, ↓cw_ops, ↓cw_seq, ↓cw_cond, ↓seqK_normal, ↓getK_same, ↓getK_ne, ↓evK_tmp, ↓evK_int, ↓evK_string, ↓condV_var, ↓opsW_nil, ↓opsW_d, ↓opW_move, ↓opW_assign, ↓opW_bin, ↓bin_lss, ↓evs_nil, ↓evs_cons, ↓opW_call, ↓setAll_cons, ↓setAll_nil, ↓cint_int, ↓cv_3_23, ↓r52_0_w, ↓s52_1_w, ↓s52_4_w, ↓r52_5_w, ↓s52_6_w, ↓s52_7_w, ↓r52_8_w, ↓s52_9_w, brK_false, ne_eq, Nat.reduceEqDiff, not_false_eq_true, Bool.false_eq_true,  w]))
    refine big_ret u (Nat.le_refl _) (by omega) fun h' X => ?_
    unfold strV at hK ⊢
    repeat' (first | done | with_reducible (first | refine y1 ?_ (by omega) | refine y2 ?_ (by omega) | refine y3 (fun _ => ?_) (fun _ => ?_) | refine y4 ?_ (by omega) (by omega) | refine y5 ?_ (by omega) | refine y6 ?_ (by with_unfolding_all rfl) | refine y7 ?_ (by with_unfolding_all rfl) | refine y8 ?_ (by with_unfolding_all rfl) | refine y9 ?_ (by with_unfolding_all rfl) | refine ya ?_ (by with_unfolding_all rfl)) | (simp -dsimp only [↓cw_ret, ↓seqK_normal, ↓getK_same, ↓evK_tmp, ↓opsW_nil, ↓opsW_d, ↓opW_assign, ↓resK_one]))
    exact hK h' X
end Go.Proofs.YtjcmcoabckkjoaaDoor.Li

namespace Go.Proofs.YtjcmcoabckkjoaaDoor.Li
open Go.Ev
set_option maxRecDepth 100000
set_option maxHeartbeats 400000
theorem isNaN_ret {n : Nat} {h : Heap} {K : Value → Heap → Prop} (hn : n < 18446744073709551616) (hK : K (.bool (isNan n)) h) : Ret env (.func 63) [.float .f64 n] h K := by
  refine F63 rfl ?_
  have e : (Ieee.double.order n n != some .eq) = isNan n := by
    rw [ord_self hn]
    cases isNan n <;> rfl
  repeat' (first | done | with_reducible (first | refine y1 ?_ (by omega) | refine y2 ?_ (by omega) | refine y3 (fun _ => ?_) (fun _ => ?_) | refine y4 ?_ (by omega) (by omega) | refine y5 ?_ (by omega) | refine y6 ?_ (by with_unfolding_all rfl) | refine y7 ?_ (by with_unfolding_all rfl) | refine y8 ?_ (by with_unfolding_all rfl) | refine y9 ?_ (by with_unfolding_all rfl) | refine ya ?_ (by with_unfolding_all rfl)) | (simp -dsimp only [↓cw_ops, ↓cw_seq, ↓cw_ret, ↓seqK_normal, ↓getK_same, ↓getK_ne, ↓evK_tmp, ↓evK_bool, ↓opsW_nil, ↓opsW_d, ↓opW_move, ↓opW_assign, ↓opW_bin, ↓resK_one, ↓setAll_cons, ↓setAll_nil, ↓r63_0_w, ↓s63_1_w, ↓r63_2_w, ↓s63_3_w, ne_eq, Nat.reduceEqDiff, not_false_eq_true, bin_neqF, e]))
  exact hK
theorem isNaN_no {h : Heap} {K : Value → Heap → Prop} (hK : K (.bool true) h) : Ret env (.func 63) [.chan none] h K := by
  refine F63 rfl ?_
  repeat' (first | done | with_reducible (first | refine y1 ?_ (by omega) | refine y2 ?_ (by omega) | refine y3 (fun _ => ?_) (fun _ => ?_) | refine y4 ?_ (by omega) (by omega) | refine y5 ?_ (by omega) | refine y6 ?_ (by with_unfolding_all rfl) | refine y7 ?_ (by with_unfolding_all rfl) | refine y8 ?_ (by with_unfolding_all rfl) | refine y9 ?_ (by with_unfolding_all rfl) | refine ya ?_ (by with_unfolding_all rfl)) | (simp -dsimp only [↓cw_ops, ↓cw_seq, ↓cw_ret, ↓seqK_normal, ↓getK_same, ↓getK_ne, ↓evK_tmp, ↓evK_bool, ↓opsW_nil, ↓opsW_d, ↓opW_move, ↓opW_assign, ↓opW_bin, ↓resK_one, ↓setAll_cons, ↓setAll_nil, ↓r63_0_w, ↓s63_1_w, ↓r63_2_w, ↓s63_3_w, ne_eq, Nat.reduceEqDiff, not_false_eq_true, bin_neqNN]))
  exact hK
theorem isInf_pos {n : Nat} {h : Heap} {K : Value → Heap → Prop} (hn : n < 18446744073709551616) (hK : K (.bool (decide (n = 9218868437227405312))) h) : Ret env (.func 71) [.float .f64 n, .int .i64 1] h K := by
  refine F71 rfl ?_
  have e := ord_max hn
  repeat' (first | done | with_reducible (first | refine y1 ?_ (by omega) | refine y2 ?_ (by omega) | refine y3 (fun _ => ?_) (fun _ => ?_) | refine y4 ?_ (by omega) (by omega) | refine y5 ?_ (by omega) | refine y6 ?_ (by with_unfolding_all rfl) | refine y7 ?_ (by with_unfolding_all rfl) | refine y8 ?_ (by with_unfolding_all rfl) | refine y9 ?_ (by with_unfolding_all rfl) | refine ya ?_ (by with_unfolding_all rfl)) | (simp -dsimp only [↓cw_skip, ↓cw_ops, ↓cw_seq, ↓cw_ret, ↓cw_cond, ↓seqK_normal, ↓getK_same, ↓getK_ne, ↓evK_tmp, ↓evK_int, ↓evK_bool, ↓evK_float, ↓condV_var, ↓opsW_nil, ↓opsW_d, ↓opW_move, ↓opW_assign, ↓opW_bin, ↓bin_eql, ↓bin_lss, ↓resK_one, ↓setAll_cons, ↓setAll_nil, ↓r71_0_w, ↓s71_1_w, ↓s71_6_w, ↓r71_7_w, ↓s71_8_w, ↓s71_9_w, ↓r71_10_w, ↓s71_11_w, ↓s71_12_w, ↓r71_13_w, ↓s71_14_w, brK_false, ne_eq, Nat.reduceEqDiff, Nat.reduceAdd, not_false_eq_true, Nat.one_ne_zero, Bool.false_eq_true,  bin_gtrF, e]))
  exact hK
theorem isInf_neg {n : Nat} {h : Heap} {K : Value → Heap → Prop} (hn : n < 18446744073709551616) (hK : K (.bool (decide (n = 18442240474082181120))) h) : Ret env (.func 71) [.float .f64 n, .int .i64 (-1)] h K := by
  refine F71 rfl ?_
  have hx := neg_bits hn
  have hlt : n ^^^ 9223372036854775808 < 18446744073709551616 := by rw [hx]; split <;> omega
  have e := ord_max hlt
  have e2 : decide (n ^^^ 9223372036854775808 = 9218868437227405312) = decide (n = 18442240474082181120) := by
    rw [hx, decide_eq_decide]; split <;> omega
  rw [e2] at e
  repeat' (first | done | with_reducible (first | refine y1 ?_ (by omega) | refine y2 ?_ (by omega) | refine y3 (fun _ => ?_) (fun _ => ?_) | refine y4 ?_ (by omega) (by omega) | refine y5 ?_ (by omega) | refine y6 ?_ (by with_unfolding_all rfl) | refine y7 ?_ (by with_unfolding_all rfl) | refine y8 ?_ (by with_unfolding_all rfl) | refine y9 ?_ (by with_unfolding_all rfl) | refine ya ?_ (by with_unfolding_all rfl)) | (simp -dsimp only [↓cw_ops, ↓cw_seq, ↓cw_ret, ↓cw_cond, ↓seqK_normal, ↓getK_same, ↓getK_ne, ↓evK_tmp, ↓evK_int, ↓evK_bool, ↓evK_float, ↓condV_var, ↓opsW_nil, ↓opsW_d, ↓opW_move, ↓opW_assign, ↓opW_bin, ↓bin_eql, ↓bin_lss, ↓resK_one, ↓setAll_cons, ↓setAll_nil, ↓opW_un, ↓r71_0_w, ↓s71_1_w, ↓r71_4_w, ↓s71_5_w, ↓s71_6_w, ↓r71_7_w, ↓s71_8_w, ↓s71_9_w, ↓r71_10_w, ↓s71_11_w, ↓s71_12_w, ↓r71_13_w, ↓s71_14_w, brK_true, brK_false, ne_eq, Nat.reduceEqDiff, Nat.reduceAdd, not_false_eq_true, Nat.one_ne_zero, Bool.false_eq_true,  bin_gtrF, un_negF', e]))
  exact hK
theorem signbit_ret {n : Nat} {h : Heap} {K : Value → Heap → Prop} (hn : n < 18446744073709551616) (hK : K (.bool (negN n)) h) : Ret env (.func 72) [.float .f64 n] h K := by
  refine F72 rfl ?_
  repeat' (first | done | with_reducible (first | refine y1 ?_ (by omega) | refine y2 ?_ (by omega) | refine y3 (fun _ => ?_) (fun _ => ?_) | refine y4 ?_ (by omega) (by omega) | refine y5 ?_ (by omega) | refine y6 ?_ (by with_unfolding_all rfl) | refine y7 ?_ (by with_unfolding_all rfl) | refine y8 ?_ (by with_unfolding_all rfl) | refine y9 ?_ (by with_unfolding_all rfl) | refine ya ?_ (by with_unfolding_all rfl)) | (simp -dsimp only [↓cw_ops, ↓cw_seq, ↓seqK_normal, ↓getK_same, ↓getK_ne, ↓evK_tmp, ↓evK_bool, ↓opsW_nil, ↓opsW_d, ↓opW_move, ↓opW_assign, ↓evs_nil, ↓evs_cons, ↓opW_call, ↓setAll_cons, ↓setAll_nil, ↓r72_0_w, ↓s72_1_w, ↓r72_2_w, ↓s72_3_w, ne_eq, Nat.reduceEqDiff, not_false_eq_true]))
  refine bits_fl ?_
  unfold negN at hK
  by_cases hg : 9223372036854775808 ≤ n
  · have w : IntKind.wrap .i64 (n : Int) = (n : Int) - 18446744073709551616 := by rw [IntKind.wrap_i64]; omega
    rw [decide_eq_true hg] at hK
    repeat' (first | done | with_reducible (first | refine y1 ?_ (by omega) | refine y2 ?_ (by omega) | refine y3 (fun _ => ?_) (fun _ => ?_) | refine y4 ?_ (by omega) (by omega) | refine y5 ?_ (by omega) | refine y6 ?_ (by with_unfolding_all rfl) | refine y7 ?_ (by with_unfolding_all rfl) | refine y8 ?_ (by with_unfolding_all rfl) | refine y9 ?_ (by with_unfolding_all rfl) | refine ya ?_ (by with_unfolding_all rfl)) | (simp -dsimp only [↓cw_ret, ↓seqK_normal, ↓getK_same, ↓evK_tmp, ↓evK_int, ↓opsW_nil, ↓opsW_d, ↓opW_assign, ↓opW_bin, ↓bin_lss, ↓resK_one, ↓cint_int, ↓cv_23_2, w]))
    exact hK
  · have w : IntKind.wrap .i64 (n : Int) = (n : Int) := by rw [IntKind.wrap_i64]; omega
    rw [decide_eq_false hg] at hK
    repeat' (first | done | with_reducible (first | refine y1 ?_ (by omega) | refine y2 ?_ (by omega) | refine y3 (fun _ => ?_) (fun _ => ?_) | refine y4 ?_ (by omega) (by omega) | refine y5 ?_ (by omega) | refine y6 ?_ (by with_unfolding_all rfl) | refine y7 ?_ (by with_unfolding_all rfl) | refine y8 ?_ (by with_unfolding_all rfl) | refine y9 ?_ (by with_unfolding_all rfl) | refine ya ?_ (by with_unfolding_all rfl)) | (simp -dsimp only [↓cw_ret, ↓seqK_normal, ↓getK_same, ↓evK_tmp, ↓evK_int, ↓opsW_nil, ↓opsW_d, ↓opW_assign, ↓opW_bin, ↓bin_lss, ↓resK_one, ↓cint_int, ↓cv_23_2, w]))
    exact hK
def classB (n : Nat) : List UInt8 :=
  if isNan n then [110, 97, 110] else if rungN n = 9218868437227405312 then (if negN n then [45, 105, 110, 102] else [105, 110, 102]) else if rungN n = 0 then (if negN n then [45, 48] else [48]) else []
theorem class_no {h : Heap} {K : Value → Heap → Prop} (hK : K (strV [110, 97, 110]) h) : Ret env (.func 54) [.chan none] h K := by
  refine F54 rfl ?_
  repeat' (first | done | with_reducible (first | refine y1 ?_ (by omega) | refine y2 ?_ (by omega) | refine y3 (fun _ => ?_) (fun _ => ?_) | refine y4 ?_ (by omega) (by omega) | refine y5 ?_ (by omega) | refine y6 ?_ (by with_unfolding_all rfl) | refine y7 ?_ (by with_unfolding_all rfl) | refine y8 ?_ (by with_unfolding_all rfl) | refine y9 ?_ (by with_unfolding_all rfl) | refine ya ?_ (by with_unfolding_all rfl)) | (simp -dsimp only [↓cw_ops, ↓cw_seq, ↓cw_block, ↓seqK_normal, ↓getK_same, ↓getK_ne, ↓evK_tmp, ↓evK_string, ↓opsW_nil, ↓opsW_d, ↓opW_move, ↓opW_assign, ↓evs_nil, ↓evs_cons, ↓opW_call, ↓setAll_cons, ↓setAll_nil, ↓r54_25_w, ↓s54_26_w, ↓s54_27_w, ↓r54_28_w, ↓s54_29_w, ne_eq, Nat.reduceEqDiff, not_false_eq_true]))
  refine isNaN_no ?_
  repeat' (first | done | with_reducible (first | refine y1 ?_ (by omega) | refine y2 ?_ (by omega) | refine y3 (fun _ => ?_) (fun _ => ?_) | refine y4 ?_ (by omega) (by omega) | refine y5 ?_ (by omega) | refine y6 ?_ (by with_unfolding_all rfl) | refine y7 ?_ (by with_unfolding_all rfl) | refine y8 ?_ (by with_unfolding_all rfl) | refine y9 ?_ (by with_unfolding_all rfl) | refine ya ?_ (by with_unfolding_all rfl)) | (simp -dsimp only [↓cw_ops, ↓cw_seq, ↓cw_ret, ↓cw_cond, ↓seqK_normal, ↓seqK_ret, ↓blockK_ret, ↓getK_same, ↓evK_tmp, ↓evK_string, ↓condV_var, ↓opsW_nil, ↓opsW_d, ↓opW_assign, ↓resK_one, ↓r54_2_w, ↓s54_3_w, ↓s54_24_w, brK_true]))
  exact hK
theorem class_ret {n : Nat} {h : Heap} {K : Value → Heap → Prop} (hn : n < 18446744073709551616) (hK : K (strV (classB n)) h) : Ret env (.func 54) [.float .f64 n] h K := by
  refine F54 rfl ?_
  have o0 := ord_zero hn
  repeat' (first | done | with_reducible (first | refine y1 ?_ (by omega) | refine y2 ?_ (by omega) | refine y3 (fun _ => ?_) (fun _ => ?_) | refine y4 ?_ (by omega) (by omega) | refine y5 ?_ (by omega) | refine y6 ?_ (by with_unfolding_all rfl) | refine y7 ?_ (by with_unfolding_all rfl) | refine y8 ?_ (by with_unfolding_all rfl) | refine y9 ?_ (by with_unfolding_all rfl) | refine ya ?_ (by with_unfolding_all rfl)) | (simp -dsimp only [↓cw_ops, ↓cw_seq, ↓cw_block, ↓seqK_normal, ↓getK_same, ↓getK_ne, ↓evK_tmp, ↓evK_string, ↓opsW_nil, ↓opsW_d, ↓opW_move, ↓opW_assign, ↓evs_nil, ↓evs_cons, ↓opW_call, ↓setAll_cons, ↓setAll_nil, ↓r54_25_w, ↓s54_26_w, ↓s54_27_w, ↓r54_28_w, ↓s54_29_w, ne_eq, Nat.reduceEqDiff, not_false_eq_true]))
  refine isNaN_ret hn ?_
  unfold classB at hK
  have hi := isNan_iff n
  cases hnan : isNan n with
  | true =>
    rw [hnan] at hK
    repeat' (first | done | with_reducible (first | refine y1 ?_ (by omega) | refine y2 ?_ (by omega) | refine y3 (fun _ => ?_) (fun _ => ?_) | refine y4 ?_ (by omega) (by omega) | refine y5 ?_ (by omega) | refine y6 ?_ (by with_unfolding_all rfl) | refine y7 ?_ (by with_unfolding_all rfl) | refine y8 ?_ (by with_unfolding_all rfl) | refine y9 ?_ (by with_unfolding_all rfl) | refine ya ?_ (by with_unfolding_all rfl)) | (simp -dsimp only [↓cw_ops, ↓cw_seq, ↓cw_ret, ↓cw_cond, ↓seqK_normal, ↓seqK_ret, ↓blockK_ret, ↓getK_same, ↓evK_tmp, ↓evK_string, ↓condV_var, ↓opsW_nil, ↓opsW_d, ↓opW_assign, ↓resK_one, ↓r54_2_w, ↓s54_3_w, ↓s54_24_w, brK_true]))
    exact hK
  | false =>
    rw [hnan] at hK o0 hi
    have hi : rungN n ≤ 9218868437227405312 := by have := of_decide_eq_false hi.symm; omega
    simp only [Bool.false_eq_true, if_false] at hK o0
    repeat' (first | done | with_reducible (first | refine y1 ?_ (by omega) | refine y2 ?_ (by omega) | refine y3 (fun _ => ?_) (fun _ => ?_) | refine y4 ?_ (by omega) (by omega) | refine y5 ?_ (by omega) | refine y6 ?_ (by with_unfolding_all rfl) | refine y7 ?_ (by with_unfolding_all rfl) | refine y8 ?_ (by with_unfolding_all rfl) | refine y9 ?_ (by with_unfolding_all rfl) | refine ya ?_ (by with_unfolding_all rfl)) | (simp -dsimp only [↓cw_ops, ↓cw_seq, ↓cw_cond, ↓seqK_normal, ↓getK_same, ↓getK_ne, ↓evK_tmp, ↓evK_int, ↓condV_var, ↓opsW_nil, ↓opsW_d, ↓opW_move, ↓opW_assign, ↓evs_nil, ↓evs_cons, ↓opW_call, ↓setAll_cons, ↓setAll_nil, ↓r54_22_w, ↓s54_23_w, ↓s54_24_w, brK_false, ne_eq, Nat.reduceEqDiff, not_false_eq_true, Bool.false_eq_true]))
    refine isInf_pos hn ?_
    by_cases hp : n = 9218868437227405312
    · rw [decide_eq_true hp]
      have h1 : rungN n = 9218868437227405312 := by unfold rungN; omega
      have h2 : negN n = false := by unfold negN; exact decide_eq_false (by omega)
      rw [if_pos h1, h2] at hK
      repeat' (first | done | with_reducible (first | refine y1 ?_ (by omega) | refine y2 ?_ (by omega) | refine y3 (fun _ => ?_) (fun _ => ?_) | refine y4 ?_ (by omega) (by omega) | refine y5 ?_ (by omega) | refine y6 ?_ (by with_unfolding_all rfl) | refine y7 ?_ (by with_unfolding_all rfl) | refine y8 ?_ (by with_unfolding_all rfl) | refine y9 ?_ (by with_unfolding_all rfl) | refine ya ?_ (by with_unfolding_all rfl)) | (simp -dsimp only [↓cw_ops, ↓cw_seq, ↓cw_ret, ↓cw_cond, ↓seqK_normal, ↓seqK_ret, ↓blockK_ret, ↓getK_same, ↓evK_tmp, ↓evK_string, ↓condV_var, ↓opsW_nil, ↓opsW_d, ↓opW_assign, ↓resK_one, ↓r54_4_w, ↓s54_5_w, ↓s54_21_w, brK_true]))
      exact hK
    rw [decide_eq_false hp]
    repeat' (first | done | with_reducible (first | refine y1 ?_ (by omega) | refine y2 ?_ (by omega) | refine y3 (fun _ => ?_) (fun _ => ?_) | refine y4 ?_ (by omega) (by omega) | refine y5 ?_ (by omega) | refine y6 ?_ (by with_unfolding_all rfl) | refine y7 ?_ (by with_unfolding_all rfl) | refine y8 ?_ (by with_unfolding_all rfl) | refine y9 ?_ (by with_unfolding_all rfl) | refine ya ?_ (by with_unfolding_all rfl)) | (simp -dsimp only [↓cw_ops, ↓cw_seq, ↓cw_cond, ↓seqK_normal, ↓getK_same, ↓getK_ne, ↓evK_tmp, ↓evK_int, ↓condV_var, ↓opsW_nil, ↓opsW_d, ↓opW_move, ↓opW_assign, ↓evs_nil, ↓evs_cons, ↓opW_call, ↓setAll_cons, ↓setAll_nil, ↓r54_19_w, ↓s54_20_w, ↓s54_21_w, brK_false, ne_eq, Nat.reduceEqDiff, not_false_eq_true, Bool.false_eq_true]))
    refine isInf_neg hn ?_
    by_cases hm : n = 18442240474082181120
    · rw [decide_eq_true hm]
      have h1 : rungN n = 9218868437227405312 := by unfold rungN; omega
      have h2 : negN n = true := by unfold negN; exact decide_eq_true (by omega)
      rw [if_pos h1, h2] at hK
      repeat' (first | done | with_reducible (first | refine y1 ?_ (by omega) | refine y2 ?_ (by omega) | refine y3 (fun _ => ?_) (fun _ => ?_) | refine y4 ?_ (by omega) (by omega) | refine y5 ?_ (by omega) | refine y6 ?_ (by with_unfolding_all rfl) | refine y7 ?_ (by with_unfolding_all rfl) | refine y8 ?_ (by with_unfolding_all rfl) | refine y9 ?_ (by with_unfolding_all rfl) | refine ya ?_ (by with_unfolding_all rfl)) | (simp -dsimp only [↓cw_ops, ↓cw_seq, ↓cw_ret, ↓cw_cond, ↓seqK_normal, ↓seqK_ret, ↓blockK_ret, ↓getK_same, ↓evK_tmp, ↓evK_string, ↓condV_var, ↓opsW_nil, ↓opsW_d, ↓opW_assign, ↓resK_one, ↓r54_6_w, ↓s54_7_w, ↓s54_18_w, brK_true]))
      exact hK
    rw [decide_eq_false hm]
    have h1 : rungN n ≠ 9218868437227405312 := by unfold rungN; omega
    rw [if_neg h1] at hK
    by_cases h0 : rungN n = 0
    · rw [if_pos h0] at hK o0
      have e : (Ieee.double.order n 0 == some .eq) = true := by rw [o0]; rfl
      repeat' (first | done | with_reducible (first | refine y1 ?_ (by omega) | refine y2 ?_ (by omega) | refine y3 (fun _ => ?_) (fun _ => ?_) | refine y4 ?_ (by omega) (by omega) | refine y5 ?_ (by omega) | refine y6 ?_ (by with_unfolding_all rfl) | refine y7 ?_ (by with_unfolding_all rfl) | refine y8 ?_ (by with_unfolding_all rfl) | refine y9 ?_ (by with_unfolding_all rfl) | refine ya ?_ (by with_unfolding_all rfl)) | (simp -dsimp only [↓cw_ops, ↓cw_seq, ↓cw_cond, ↓seqK_normal, ↓getK_same, ↓getK_ne, ↓evK_tmp, ↓evK_float, ↓condV_var, ↓gdV_var, ↓opsW_nil, ↓opsW_d, ↓opsW_gd, ↓opW_move, ↓opW_assign, ↓opW_bin, ↓evs_nil, ↓evs_cons, ↓opW_call, ↓setAll_cons, ↓setAll_nil, ↓r54_16_w, ↓s54_17_w, ↓s54_18_w, brK_true, brK_false, ne_eq, Nat.reduceEqDiff, not_false_eq_true, Bool.false_eq_true,  bin_eqlF, e]))
      refine signbit_ret hn ?_
      cases hg : negN n with
      | true =>
        rw [hg] at hK
        repeat' (first | done | with_reducible (first | refine y1 ?_ (by omega) | refine y2 ?_ (by omega) | refine y3 (fun _ => ?_) (fun _ => ?_) | refine y4 ?_ (by omega) (by omega) | refine y5 ?_ (by omega) | refine y6 ?_ (by with_unfolding_all rfl) | refine y7 ?_ (by with_unfolding_all rfl) | refine y8 ?_ (by with_unfolding_all rfl) | refine y9 ?_ (by with_unfolding_all rfl) | refine ya ?_ (by with_unfolding_all rfl)) | (simp -dsimp only [↓cw_ops, ↓cw_seq, ↓cw_ret, ↓cw_cond, ↓seqK_normal, ↓seqK_ret, ↓blockK_ret, ↓getK_same, ↓getK_ne, ↓evK_tmp, ↓evK_string, ↓condV_var, ↓opsW_nil, ↓opsW_d, ↓opW_assign, ↓opW_pick, ↓resK_one, ↓r54_8_w, ↓s54_9_w, ↓s54_15_w, brK_true, ne_eq, Nat.reduceEqDiff, not_false_eq_true, e]))
        exact hK
      | false =>
        rw [hg] at hK
        repeat' (first | done | with_reducible (first | refine y1 ?_ (by omega) | refine y2 ?_ (by omega) | refine y3 (fun _ => ?_) (fun _ => ?_) | refine y4 ?_ (by omega) (by omega) | refine y5 ?_ (by omega) | refine y6 ?_ (by with_unfolding_all rfl) | refine y7 ?_ (by with_unfolding_all rfl) | refine y8 ?_ (by with_unfolding_all rfl) | refine y9 ?_ (by with_unfolding_all rfl) | refine ya ?_ (by with_unfolding_all rfl)) | (simp -dsimp only [↓cw_ops, ↓cw_seq, ↓cw_ret, ↓cw_cond, ↓seqK_normal, ↓seqK_ret, ↓blockK_ret, ↓getK_same, ↓getK_ne, ↓evK_tmp, ↓evK_string, ↓evK_float, ↓condV_var, ↓opsW_nil, ↓opsW_d, ↓opW_move, ↓opW_assign, ↓opW_pick, ↓opW_bin, ↓resK_one, ↓setAll_cons, ↓setAll_nil, ↓r54_10_w, ↓s54_11_w, ↓s54_12_w, ↓r54_13_w, ↓s54_14_w, ↓s54_15_w, brK_true, brK_false, ne_eq, Nat.reduceEqDiff, not_false_eq_true, Bool.false_eq_true,  bin_eqlF, e]))
        exact hK
    · rw [if_neg h0] at hK o0
      have e : (Ieee.double.order n 0 == some .eq) = false := by rw [o0]; cases negN n <;> rfl
      repeat' (first | done | with_reducible (first | refine y1 ?_ (by omega) | refine y2 ?_ (by omega) | refine y3 (fun _ => ?_) (fun _ => ?_) | refine y4 ?_ (by omega) (by omega) | refine y5 ?_ (by omega) | refine y6 ?_ (by with_unfolding_all rfl) | refine y7 ?_ (by with_unfolding_all rfl) | refine y8 ?_ (by with_unfolding_all rfl) | refine y9 ?_ (by with_unfolding_all rfl) | refine ya ?_ (by with_unfolding_all rfl)) | (simp -dsimp only [↓cw_skip, ↓cw_ops, ↓cw_seq, ↓cw_ret, ↓cw_cond, ↓seqK_normal, ↓blockK_normal, ↓getK_same, ↓getK_ne, ↓evK_tmp, ↓evK_bool, ↓evK_string, ↓evK_float, ↓condV_var, ↓gdV_var, ↓opsW_nil, ↓opsW_d, ↓opsW_gd, ↓opW_move, ↓opW_assign, ↓opW_pick, ↓opW_bin, ↓resK_one, ↓setAll_cons, ↓setAll_nil, ↓r54_0_w, ↓s54_1_w, ↓s54_12_w, ↓r54_13_w, ↓s54_14_w, ↓s54_15_w, ↓r54_16_w, ↓s54_17_w, ↓s54_18_w, brK_false, ne_eq, Nat.reduceEqDiff, not_false_eq_true, Bool.false_eq_true,  bin_eqlF, e]))
      exact hK
end Go.Proofs.YtjcmcoabckkjoaaDoor.Li

namespace Go.Proofs.YtjcmcoabckkjoaaDoor.Li
open Go.Ev
set_option maxRecDepth 100000
set_option maxHeartbeats 400000
def signL (n : Nat) : List UInt8 := if negN n then [45] else []
def expE (n : Nat) : Nat := rungN n / 4503599627370496
def mant (n : Nat) : Nat := if expE n = 0 then rungN n else rungN n % 4503599627370496 + 4503599627370496
def expo (n : Nat) : Int := (max (expE n) 1 : Nat) - 1075
def tailB (k : Int) : List UInt8 := if 0 < k then [42, 50, 94] ++ Lib.itoa k else if k < 0 then [47, 50, 94] ++ Lib.itoa (-k) else []
def textB (n : Nat) : List UInt8 :=
  if classB n ≠ [] then classB n else signL n ++ Lib.decDigits (mant n / 2 ^ Lib.ctz 64 (mant n)) ++ tailB (expo n + (Lib.ctz 64 (mant n) : Nat))
structure Fin (n : Nat) : Prop where
  lt : n < 18446744073709551616
  pos : 0 < rungN n
  fin : rungN n < 9218868437227405312
theorem Fin.of {n : Nat} (hn : n < 18446744073709551616) (hc : classB n = []) : Fin n := by
  unfold classB at hc
  have hi := isNan_iff n
  cases hnan : isNan n with
  | true => rw [hnan] at hc; simp at hc
  | false =>
    rw [hnan] at hc hi
    have hi := of_decide_eq_false hi.symm
    simp only [Bool.false_eq_true, if_false] at hc
    by_cases h1 : rungN n = 9218868437227405312
    · rw [if_pos h1] at hc; split at hc <;> simp at hc
    · rw [if_neg h1] at hc
      by_cases h2 : rungN n = 0
      · rw [if_pos h2] at hc; split at hc <;> simp at hc
      · exact ⟨hn, by omega, by omega⟩
theorem Fin.mant {n : Nat} (f : Fin n) : mant n ≠ 0 ∧ mant n < 9007199254740992 := by
  obtain ⟨h1, h2, h3⟩ := f
  unfold Li.mant expE
  split <;> omega
theorem Fin.exp {n : Nat} (f : Fin n) : expE n ≤ 2046 := by
  obtain ⟨h1, h2, h3⟩ := f
  unfold expE; omega
theorem class_cases (n : Nat) : classB n = [] ∨ classB n = [110, 97, 110] ∨ classB n = [45, 105, 110, 102] ∨ classB n = [105, 110, 102] ∨ classB n = [45, 48] ∨ classB n = [48] := by
  unfold classB
  split
  · simp
  · split
    · split <;> simp
    · split
      · split <;> simp
      · simp
theorem mask_low {r : Nat} (hr : r < 18446744073709551616) : IntKind.wrap .u64 ((BitVec.ofInt IntKind.u64.bits (r : Int) &&& BitVec.ofInt IntKind.u64.bits 4503599627370495).toNat : Int) = ((r % 4503599627370496 : Nat) : Int) := by
  have h1 : (BitVec.ofInt IntKind.u64.bits (r : Int) &&& BitVec.ofInt IntKind.u64.bits 4503599627370495).toNat = r % 4503599627370496 := by
    show (BitVec.ofInt 64 (r : Int) &&& BitVec.ofInt 64 ((4503599627370495 : Nat) : Int)).toNat = _
    rw [BitVec.toNat_and, BitVec.ofInt_natCast, BitVec.ofInt_natCast, BitVec.toNat_ofNat, BitVec.toNat_ofNat, Nat.mod_eq_of_lt (by omega), Nat.mod_eq_of_lt (by omega)]
    exact Nat.and_two_pow_sub_one_eq_mod r 52
  rw [h1]
  exact wrap_u64 (by omega) (by omega)
theorem or_high {r : Nat} (hr : r < 4503599627370496) : IntKind.wrap .u64 ((BitVec.ofInt IntKind.u64.bits (r : Int) ||| BitVec.ofInt IntKind.u64.bits 4503599627370496).toNat : Int) = ((r + 4503599627370496 : Nat) : Int) := by
  have h1 : (BitVec.ofInt IntKind.u64.bits (r : Int) ||| BitVec.ofInt IntKind.u64.bits 4503599627370496).toNat = r + 4503599627370496 := by
    show (BitVec.ofInt 64 (r : Int) ||| BitVec.ofInt 64 ((4503599627370496 : Nat) : Int)).toNat = _
    rw [BitVec.toNat_or, BitVec.ofInt_natCast, BitVec.ofInt_natCast, BitVec.toNat_ofNat, BitVec.toNat_ofNat, Nat.mod_eq_of_lt (by omega), Nat.mod_eq_of_lt (by omega), Nat.or_comm]
    have := Nat.two_pow_add_eq_or_of_lt (i := 52) (b := r) hr 1
    rw [Nat.mul_one] at this
    rw [show (4503599627370496 : Nat) = 2 ^ 52 from rfl, ← this, Nat.add_comm]
  rw [h1]
  exact wrap_u64 (by omega) (by omega)
theorem fdiv_pow (m t : Nat) (ht : t < 64) : ((m : Nat) : Int).fdiv (2 ^ min ((t : Nat) : Int).toNat IntKind.u64.bits) = ((m / 2 ^ t : Nat) : Int) := by
  have : min ((t : Nat) : Int).toNat IntKind.u64.bits = t := by
    have : IntKind.u64.bits = 64 := rfl
    rw [this, Int.toNat_natCast]; omega
  rw [this]
  exact Int.fdiv_eq_ediv_of_nonneg _ (Int.pow_nonneg (by decide))
theorem text_no {h : Heap} {K : Value → Heap → Prop} (hK : K (strV [110, 97, 110]) h) : Ret env (.func 34) [.chan none] h K := by
  refine F34 rfl ?_
  repeat' (first | done | with_reducible (first | refine y1 ?_ (by omega) | refine y2 ?_ (by omega) | refine y3 (fun _ => ?_) (fun _ => ?_) | refine y4 ?_ (by omega) (by omega) | refine y5 ?_ (by omega) | refine y6 ?_ (by with_unfolding_all rfl) | refine y7 ?_ (by with_unfolding_all rfl) | refine y8 ?_ (by with_unfolding_all rfl) | refine y9 ?_ (by with_unfolding_all rfl) | refine ya ?_ (by with_unfolding_all rfl)) | (simp -dsimp only [↓cw_ops, ↓cw_seq, ↓seqK_normal, ↓getK_same, ↓getK_ne, ↓evK_tmp, ↓evK_string, ↓opsW_nil, ↓opsW_d, ↓opW_move, ↓opW_assign, ↓evs_nil, ↓evs_cons, ↓opW_call, ↓setAll_cons, ↓setAll_nil, ↓r34_42_w, ↓s34_43_w, ↓s34_44_w, ↓r34_45_w, ↓s34_46_w, ne_eq, Nat.reduceEqDiff, not_false_eq_true]))
  refine class_no ?_
  unfold strV at hK ⊢
  repeat' (first | done | with_reducible (first | refine y1 ?_ (by omega) | refine y2 ?_ (by omega) | refine y3 (fun _ => ?_) (fun _ => ?_) | refine y4 ?_ (by omega) (by omega) | refine y5 ?_ (by omega) | refine y6 ?_ (by with_unfolding_all rfl) | refine y7 ?_ (by with_unfolding_all rfl) | refine y8 ?_ (by with_unfolding_all rfl) | refine y9 ?_ (by with_unfolding_all rfl) | refine ya ?_ (by with_unfolding_all rfl)) | (simp -dsimp only [↓cw_skip, ↓cw_ops, ↓cw_seq, ↓cw_ret, ↓cw_cond, ↓seqK_normal, ↓seqK_ret, ↓getK_same, ↓getK_ne, ↓evK_tmp, ↓evK_string, ↓evK_float, ↓condV_var, ↓opsW_nil, ↓opsW_d, ↓opW_move, ↓opW_assign, ↓opW_bin, ↓resK_one, ↓setAll_cons, ↓setAll_nil, ↓bin_neqS, ↓r34_32_w, ↓s34_33_w, ↓s34_34_w, ↓r34_35_w, ↓s34_36_w, ↓r34_37_w, ↓s34_38_w, ↓s34_39_w, ↓r34_40_w, ↓s34_41_w, brK_true, brK_false, ne_eq, Nat.reduceEqDiff, not_false_eq_true, Bool.false_eq_true]))
  · rename_i he; exact absurd he (by decide)
  · exact hK
theorem text_tail {n : Nat} {h : Heap} {K : Value → Heap → Prop} {fr : Fr} {s : List UInt8} (f : Fin n) (hs : s.length ≤ 1) (ht : tabsOk tabs h = true) (hh : 2 < h.n) (g5 : fr.get 5 = some (.int .u64 (rungN n))) (g4 : fr.get 4 = some (strV s))
    (hK : ∀ h', ExtB h.n h h' → K (strV (s ++ Lib.decDigits (mant n / 2 ^ Lib.ctz 64 (mant n)) ++ tailB (expo n + (Lib.ctz 64 (mant n) : Nat)))) h') : s34_26.wp env 58 none fr h (resK env [.tmp 2] K) := by
  have g5' := g5
  have g4' := g4
  have g5 := getK_of g5
  have g4 := getK_of g4
  have hr : rungN n < 18446744073709551616 := by have := f.fin; omega
  have he := f.exp
  obtain ⟨hm0, hm⟩ := f.mant
  have c1 : (rungN n : Int).fdiv (2 ^ min (52 : Int).toNat IntKind.u64.bits) = (expE n : Int) := fdiv_pow (rungN n) 52 (by decide)
  have c2 : IntKind.wrap .i64 (expE n : Int) = (expE n : Int) := wrap_i64 (by omega) (by omega)
  have c3 : IntKind.wrap .i64 (max (expE n : Int) 1 - 1075) = expo n := by rw [wrap_i64 (by omega) (by omega)]; unfold expo; omega
  obtain ⟨mm, hodd, hct⟩ := ctz_odd hm0 (by omega)
  have c4 : IntKind.wrap .i64 (expo n + (Lib.ctz 64 (mant n) : Nat)) = expo n + (Lib.ctz 64 (mant n) : Nat) := by unfold expo; rw [wrap_i64 (by omega) (by omega)]
  have c5 := fdiv_pow (mant n) (Lib.ctz 64 (mant n)) hct
  have hq : mant n / 2 ^ Lib.ctz 64 (mant n) ≤ mant n := Nat.div_le_self _ _
  have c6 := mask_low hr
  have c7 := or_high (r := rungN n % 4503599627370496) (by omega)
  have hk1 : -1074 ≤ expo n ∧ expo n ≤ 971 := by unfold expo; omega
  have key : ∀ (fr : Fr), fr.get 5 = some (.int .u64 (mant n)) → fr.get 4 = some (strV s) → fr.get 6 = some (.int .i64 (expo n)) → s34_18.wp env 58 none fr h (resK env [.tmp 2] K) := by
    intro fr g5 g4 g6
    have g5 := getK_of g5
    have g4 := getK_of g4
    have g6 := getK_of g6
    unfold strV at g4 hK
    have hd := dec_le (u := mant n / 2 ^ Lib.ctz 64 (mant n)) (by omega)
    repeat' (first | done | with_reducible (first | refine y1 ?_ (by omega) | refine y2 ?_ (by omega) | refine y3 (fun _ => ?_) (fun _ => ?_) | refine y4 ?_ (by omega) (by omega) | refine y5 ?_ (by omega) | refine y6 ?_ (by with_unfolding_all rfl) | refine y7 ?_ (by with_unfolding_all rfl) | refine y8 ?_ (by with_unfolding_all rfl) | refine y9 ?_ (by with_unfolding_all rfl) | refine ya ?_ (by with_unfolding_all rfl)) | (simp -dsimp only [↓cw_ops, ↓cw_seq, ↓getK_same, ↓evK_tmp, ↓opsW_d, ↓opW_move, ↓evs_nil, ↓evs_cons, ↓opW_call, ↓r34_17_w, ↓s34_18_w, ↓g5]))
    refine tz_ret ht (by omega) ?_
    generalize Lib.ctz 64 (mant n) = t at *
    rw [Int.toNat_natCast] at c5
    generalize mant n / 2 ^ t = q at *
    repeat' (first | done | with_reducible (first | refine y1 ?_ (by omega) | refine y2 ?_ (by omega) | refine y3 (fun _ => ?_) (fun _ => ?_) | refine y4 ?_ (by omega) (by omega) | refine y5 ?_ (by omega) | refine y6 ?_ (by with_unfolding_all rfl) | refine y7 ?_ (by with_unfolding_all rfl) | refine y8 ?_ (by with_unfolding_all rfl) | refine y9 ?_ (by with_unfolding_all rfl) | refine ya ?_ (by with_unfolding_all rfl)) | (simp -dsimp only [↓cw_ops, ↓cw_seq, ↓seqK_normal, ↓getK_same, ↓getK_ne, ↓evK_tmp, ↓evK_int, ↓opsW_nil, ↓opsW_d, ↓opW_move, ↓opW_assign, ↓opW_bin, ↓bin_add, ↓bin_shr, ↓evs_nil, ↓evs_cons, ↓opW_call, ↓r34_13_w, ↓s34_14_w, ↓r34_15_w, ↓s34_16_w, ne_eq, Nat.reduceEqDiff, not_false_eq_true, Int.toNat_natCast, ↓g4, ↓g5, ↓g6, c5]))
    refine FormatUint_ret ht hh (by omega) fun h' X => ?_
    have n1 := X.n
    have ht' := tabs_ext hh X ht
    unfold decV
    by_cases hp : 0 < expo n + (t : Int)
    · have hl := Lib.itoa_length_le (expo n + (t : Int)) (by omega) (by omega)
      have htl : tailB (expo n + (t : Int)) = [42, 50, 94] ++ Lib.itoa (expo n + (t : Int)) := by unfold tailB; rw [if_pos hp]
      rw [htl] at hK
      repeat' (first | done | with_reducible (first | refine y1 ?_ (by omega) | refine y2 ?_ (by omega) | refine y3 (fun _ => ?_) (fun _ => ?_) | refine y4 ?_ (by omega) (by omega) | refine y5 ?_ (by omega) | refine y6 ?_ (by with_unfolding_all rfl) | refine y7 ?_ (by with_unfolding_all rfl) | refine y8 ?_ (by with_unfolding_all rfl) | refine y9 ?_ (by with_unfolding_all rfl) | refine ya ?_ (by with_unfolding_all rfl)) | (simp -dsimp only [↓cw_ops, ↓cw_seq, ↓cw_block, ↓cw_cond, ↓seqK_normal, ↓getK_same, ↓getK_ne, ↓evK_tmp, ↓evK_int, ↓evK_string, ↓condV_var, ↓opsW_nil, ↓opsW_d, ↓opW_move, ↓opW_assign, ↓opW_bin, ↓bin_gtr, ↓evs_nil, ↓evs_cons, ↓opW_call, ↓r34_2_w, ↓s34_3_w, ↓s34_9_w, ↓r34_10_w, ↓s34_11_w, ↓s34_12_w, List.length_cons, List.length_nil, brK_true, ne_eq, Nat.reduceEqDiff, Nat.reduceAdd, not_false_eq_true, c4, bin_addS, app_str, str_size, List.length_append]))
      refine Itoa_ret ht' (by omega) (by omega) (by omega) fun h2 X2 => ?_
      unfold itoaV
      repeat' (first | done | with_reducible (first | refine y1 ?_ (by omega) | refine y2 ?_ (by omega) | refine y3 (fun _ => ?_) (fun _ => ?_) | refine y4 ?_ (by omega) (by omega) | refine y5 ?_ (by omega) | refine y6 ?_ (by with_unfolding_all rfl) | refine y7 ?_ (by with_unfolding_all rfl) | refine y8 ?_ (by with_unfolding_all rfl) | refine y9 ?_ (by with_unfolding_all rfl) | refine ya ?_ (by with_unfolding_all rfl)) | (simp -dsimp only [↓cw_ret, ↓seqK_normal, ↓seqK_ret, ↓blockK_ret, ↓getK_same, ↓getK_ne, ↓evK_tmp, ↓opsW_nil, ↓opsW_d, ↓opW_assign, ↓opW_bin, ↓resK_one, List.length_cons, List.length_nil, ne_eq, Nat.reduceEqDiff, Nat.reduceAdd, not_false_eq_true, bin_addS, app_str, str_size, List.length_append]))
      have := hK h2 (X.trans (X2.mono n1))
      simpa [List.append_assoc] using this
    by_cases hng : expo n + (t : Int) < 0
    · have hl := Lib.itoa_length_le (-(expo n + (t : Int))) (by omega) (by omega)
      have htl : tailB (expo n + (t : Int)) = [47, 50, 94] ++ Lib.itoa (-(expo n + (t : Int))) := by unfold tailB; rw [if_neg hp, if_pos hng]
      rw [htl] at hK
      have c8 : IntKind.wrap .i64 (0 - (expo n + (t : Int))) = -(expo n + (t : Int)) := by rw [wrap_i64 (by omega) (by omega)]; omega
      repeat' (first | done | with_reducible (first | refine y1 ?_ (by omega) | refine y2 ?_ (by omega) | refine y3 (fun _ => ?_) (fun _ => ?_) | refine y4 ?_ (by omega) (by omega) | refine y5 ?_ (by omega) | refine y6 ?_ (by with_unfolding_all rfl) | refine y7 ?_ (by with_unfolding_all rfl) | refine y8 ?_ (by with_unfolding_all rfl) | refine y9 ?_ (by with_unfolding_all rfl) | refine ya ?_ (by with_unfolding_all rfl)) | (simp -dsimp only [↓cw_ops, ↓cw_seq, ↓cw_block, ↓cw_cond, ↓seqK_normal, ↓getK_same, ↓getK_ne, ↓evK_tmp, ↓evK_int, ↓evK_string, ↓condV_var, ↓opsW_nil, ↓opsW_d, ↓opW_move, ↓opW_assign, ↓opW_bin, ↓bin_lss, ↓bin_gtr, ↓evs_nil, ↓evs_cons, ↓opW_call, ↓opW_un, ↓un_neg, ↓r34_4_w, ↓s34_5_w, ↓s34_6_w, ↓r34_7_w, ↓s34_8_w, ↓s34_9_w, ↓r34_10_w, ↓s34_11_w, ↓s34_12_w, List.length_cons, List.length_nil, brK_true, brK_false, ne_eq, Nat.reduceEqDiff, Nat.reduceAdd, not_false_eq_true, Bool.false_eq_true,  c4, c8, bin_addS, app_str, str_size, List.length_append]))
      refine Itoa_ret ht' (by omega) (by omega) (by omega) fun h2 X2 => ?_
      unfold itoaV
      repeat' (first | done | with_reducible (first | refine y1 ?_ (by omega) | refine y2 ?_ (by omega) | refine y3 (fun _ => ?_) (fun _ => ?_) | refine y4 ?_ (by omega) (by omega) | refine y5 ?_ (by omega) | refine y6 ?_ (by with_unfolding_all rfl) | refine y7 ?_ (by with_unfolding_all rfl) | refine y8 ?_ (by with_unfolding_all rfl) | refine y9 ?_ (by with_unfolding_all rfl) | refine ya ?_ (by with_unfolding_all rfl)) | (simp -dsimp only [↓cw_ret, ↓seqK_normal, ↓seqK_ret, ↓blockK_ret, ↓getK_same, ↓getK_ne, ↓evK_tmp, ↓opsW_nil, ↓opsW_d, ↓opW_assign, ↓opW_bin, ↓resK_one, List.length_cons, List.length_nil, ne_eq, Nat.reduceEqDiff, Nat.reduceAdd, not_false_eq_true, bin_addS, app_str, str_size, List.length_append]))
      have := hK h2 (X.trans (X2.mono n1))
      simpa [List.append_assoc] using this
    · have htl : tailB (expo n + (t : Int)) = [] := by unfold tailB; rw [if_neg hp, if_neg hng]
      rw [htl] at hK
      repeat' (first | done | with_reducible (first | refine y1 ?_ (by omega) | refine y2 ?_ (by omega) | refine y3 (fun _ => ?_) (fun _ => ?_) | refine y4 ?_ (by omega) (by omega) | refine y5 ?_ (by omega) | refine y6 ?_ (by with_unfolding_all rfl) | refine y7 ?_ (by with_unfolding_all rfl) | refine y8 ?_ (by with_unfolding_all rfl) | refine y9 ?_ (by with_unfolding_all rfl) | refine ya ?_ (by with_unfolding_all rfl)) | (simp -dsimp only [↓cw_skip, ↓cw_ops, ↓cw_seq, ↓cw_block, ↓cw_ret, ↓cw_cond, ↓seqK_normal, ↓blockK_normal, ↓getK_same, ↓getK_ne, ↓evK_tmp, ↓evK_int, ↓condV_var, ↓opsW_nil, ↓opsW_d, ↓opW_move, ↓opW_assign, ↓opW_bin, ↓bin_lss, ↓bin_gtr, ↓resK_one, ↓r34_0_w, ↓s34_1_w, ↓s34_6_w, ↓r34_7_w, ↓s34_8_w, ↓s34_9_w, ↓r34_10_w, ↓s34_11_w, ↓s34_12_w, brK_false, ne_eq, Nat.reduceEqDiff, not_false_eq_true, Bool.false_eq_true,  c4, bin_addS, app_str, str_size]))
      have := hK h' X
      simpa using this
  by_cases hge : 4503599627370496 ≤ rungN n
  · have hmv : mant n = rungN n % 4503599627370496 + 4503599627370496 := by unfold mant expE; rw [if_neg (by omega)]
    repeat' (first | done | with_reducible (first | refine y1 ?_ (by omega) | refine y2 ?_ (by omega) | refine y3 (fun _ => ?_) (fun _ => ?_) | refine y4 ?_ (by omega) (by omega) | refine y5 ?_ (by omega) | refine y6 ?_ (by with_unfolding_all rfl) | refine y7 ?_ (by with_unfolding_all rfl) | refine y8 ?_ (by with_unfolding_all rfl) | refine y9 ?_ (by with_unfolding_all rfl) | refine ya ?_ (by with_unfolding_all rfl)) | (simp -dsimp only [↓cw_ops, ↓cw_seq, ↓cw_cond, ↓seqK_normal, ↓getK_same, ↓getK_ne, ↓evK_tmp, ↓evK_int, ↓condV_var, ↓opsW_nil, ↓opsW_d, ↓opW_move, ↓opW_assign, ↓opW_bin, ↓bin_sub, ↓bin_shr, ↓bin_geq, ↓cint_int, ↓bin_and, ↓opW_max, ↓max_int, ↓cv_23_3, ↓r34_19_w, ↓s34_20_w, ↓s34_21_w, ↓r34_22_w, ↓s34_23_w, ↓s34_24_w, ↓r34_25_w, ↓s34_26_w, brK_true, ne_eq, Nat.reduceEqDiff, not_false_eq_true, ↓g5, c1, c2, c3, c6, c7, bin_or]))
    exact key _ (by simp [T.get_set, hmv]) (by simp only [T.get_set]; simpa using g4') (by simp [T.get_set])
  · have hmv : mant n = rungN n := by unfold mant expE; rw [if_pos (by omega)]
    repeat' (first | done | with_reducible (first | refine y1 ?_ (by omega) | refine y2 ?_ (by omega) | refine y3 (fun _ => ?_) (fun _ => ?_) | refine y4 ?_ (by omega) (by omega) | refine y5 ?_ (by omega) | refine y6 ?_ (by with_unfolding_all rfl) | refine y7 ?_ (by with_unfolding_all rfl) | refine y8 ?_ (by with_unfolding_all rfl) | refine y9 ?_ (by with_unfolding_all rfl) | refine ya ?_ (by with_unfolding_all rfl)) | (simp -dsimp only [↓cw_skip, ↓cw_ops, ↓cw_seq, ↓cw_cond, ↓seqK_normal, ↓getK_same, ↓getK_ne, ↓evK_tmp, ↓evK_int, ↓condV_var, ↓opsW_nil, ↓opsW_d, ↓opW_move, ↓opW_assign, ↓opW_bin, ↓bin_sub, ↓bin_shr, ↓bin_geq, ↓cint_int, ↓opW_max, ↓max_int, ↓cv_23_3, ↓s34_21_w, ↓r34_22_w, ↓s34_23_w, ↓s34_24_w, ↓r34_25_w, ↓s34_26_w, brK_false, ne_eq, Nat.reduceEqDiff, not_false_eq_true, Bool.false_eq_true,  ↓g5, c1, c2, c3]))
    exact key _ (by simp only [T.get_set]; rw [hmv]; simpa using g5') (by simp only [T.get_set]; simpa using g4') (by simp [T.get_set])
theorem text_ret {n : Nat} {h : Heap} {K : Value → Heap → Prop} (hn : n < 18446744073709551616) (ht : tabsOk tabs h = true) (hh : 2 < h.n) (hK : ∀ h', ExtB h.n h h' → K (strV (textB n)) h') : Ret env (.func 34) [.float .f64 n] h K := by
  refine F34 rfl ?_
  repeat' (first | done | with_reducible (first | refine y1 ?_ (by omega) | refine y2 ?_ (by omega) | refine y3 (fun _ => ?_) (fun _ => ?_) | refine y4 ?_ (by omega) (by omega) | refine y5 ?_ (by omega) | refine y6 ?_ (by with_unfolding_all rfl) | refine y7 ?_ (by with_unfolding_all rfl) | refine y8 ?_ (by with_unfolding_all rfl) | refine y9 ?_ (by with_unfolding_all rfl) | refine ya ?_ (by with_unfolding_all rfl)) | (simp -dsimp only [↓cw_ops, ↓cw_seq, ↓seqK_normal, ↓getK_same, ↓getK_ne, ↓evK_tmp, ↓evK_string, ↓opsW_nil, ↓opsW_d, ↓opW_move, ↓opW_assign, ↓evs_nil, ↓evs_cons, ↓opW_call, ↓setAll_cons, ↓setAll_nil, ↓r34_42_w, ↓s34_43_w, ↓s34_44_w, ↓r34_45_w, ↓s34_46_w, ne_eq, Nat.reduceEqDiff, not_false_eq_true]))
  refine class_ret hn ?_
  by_cases hc : classB n = []
  · have f := Fin.of hn hc
    have o0 := ord_zero hn
    have hnan : isNan n = false := by
      have := isNan_iff n; rw [this]; have := f.fin; exact decide_eq_false (by omega)
    rw [hnan, if_neg (by decide), if_neg (by have := f.pos; omega)] at o0
    have e : (Ieee.double.order n 0 == some .lt) = negN n := by rw [o0]; cases negN n <;> rfl
    rw [hc]
    unfold strV
    have hx := neg_bits hn
    have hK2 : ∀ h', ExtB h.n h h' → K (strV (signL n ++ Lib.decDigits (mant n / 2 ^ Lib.ctz 64 (mant n)) ++ tailB (expo n + (Lib.ctz 64 (mant n) : Nat)))) h' := fun h' X => by
      have := hK h' X
      unfold textB at this
      rw [if_neg (by rw [hc]; simp)] at this
      exact this
    cases hg : negN n with
    | true =>
      rw [hg] at e
      have hxr : n ^^^ 9223372036854775808 = rungN n := by
        unfold negN at hg; have := of_decide_eq_true hg; rw [hx, if_pos this]; unfold rungN; omega
      have hsl : signL n = [45] := by unfold signL; rw [hg]; rfl
      rw [hsl] at hK2
      repeat' (first | done | with_reducible (first | refine y1 ?_ (by omega) | refine y2 ?_ (by omega) | refine y3 (fun _ => ?_) (fun _ => ?_) | refine y4 ?_ (by omega) (by omega) | refine y5 ?_ (by omega) | refine y6 ?_ (by with_unfolding_all rfl) | refine y7 ?_ (by with_unfolding_all rfl) | refine y8 ?_ (by with_unfolding_all rfl) | refine y9 ?_ (by with_unfolding_all rfl) | refine ya ?_ (by with_unfolding_all rfl)) | (simp -dsimp only [↓cw_skip, ↓cw_ops, ↓cw_seq, ↓cw_cond, ↓seqK_normal, ↓getK_same, ↓getK_ne, ↓evK_tmp, ↓evK_string, ↓evK_float, ↓condV_var, ↓opsW_nil, ↓opsW_d, ↓opW_move, ↓opW_assign, ↓opW_bin, ↓evs_nil, ↓evs_cons, ↓opW_call, ↓setAll_cons, ↓setAll_nil, ↓bin_neqS, ↓opW_un, ↓r34_27_w, ↓s34_28_w, ↓r34_29_w, ↓s34_30_w, ↓s34_31_w, ↓r34_32_w, ↓s34_33_w, ↓s34_34_w, ↓r34_35_w, ↓s34_36_w, ↓s34_39_w, ↓r34_40_w, ↓s34_41_w, brK_true, brK_false, ne_eq, Nat.reduceEqDiff, not_false_eq_true, Bool.false_eq_true,  bin_lssF, e, un_negF', hxr]))
      refine bits_fl ?_
      repeat' (first | done | with_reducible (first | refine y1 ?_ (by omega) | refine y2 ?_ (by omega) | refine y3 (fun _ => ?_) (fun _ => ?_) | refine y4 ?_ (by omega) (by omega) | refine y5 ?_ (by omega) | refine y6 ?_ (by with_unfolding_all rfl) | refine y7 ?_ (by with_unfolding_all rfl) | refine y8 ?_ (by with_unfolding_all rfl) | refine y9 ?_ (by with_unfolding_all rfl) | refine ya ?_ (by with_unfolding_all rfl)) | (simp -dsimp only [↓seqK_normal, ↓getK_same, ↓evK_tmp, ↓opsW_nil, ↓opsW_d, ↓opW_assign, ↓setAll_cons, ↓setAll_nil]))
      exact text_tail f (by simp) ht hh (by simp [T.get_set]) (by simp [T.get_set, strV]) hK2
    | false =>
      rw [hg] at e
      have hxr : n = rungN n := by
        unfold negN at hg; have := of_decide_eq_false hg; unfold rungN; omega
      have hsl : signL n = [] := by unfold signL; rw [hg]; rfl
      rw [hsl] at hK2
      repeat' (first | done | with_reducible (first | refine y1 ?_ (by omega) | refine y2 ?_ (by omega) | refine y3 (fun _ => ?_) (fun _ => ?_) | refine y4 ?_ (by omega) (by omega) | refine y5 ?_ (by omega) | refine y6 ?_ (by with_unfolding_all rfl) | refine y7 ?_ (by with_unfolding_all rfl) | refine y8 ?_ (by with_unfolding_all rfl) | refine y9 ?_ (by with_unfolding_all rfl) | refine ya ?_ (by with_unfolding_all rfl)) | (simp -dsimp only [↓cw_skip, ↓cw_ops, ↓cw_seq, ↓cw_cond, ↓seqK_normal, ↓getK_same, ↓getK_ne, ↓evK_tmp, ↓evK_string, ↓evK_float, ↓condV_var, ↓opsW_nil, ↓opsW_d, ↓opW_move, ↓opW_assign, ↓opW_bin, ↓evs_nil, ↓evs_cons, ↓opW_call, ↓setAll_cons, ↓setAll_nil, ↓bin_neqS, ↓r34_27_w, ↓s34_28_w, ↓s34_31_w, ↓r34_32_w, ↓s34_33_w, ↓s34_34_w, ↓r34_35_w, ↓s34_36_w, ↓s34_39_w, ↓r34_40_w, ↓s34_41_w, brK_true, brK_false, ne_eq, Nat.reduceEqDiff, not_false_eq_true, Bool.false_eq_true,  bin_lssF, e]))
      refine bits_fl ?_
      repeat' (first | done | with_reducible (first | refine y1 ?_ (by omega) | refine y2 ?_ (by omega) | refine y3 (fun _ => ?_) (fun _ => ?_) | refine y4 ?_ (by omega) (by omega) | refine y5 ?_ (by omega) | refine y6 ?_ (by with_unfolding_all rfl) | refine y7 ?_ (by with_unfolding_all rfl) | refine y8 ?_ (by with_unfolding_all rfl) | refine y9 ?_ (by with_unfolding_all rfl) | refine ya ?_ (by with_unfolding_all rfl)) | (simp -dsimp only [↓seqK_normal, ↓getK_same, ↓evK_tmp, ↓opsW_nil, ↓opsW_d, ↓opW_assign, ↓setAll_cons, ↓setAll_nil]))
      exact text_tail f (by simp) ht hh (by simp only [T.get_set]; rw [← hxr]; simp) (by simp [T.get_set, strV]) hK2
  · have hk := hK h (ExtB.refl _ _)
    unfold textB at hk
    rw [if_pos hc] at hk
    unfold strV at hk ⊢
    have hne : ¬ ((⟨(classB n).toArray⟩ : ByteArray) = ⟨⟨[]⟩⟩) := fun e => hc (by
      have := congrArg (fun b : ByteArray => b.data.toList) e
      simpa using this)
    repeat' (first | done | with_reducible (first | refine y1 ?_ (by omega) | refine y2 ?_ (by omega) | refine y3 (fun _ => ?_) (fun _ => ?_) | refine y4 ?_ (by omega) (by omega) | refine y5 ?_ (by omega) | refine y6 ?_ (by with_unfolding_all rfl) | refine y7 ?_ (by with_unfolding_all rfl) | refine y8 ?_ (by with_unfolding_all rfl) | refine y9 ?_ (by with_unfolding_all rfl) | refine ya ?_ (by with_unfolding_all rfl)) | (simp -dsimp only [↓cw_ops, ↓cw_seq, ↓cw_ret, ↓cw_cond, ↓seqK_normal, ↓seqK_ret, ↓getK_same, ↓getK_ne, ↓evK_tmp, ↓evK_string, ↓condV_var, ↓opsW_nil, ↓opsW_d, ↓opW_move, ↓opW_assign, ↓opW_bin, ↓resK_one, ↓bin_neqS, ↓r34_37_w, ↓s34_38_w, ↓s34_39_w, ↓r34_40_w, ↓s34_41_w, brK_true, ne_eq, Nat.reduceEqDiff, not_false_eq_true]))
    exact hk
end Go.Proofs.YtjcmcoabckkjoaaDoor.Li

