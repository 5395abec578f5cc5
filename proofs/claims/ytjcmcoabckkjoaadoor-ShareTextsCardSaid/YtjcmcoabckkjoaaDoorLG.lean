/- The reference's digits; the class of a number. Conditions: each theorem's own. -/
import Derived.Test.YtjcmcoabckkjoaaDoorZFb
import Derived.Lib.TrailingZeros
import Derived.Test.YtjcmcoabckkjoaaDoorLD
set_option linter.unusedSimpArgs false
set_option linter.unusedVariables false
/-! plain: how numbers stand to 0 and to the greatest one; odd parts -/
namespace Go.Ev
def rungN (n : Nat) : Nat := n % 9223372036854775808
def negN (n : Nat) : Bool := decide (9223372036854775808 ≤ n)
theorem lp : Ieee.double.leastPlace = -1074 := by decide +kernel
theorem bn : Ieee.double.binade = 4503599627370496 := by decide +kernel
theorem read_eq {n : Nat} (hn : n < 18446744073709551616) : Ieee.double.read n =
    if rungN n < 4503599627370496 then .number (negN n) (rungN n) (-1074)
    else if rungN n < 9218868437227405312 then .number (negN n) (4503599627370496 + rungN n % 4503599627370496) (-1074 + (rungN n / 4503599627370496 - 1 : Nat))
    else if rungN n = 9218868437227405312 then .infinity (negN n) else .nan (negN n) (rungN n - 9218868437227405312) := by
  have hs : (n / 9223372036854775808 % 2 == 1) = negN n := by
    unfold negN
    by_cases h : 9223372036854775808 ≤ n
    · have : n / 9223372036854775808 = 1 := by omega
      simp [this, h]
    · have : n / 9223372036854775808 = 0 := by omega
      simp [this, h]
  unfold Ieee.Format.read
  rw [sw, ir, lp, bn]
  simp only [hs]
  rfl
theorem isNan_iff (n : Nat) : isNan n = decide (9218868437227405312 < rungN n) := blt_eq _ _
theorem signed0 (s : Bool) (k : Nat) : Ieee.signed s 0 k = 0 := by cases s <;> simp [Ieee.signed]
theorem signed_up (s : Bool) (m : Nat) : Ieee.signed s m 0 = if s then -(m : Int) else (m : Int) := by cases s <;> simp [Ieee.signed]
theorem cmp_self (x : Int) : compare x x = .eq := by simp [compare, compareOfLessAndEq]
theorem cmp_lt {x y : Int} (h : x < y) : compare x y = .lt := by simp [compare, compareOfLessAndEq, h]
theorem cmp_gt {x y : Int} (h : y < x) : compare x y = .gt := by
  have h1 : ¬ x < y := by omega
  have h2 : x ≠ y := by omega
  simp [compare, compareOfLessAndEq, h1, h2]
/-- a number stands to itself -/
theorem ord_self {n : Nat} (hn : n < 18446744073709551616) : Ieee.double.order n n = if isNan n then none else some .eq := by
  unfold Ieee.Format.order
  rw [read_eq hn, isNan_iff]
  by_cases h1 : rungN n < 4503599627370496
  · rw [if_pos h1, if_neg (by simp; omega)]
    simp [Ieee.Datum.order, cmp_self]
  · rw [if_neg h1]
    by_cases h2 : rungN n < 9218868437227405312
    · rw [if_pos h2, if_neg (by simp; omega)]
      simp [Ieee.Datum.order, cmp_self]
    · rw [if_neg h2]
      by_cases h3 : rungN n = 9218868437227405312
      · rw [if_pos h3, if_neg (by simp; omega)]
        cases negN n <;> simp [Ieee.Datum.order] <;> rfl
      · rw [if_neg h3, if_pos (by simp; omega)]
        simp [Ieee.Datum.order]
theorem read_0 : Ieee.double.read 0 = .number false 0 (-1074) := by rw [read_eq (by decide)]; rfl
theorem ord_zero {n : Nat} (hn : n < 18446744073709551616) : Ieee.double.order n 0 = if isNan n then none else some (if rungN n = 0 then .eq else if negN n then .lt else .gt) := by
  unfold Ieee.Format.order
  rw [read_0, read_eq hn, isNan_iff]
  by_cases h1 : rungN n < 4503599627370496
  · rw [if_pos h1, if_neg (by simp; omega)]
    simp only [Ieee.Datum.order, Int.min_self, Int.sub_self, Int.toNat_zero, signed0, signed_up]
    by_cases h0 : rungN n = 0
    · rw [if_pos h0, h0]; cases negN n <;> simp [cmp_self]
    · rw [if_neg h0]
      cases negN n
      · simp only [Bool.false_eq_true, if_false]; rw [cmp_gt (by omega)]
      · simp only [if_true]; rw [cmp_lt (by omega)]
  · rw [if_neg h1]
    by_cases h2 : rungN n < 9218868437227405312
    · rw [if_pos h2, if_neg (by simp; omega), if_neg (by omega)]
      have hb : min (-1074 + ((rungN n / 4503599627370496 - 1 : Nat) : Int)) (-1074) = -1074 := by omega
      simp only [Ieee.Datum.order, hb, signed0]
      generalize hz : (4503599627370496 + rungN n % 4503599627370496) <<< (-1074 + ((rungN n / 4503599627370496 - 1 : Nat) : Int) - -1074).toNat = z
      have hp : 0 < z := by rw [← hz, Nat.shiftLeft_eq]; exact Nat.mul_pos (by omega) (Nat.two_pow_pos _)
      unfold Ieee.signed
      rw [hz]
      cases negN n
      · simp only [Bool.false_eq_true, if_false]; rw [cmp_gt (by omega)]
      · simp only [if_true]; rw [cmp_lt (by omega)]
    · rw [if_neg h2]
      by_cases h3 : rungN n = 9218868437227405312
      · rw [if_pos h3, if_neg (by simp; omega), if_neg (by omega)]
        simp [Ieee.Datum.order]
      · rw [if_neg h3, if_pos (by simp; omega)]
        simp [Ieee.Datum.order]
theorem read_max : Ieee.double.read 9218868437227405311 = .number false 9007199254740991 971 := by rw [read_eq (by decide)]; rfl
theorem ord_max {n : Nat} (hn : n < 18446744073709551616) : (Ieee.double.order n 9218868437227405311 == some .gt) = decide (n = 9218868437227405312) := by
  unfold Ieee.Format.order
  rw [read_max, read_eq hn]
  have key : ∀ (s : Bool) (m : Nat) (i : Int), m ≤ 9007199254740991 → i ≤ 971 → (Ieee.Datum.order (.number s m i) (.number false 9007199254740991 971) == some .gt) = false := by
    intro s m i hm hi
    have hb : min i 971 = i := by omega
    simp only [Ieee.Datum.order, hb, Int.sub_self, Int.toNat_zero, signed_up]
    have hup : (9007199254740991 : Int) ≤ Ieee.signed false 9007199254740991 (971 - i).toNat := by
      unfold Ieee.signed
      simp only [Bool.false_eq_true, if_false, Nat.shiftLeft_eq]
      have : 9007199254740991 ≤ 9007199254740991 * 2 ^ (971 - i).toNat := Nat.le_mul_of_pos_right _ (Nat.two_pow_pos _)
      omega
    generalize Ieee.signed false 9007199254740991 (971 - i).toNat = z at hup
    cases s
    · simp only [Bool.false_eq_true, if_false]
      by_cases h : (m : Int) = z
      · rw [h, cmp_self]; rfl
      · rw [cmp_lt (by omega)]; rfl
    · simp only [if_true]; rw [cmp_lt (by omega)]; rfl
  by_cases h1 : rungN n < 4503599627370496
  · rw [if_pos h1, key _ _ _ (by omega) (by omega)]
    unfold rungN at h1
    exact (decide_eq_false (by omega)).symm
  · rw [if_neg h1]
    by_cases h2 : rungN n < 9218868437227405312
    · rw [if_pos h2, key _ _ _ (by omega) (by omega)]
      unfold rungN at h2
      exact (decide_eq_false (by omega)).symm
    · rw [if_neg h2]
      by_cases h3 : rungN n = 9218868437227405312
      · rw [if_pos h3]
        unfold rungN at h3
        cases hg : negN n
        · have : n = 9218868437227405312 := by unfold negN at hg; simp at hg; omega
          rw [decide_eq_true this]; rfl
        · have : n ≠ 9218868437227405312 := by unfold negN at hg; simp at hg; omega
          rw [decide_eq_false this]; rfl
      · rw [if_neg h3]
        unfold rungN at h3
        have : n ≠ 9218868437227405312 := by omega
        rw [decide_eq_false this]; rfl
theorem neg_bits {n : Nat} (hn : n < 18446744073709551616) : n ^^^ 9223372036854775808 = if 9223372036854775808 ≤ n then n - 9223372036854775808 else n + 9223372036854775808 := by
  have h2 : (9223372036854775808 : Nat) = 2 ^ 63 := rfl
  rw [h2] at *
  apply Nat.eq_of_testBit_eq
  intro i
  rw [Nat.testBit_xor, Nat.testBit_two_pow]
  by_cases hc : 2 ^ 63 ≤ n
  · rw [if_pos hc]
    obtain ⟨r, rfl⟩ : ∃ r, n = 2 ^ 63 + r := ⟨n - 2 ^ 63, by omega⟩
    have hr : r < 2 ^ 63 := by omega
    rw [Nat.add_sub_cancel_left]
    by_cases hi : 63 = i
    · subst hi
      rw [Nat.testBit_two_pow_add_eq, Nat.testBit_lt_two_pow hr]; simp
    · simp only [hi, decide_false, Bool.xor_false]
      by_cases hlt : i < 63
      · rw [Nat.testBit_two_pow_add_gt hlt]
      · rw [Nat.testBit_lt_two_pow (show 2 ^ 63 + r < 2 ^ i from Nat.lt_of_lt_of_le (by omega : 2 ^ 63 + r < 2 ^ 64) (Nat.pow_le_pow_right (by decide) (by omega))),
          Nat.testBit_lt_two_pow (show r < 2 ^ i from Nat.lt_of_lt_of_le (by omega : r < 2 ^ 64) (Nat.pow_le_pow_right (by decide) (by omega)))]
  · rw [if_neg hc, Nat.add_comm]
    have hr : n < 2 ^ 63 := by omega
    by_cases hi : 63 = i
    · subst hi
      rw [Nat.testBit_two_pow_add_eq, Nat.testBit_lt_two_pow hr]; simp
    · simp only [hi, decide_false, Bool.xor_false]
      by_cases hlt : i < 63
      · rw [Nat.testBit_two_pow_add_gt hlt]
      · rw [Nat.testBit_lt_two_pow (show 2 ^ 63 + n < 2 ^ i from Nat.lt_of_lt_of_le (by omega : 2 ^ 63 + n < 2 ^ 64) (Nat.pow_le_pow_right (by decide) (by omega))),
          Nat.testBit_lt_two_pow (show n < 2 ^ i from Nat.lt_of_lt_of_le (by omega : n < 2 ^ 64) (Nat.pow_le_pow_right (by decide) (by omega)))]
/-! odd parts -/
theorem ctz_pos {x : Nat} (h0 : x ≠ 0) : Lib.ctz 64 x = Lib.ctzFrom 64 x := by unfold Lib.ctz; rw [if_neg h0]
theorem ctz_odd {x : Nat} (h0 : x ≠ 0) (hx : x < 18446744073709551616) : ∃ m, x = 2 ^ Lib.ctz 64 x * (2 * m + 1) ∧ Lib.ctz 64 x < 64 := by
  rw [ctz_pos h0]; exact Lib.ctzFrom_spec 64 x (by omega) hx
theorem ctz_even {x j : Nat} (h0 : x ≠ 0) (hx : x < 18446744073709551616) (hj : j < Lib.ctz 64 x) : x / 2 ^ j % 2 = 0 := by
  obtain ⟨m, hm, _⟩ := ctz_odd h0 hx
  generalize Lib.ctz 64 x = t at hm hj
  subst hm
  obtain ⟨d, rfl⟩ : ∃ d, t = j + (d + 1) := ⟨t - j - 1, by omega⟩
  rw [Nat.pow_add, Nat.mul_assoc, Nat.mul_div_cancel_left _ (Nat.two_pow_pos _), Nat.pow_succ, Nat.mul_comm (2 ^ d) 2, Nat.mul_assoc]
  omega
theorem ctz_end {x : Nat} (h0 : x ≠ 0) (hx : x < 18446744073709551616) : x / 2 ^ Lib.ctz 64 x % 2 = 1 := by
  obtain ⟨m, hm, _⟩ := ctz_odd h0 hx
  have : x / 2 ^ Lib.ctz 64 x = 2 * m + 1 := by
    generalize Lib.ctz 64 x = t at hm
    rw [hm, Nat.mul_div_cancel_left _ (Nat.two_pow_pos _)]
  omega
end Go.Ev

namespace Go.Proofs.YtjcmcoabckkjoaaDoor.Li
open Go.Ev
set_option maxRecDepth 100000
set_option maxHeartbeats 400000
theorem nan_fl {n : Nat} {h : Heap} {K : Value → Heap → Prop} (hn : n < 18446744073709551616) (hK : K (.bool (isNan n)) h) : Ret env (.func 19) [.float .f64 n] h K := by
  refine Ret.ext (v := .bool (isNan n)) ?_ hK
  show extNan 19 (extFl 18 10 fun _ _ _ => none) 19 [.float .f64 n] h = _
  have : Nat.blt n 18446744073709551616 = true := by rw [blt_eq]; exact decide_eq_true hn
  simp only [extNan, Nat.beq_refl, cond_true, this]
theorem nan_no {h : Heap} {K : Value → Heap → Prop} (hK : K (.bool true) h) : Ret env (.func 19) [.chan none] h K := Ret.ext (v := .bool true) rfl hK
theorem bits_fl {n : Nat} {h : Heap} {K : Value → Heap → Prop} (hK : K (.int .u64 n) h) : Ret env (.func 18) [.float .f64 n] h K := Ret.ext (v := .int .u64 n) rfl hK
theorem from_u {n : Int} {h : Heap} {K : Value → Heap → Prop} (hK : K (.float .f64 n.toNat) h) : Ret env (.func 10) [.int .u64 n] h K := Ret.ext (v := .float .f64 n.toNat) rfl hK
def strV (l : List UInt8) : Value := .string ⟨l.toArray⟩
theorem decV_def (u : Nat) : decV u = strV (Lib.decDigits u) := rfl
theorem itoaV_def (n : Int) : itoaV n = strV (Lib.itoa n) := rfl
theorem dec_le {u : Nat} (hu : u < 18446744073709551616) : (Lib.decDigits u).length ≤ 20 := by
  rw [Lib.decDigits_length]
  by_cases h : u = 0
  · subst h; rw [Lib.nDigits_small (by decide)]; decide
  · exact nd_le (by omega) hu
/-! the reference's digits -/
theorem digit_val {d : Nat} (hd : d < 10) : Value.int .u8 (IntKind.wrap .u8 (IntKind.wrap .u64 (48 + (d : Int)))) = byteV (UInt8.ofNat (48 + d)) := by
  have h1 : IntKind.wrap .u64 (48 + (d : Int)) = ((48 + d : Nat) : Int) := by rw [wrap_u64 (by omega) (by omega)]; omega
  have h2 : IntKind.wrap .u8 ((48 + d : Nat) : Int) = ((48 + d : Nat) : Int) := wrap_u8 (by omega) (by omega)
  have h3 : (UInt8.ofNat (48 + d)).toNat = 48 + d := by simp; omega
  rw [h1, h2]; unfold byteV; rw [h3]
theorem conv879 : isBytes env 87 9 = true := by kernel_rfl
theorem digit_str {d : Nat} {h : Heap} {K : Value → Prop} (hd : d < 10) (q : K (strV [UInt8.ofNat (48 + d)])) :
    bstrK (newBlk h (.cells (Value.int .u8 (IntKind.wrap .u8 (IntKind.wrap .u64 (48 + (d : Int))))).cells.toList 5 true)) (.slice (some ⟨h.n, 0, none⟩) 1 1) K := by
  refine bstr_of (l := [UInt8.ofNat (48 + d)]) ?_ q
  rw [digit_val hd]
  exact cellsAt_newE rfl
theorem dec_small {u : Nat} (h : u < 10) : Lib.decDigits u = [UInt8.ofNat (48 + u)] := by rw [Lib.decDigits, dif_pos h]
theorem dec_big {u : Nat} (h : ¬ u < 10) : Lib.decDigits u = Lib.decDigits (u / 10) ++ [UInt8.ofNat (48 + u % 10)] := by rw [Lib.decDigits, dif_neg h]
theorem big_ret : ∀ (k : Nat) {u : Nat} {h : Heap} {K : Value → Heap → Prop}, u ≤ k → u < 18446744073709551616 → (∀ h', ExtB h.n h h' → K (strV (Lib.decDigits u)) h') → Ret env (.func 53) [.int .u64 u] h K := by
  intro k
  induction k with
  | zero =>
    intro u h K hk hu hK
    obtain rfl : u = 0 := by omega
    refine F53 rfl ?_
    rw [dec_small (by decide)] at hK
    repeat' (first | done | ((with_reducible refine brK_yes ?_ ?_); (· omega)) | ((with_reducible refine brK_no ?_ ?_); (· omega)) | (with_reducible refine brK_both (fun _ => ?_) (fun _ => ?_)) | ((with_reducible refine And.intro (And.intro ?_ ?_) ?_); (· omega); (· omega)) | ((with_reducible refine And.intro ?_ ?_); (· omega)) | (with_reducible refine And.intro (show List.all _ oneCell = true from rfl) ?_) | ((with_reducible refine st_newM ?_ ?_); (· rfl)) | ((with_reducible refine bs_oneM ?_ ?_); (· rfl)) | (with_reducible refine bd_of (by with_unfolding_all (simp only [fillL_cons, fillL_nil, nth_eq, blt_eq, cond_beq, over, Value.cells, List.getElem?_cons_zero, List.getElem?_cons_succ, List.length_cons, List.length_nil, Nat.reduceAdd, Nat.reduceSub, Nat.reduceLT, Nat.reduceEqDiff, decide_true, cond_true, Option.map_some, if_true, if_false, Nat.add_one_sub_one, Nat.succ_ne_zero, reduceCtorEq, OfNat.ofNat]; rfl)) ?_) | (with_reducible refine bda_of (by with_unfolding_all rfl) ?_) | (simp -dsimp only [↓cw_ops, ↓cw_seq, ↓cw_cond, ↓seqK_normal, ↓getK_same, ↓getK_ne, ↓evK_tmp, ↓evK_int, ↓evK_string, ↓condV_var, ↓opsW_nil, ↓opsW_d, ↓opW_move, ↓opW_assign, ↓opW_bin, ↓bin_add, ↓bin_lss, ↓setAll_cons, ↓setAll_nil, ↓evp_nil, ↓evp_cons, ↓cint_int, ↓cv_23_5, ↓bsl_87_1, ↓cv_87_9, ↓r53_2_w, ↓s53_3_w, ↓s53_4_w, ↓r53_5_w, ↓s53_6_w, ↓s53_7_w, ↓r53_8_w, ↓s53_9_w, brK_true, ne_eq, Nat.reduceEqDiff, not_false_eq_true]))
    refine digit_str (by decide) ?_
    unfold strV at hK ⊢
    repeat' (first | done | ((with_reducible refine brK_yes ?_ ?_); (· omega)) | ((with_reducible refine brK_no ?_ ?_); (· omega)) | (with_reducible refine brK_both (fun _ => ?_) (fun _ => ?_)) | ((with_reducible refine And.intro (And.intro ?_ ?_) ?_); (· omega); (· omega)) | ((with_reducible refine And.intro ?_ ?_); (· omega)) | (with_reducible refine And.intro (show List.all _ oneCell = true from rfl) ?_) | ((with_reducible refine st_newM ?_ ?_); (· rfl)) | ((with_reducible refine bs_oneM ?_ ?_); (· rfl)) | (with_reducible refine bd_of (by with_unfolding_all (simp only [fillL_cons, fillL_nil, nth_eq, blt_eq, cond_beq, over, Value.cells, List.getElem?_cons_zero, List.getElem?_cons_succ, List.length_cons, List.length_nil, Nat.reduceAdd, Nat.reduceSub, Nat.reduceLT, Nat.reduceEqDiff, decide_true, cond_true, Option.map_some, if_true, if_false, Nat.add_one_sub_one, Nat.succ_ne_zero, reduceCtorEq, OfNat.ofNat]; rfl)) ?_) | (with_reducible refine bda_of (by with_unfolding_all rfl) ?_) | (simp -dsimp only [↓cw_ret, ↓seqK_normal, ↓seqK_ret, ↓getK_same, ↓evK_tmp, ↓opsW_nil, ↓opsW_d, ↓opW_assign, ↓resK_one, Nat.add_zero]))
    exact hK _ (ExtB.new _ (Nat.le_refl _))
  | succ k ih =>
    intro u h K hk hu hK
    refine F53 rfl ?_
    by_cases h10 : u < 10
    · rw [dec_small h10] at hK
      repeat' (first | done | ((with_reducible refine brK_yes ?_ ?_); (· omega)) | ((with_reducible refine brK_no ?_ ?_); (· omega)) | (with_reducible refine brK_both (fun _ => ?_) (fun _ => ?_)) | ((with_reducible refine And.intro (And.intro ?_ ?_) ?_); (· omega); (· omega)) | ((with_reducible refine And.intro ?_ ?_); (· omega)) | (with_reducible refine And.intro (show List.all _ oneCell = true from rfl) ?_) | ((with_reducible refine st_newM ?_ ?_); (· rfl)) | ((with_reducible refine bs_oneM ?_ ?_); (· rfl)) | (with_reducible refine bd_of (by with_unfolding_all (simp only [fillL_cons, fillL_nil, nth_eq, blt_eq, cond_beq, over, Value.cells, List.getElem?_cons_zero, List.getElem?_cons_succ, List.length_cons, List.length_nil, Nat.reduceAdd, Nat.reduceSub, Nat.reduceLT, Nat.reduceEqDiff, decide_true, cond_true, Option.map_some, if_true, if_false, Nat.add_one_sub_one, Nat.succ_ne_zero, reduceCtorEq, OfNat.ofNat]; rfl)) ?_) | (with_reducible refine bda_of (by with_unfolding_all rfl) ?_) | (simp -dsimp only [↓cw_ops, ↓cw_seq, ↓cw_cond, ↓seqK_normal, ↓getK_same, ↓getK_ne, ↓evK_tmp, ↓evK_int, ↓evK_string, ↓condV_var, ↓opsW_nil, ↓opsW_d, ↓opW_move, ↓opW_assign, ↓opW_bin, ↓bin_add, ↓bin_lss, ↓setAll_cons, ↓setAll_nil, ↓evp_nil, ↓evp_cons, ↓cint_int, ↓cv_23_5, ↓bsl_87_1, ↓cv_87_9, ↓r53_2_w, ↓s53_3_w, ↓s53_4_w, ↓r53_5_w, ↓s53_6_w, ↓s53_7_w, ↓r53_8_w, ↓s53_9_w, brK_true, ne_eq, Nat.reduceEqDiff, not_false_eq_true]))
      refine digit_str h10 ?_
      unfold strV at hK ⊢
      repeat' (first | done | ((with_reducible refine brK_yes ?_ ?_); (· omega)) | ((with_reducible refine brK_no ?_ ?_); (· omega)) | (with_reducible refine brK_both (fun _ => ?_) (fun _ => ?_)) | ((with_reducible refine And.intro (And.intro ?_ ?_) ?_); (· omega); (· omega)) | ((with_reducible refine And.intro ?_ ?_); (· omega)) | (with_reducible refine And.intro (show List.all _ oneCell = true from rfl) ?_) | ((with_reducible refine st_newM ?_ ?_); (· rfl)) | ((with_reducible refine bs_oneM ?_ ?_); (· rfl)) | (with_reducible refine bd_of (by with_unfolding_all (simp only [fillL_cons, fillL_nil, nth_eq, blt_eq, cond_beq, over, Value.cells, List.getElem?_cons_zero, List.getElem?_cons_succ, List.length_cons, List.length_nil, Nat.reduceAdd, Nat.reduceSub, Nat.reduceLT, Nat.reduceEqDiff, decide_true, cond_true, Option.map_some, if_true, if_false, Nat.add_one_sub_one, Nat.succ_ne_zero, reduceCtorEq, OfNat.ofNat]; rfl)) ?_) | (with_reducible refine bda_of (by with_unfolding_all rfl) ?_) | (simp -dsimp only [↓cw_ret, ↓seqK_normal, ↓seqK_ret, ↓getK_same, ↓evK_tmp, ↓opsW_nil, ↓opsW_d, ↓opW_assign, ↓resK_one]))
      exact hK _ (ExtB.new _ (Nat.le_refl _))
    · rw [dec_big h10] at hK
      have e1 : (u : Int).tmod 10 = ((u % 10 : Nat) : Int) := rfl
      have e2 : (u : Int).tdiv 10 = ((u / 10 : Nat) : Int) := rfl
      have e3 : IntKind.wrap .u64 ((u / 10 : Nat) : Int) = ((u / 10 : Nat) : Int) := wrap_u64 (by omega) (by omega)
      repeat' (first | done | ((with_reducible refine brK_yes ?_ ?_); (· omega)) | ((with_reducible refine brK_no ?_ ?_); (· omega)) | (with_reducible refine brK_both (fun _ => ?_) (fun _ => ?_)) | ((with_reducible refine And.intro (And.intro ?_ ?_) ?_); (· omega); (· omega)) | ((with_reducible refine And.intro ?_ ?_); (· omega)) | (with_reducible refine And.intro (show List.all _ oneCell = true from rfl) ?_) | ((with_reducible refine st_newM ?_ ?_); (· rfl)) | ((with_reducible refine bs_oneM ?_ ?_); (· rfl)) | (with_reducible refine bd_of (by with_unfolding_all (simp only [fillL_cons, fillL_nil, nth_eq, blt_eq, cond_beq, over, Value.cells, List.getElem?_cons_zero, List.getElem?_cons_succ, List.length_cons, List.length_nil, Nat.reduceAdd, Nat.reduceSub, Nat.reduceLT, Nat.reduceEqDiff, decide_true, cond_true, Option.map_some, if_true, if_false, Nat.add_one_sub_one, Nat.succ_ne_zero, reduceCtorEq, OfNat.ofNat]; rfl)) ?_) | (with_reducible refine bda_of (by with_unfolding_all rfl) ?_) | (simp -dsimp only [↓cw_skip, ↓cw_ops, ↓cw_plan, ↓cw_seq, ↓cw_cond, ↓seqK_normal, ↓getK_same, ↓getK_ne, ↓evK_tmp, ↓evK_int, ↓evK_string, ↓condV_var, ↓opsW_nil, ↓opsW_d, ↓planW_d, ↓agK_nil, ↓opW_move, ↓opW_assign, ↓opW_bin, ↓bin_add, ↓bin_quo, ↓bin_rem, ↓bin_lss, ↓setAll_cons, ↓setAll_nil, ↓evp_nil, ↓evp_cons, ↓cint_int, ↓cv_23_5, ↓bsl_87_1, ↓cv_87_9, ↓p53_0_w, ↓s53_1_w, ↓s53_4_w, ↓r53_5_w, ↓s53_6_w, ↓s53_7_w, ↓r53_8_w, ↓s53_9_w, newBlk_n, brK_false, Nat.le_refl, true_and, ne_eq, Nat.reduceEqDiff, not_false_eq_true, Bool.false_eq_true,  e1]))
      refine digit_str (by omega) ?_
      repeat' (first | done | ((with_reducible refine brK_yes ?_ ?_); (· omega)) | ((with_reducible refine brK_no ?_ ?_); (· omega)) | (with_reducible refine brK_both (fun _ => ?_) (fun _ => ?_)) | ((with_reducible refine And.intro (And.intro ?_ ?_) ?_); (· omega); (· omega)) | ((with_reducible refine And.intro ?_ ?_); (· omega)) | (with_reducible refine And.intro (show List.all _ oneCell = true from rfl) ?_) | ((with_reducible refine st_newM ?_ ?_); (· rfl)) | ((with_reducible refine bs_oneM ?_ ?_); (· rfl)) | (with_reducible refine bd_of (by with_unfolding_all (simp only [fillL_cons, fillL_nil, nth_eq, blt_eq, cond_beq, over, Value.cells, List.getElem?_cons_zero, List.getElem?_cons_succ, List.length_cons, List.length_nil, Nat.reduceAdd, Nat.reduceSub, Nat.reduceLT, Nat.reduceEqDiff, decide_true, cond_true, Option.map_some, if_true, if_false, Nat.add_one_sub_one, Nat.succ_ne_zero, reduceCtorEq, OfNat.ofNat]; rfl)) ?_) | (with_reducible refine bda_of (by with_unfolding_all rfl) ?_) | (simp -dsimp only [↓getK_same, ↓getK_ne, ↓evK_tmp, ↓planW_d, ↓agK_nil, ↓evs_nil, ↓evs_cons, ↓opW_call, true_and, ne_eq, Nat.reduceEqDiff, not_false_eq_true, e2, e3]))
      refine ih (by omega) (by omega) fun h' X => ?_
      have hd := dec_le (u := u / 10) (by omega)
      unfold strV at hK ⊢
      have n1 := X.n
      refine ⟨n1, ?_, ?_⟩
      · repeat' (first | done | ((with_reducible refine brK_yes ?_ ?_); (· omega)) | ((with_reducible refine brK_no ?_ ?_); (· omega)) | (with_reducible refine brK_both (fun _ => ?_) (fun _ => ?_)) | ((with_reducible refine And.intro (And.intro ?_ ?_) ?_); (· omega); (· omega)) | ((with_reducible refine And.intro ?_ ?_); (· omega)) | (with_reducible refine And.intro (show List.all _ oneCell = true from rfl) ?_) | ((with_reducible refine st_newM ?_ ?_); (· rfl)) | ((with_reducible refine bs_oneM ?_ ?_); (· rfl)) | (with_reducible refine bd_of (by with_unfolding_all (simp only [fillL_cons, fillL_nil, nth_eq, blt_eq, cond_beq, over, Value.cells, List.getElem?_cons_zero, List.getElem?_cons_succ, List.length_cons, List.length_nil, Nat.reduceAdd, Nat.reduceSub, Nat.reduceLT, Nat.reduceEqDiff, decide_true, cond_true, Option.map_some, if_true, if_false, Nat.add_one_sub_one, Nat.succ_ne_zero, reduceCtorEq, OfNat.ofNat]; rfl)) ?_) | (with_reducible refine bda_of (by with_unfolding_all rfl) ?_) | (simp -dsimp only [↓getK_same, ↓getK_ne, ↓evK_tmp, ↓agK_nil, ↓setAll_cons, ↓setAll_nil, and_true, ne_eq, Nat.reduceEqDiff, not_false_eq_true, agK_bstr conv879]))
        refine bstr_of (l := [UInt8.ofNat (48 + u % 10)]) ?_ ?_
        · have hc := cellsAt_ext (b := h.n) (off := 0) (n := 1) X (by simp [newBlk]) (cellsAt_newE (h := h) (cs := (Value.int .u8 (IntKind.wrap .u8 (IntKind.wrap .u64 (48 + ((u % 10 : Nat) : Int))))).cells.toList) (e := 5) (b := true) rfl)
          rw [hc, digit_val (by omega)]; rfl
        · repeat' (first | done | ((with_reducible refine brK_yes ?_ ?_); (· omega)) | ((with_reducible refine brK_no ?_ ?_); (· omega)) | (with_reducible refine brK_both (fun _ => ?_) (fun _ => ?_)) | ((with_reducible refine And.intro (And.intro ?_ ?_) ?_); (· omega); (· omega)) | ((with_reducible refine And.intro ?_ ?_); (· omega)) | (with_reducible refine And.intro (show List.all _ oneCell = true from rfl) ?_) | ((with_reducible refine st_newM ?_ ?_); (· rfl)) | ((with_reducible refine bs_oneM ?_ ?_); (· rfl)) | (with_reducible refine bd_of (by with_unfolding_all (simp only [fillL_cons, fillL_nil, nth_eq, blt_eq, cond_beq, over, Value.cells, List.getElem?_cons_zero, List.getElem?_cons_succ, List.length_cons, List.length_nil, Nat.reduceAdd, Nat.reduceSub, Nat.reduceLT, Nat.reduceEqDiff, decide_true, cond_true, Option.map_some, if_true, if_false, Nat.add_one_sub_one, Nat.succ_ne_zero, reduceCtorEq, OfNat.ofNat]; rfl)) ?_) | (with_reducible refine bda_of (by with_unfolding_all rfl) ?_) | (simp -dsimp only [↓agV_same, ↓agV_ne, ne_eq, Nat.reduceEqDiff, not_false_eq_true, same_str]))
      repeat' (first | done | ((with_reducible refine brK_yes ?_ ?_); (· omega)) | ((with_reducible refine brK_no ?_ ?_); (· omega)) | (with_reducible refine brK_both (fun _ => ?_) (fun _ => ?_)) | ((with_reducible refine And.intro (And.intro ?_ ?_) ?_); (· omega); (· omega)) | ((with_reducible refine And.intro ?_ ?_); (· omega)) | (with_reducible refine And.intro (show List.all _ oneCell = true from rfl) ?_) | ((with_reducible refine st_newM ?_ ?_); (· rfl)) | ((with_reducible refine bs_oneM ?_ ?_); (· rfl)) | (with_reducible refine bd_of (by with_unfolding_all (simp only [fillL_cons, fillL_nil, nth_eq, blt_eq, cond_beq, over, Value.cells, List.getElem?_cons_zero, List.getElem?_cons_succ, List.length_cons, List.length_nil, Nat.reduceAdd, Nat.reduceSub, Nat.reduceLT, Nat.reduceEqDiff, decide_true, cond_true, Option.map_some, if_true, if_false, Nat.add_one_sub_one, Nat.succ_ne_zero, reduceCtorEq, OfNat.ofNat]; rfl)) ?_) | (with_reducible refine bda_of (by with_unfolding_all rfl) ?_) | (simp -dsimp only [↓cw_ret, ↓seqK_normal, ↓getK_same, ↓getK_ne, ↓evK_tmp, ↓planW_nil, ↓planW_d, ↓agK_nil, ↓opW_assign, ↓opW_bin, ↓resK_one, List.length_cons, List.length_nil, Nat.le_refl, true_and, ne_eq, Nat.reduceEqDiff, Nat.reduceAdd, not_false_eq_true, bin_addS, app_str, str_size]))
      exact hK _ ((ExtB.new _ (Nat.le_refl _)).trans (X.mono (by simp [newBlk])))
/-! the reference's whole numbers -/
theorem num_ret {n : Int} {h : Heap} {K : Value → Heap → Prop} (b0 : -9223372036854775808 ≤ n) (b1 : n ≤ 9223372036854775807) (hK : ∀ h', ExtB h.n h h' → K (strV (Lib.itoa n)) h') : Ret env (.func 52) [.int .i64 n] h K := by
  refine F52 rfl ?_
  by_cases hneg : n < 0
  · obtain ⟨u, rfl⟩ : ∃ u : Nat, n = -(u : Int) := ⟨n.natAbs, by omega⟩
    rw [Lib.itoa_neg u (by omega)] at hK
    have w : IntKind.wrap .u64 (IntKind.wrap .i64 (0 - -(u : Int))) = (u : Int) := by rw [IntKind.wrap_u64, IntKind.wrap_i64]; omega
    repeat' (first | done | ((with_reducible refine brK_yes ?_ ?_); (· omega)) | ((with_reducible refine brK_no ?_ ?_); (· omega)) | (with_reducible refine brK_both (fun _ => ?_) (fun _ => ?_)) | ((with_reducible refine And.intro (And.intro ?_ ?_) ?_); (· omega); (· omega)) | ((with_reducible refine And.intro ?_ ?_); (· omega)) | (with_reducible refine And.intro (show List.all _ oneCell = true from rfl) ?_) | ((with_reducible refine st_newM ?_ ?_); (· rfl)) | ((with_reducible refine bs_oneM ?_ ?_); (· rfl)) | (with_reducible refine bd_of (by with_unfolding_all (simp only [fillL_cons, fillL_nil, nth_eq, blt_eq, cond_beq, over, Value.cells, List.getElem?_cons_zero, List.getElem?_cons_succ, List.length_cons, List.length_nil, Nat.reduceAdd, Nat.reduceSub, Nat.reduceLT, Nat.reduceEqDiff, decide_true, cond_true, Option.map_some, if_true, if_false, Nat.add_one_sub_one, Nat.succ_ne_zero, reduceCtorEq, OfNat.ofNat]; rfl)) ?_) | (with_reducible refine bda_of (by with_unfolding_all rfl) ?_) | (simp -dsimp only [↓cw_ops, ↓cw_seq, ↓cw_cond, ↓seqK_normal, ↓getK_same, ↓getK_ne, ↓evK_tmp, ↓evK_int, ↓evK_string, ↓condV_var, ↓opsW_nil, ↓opsW_d, ↓opW_move, ↓opW_assign, ↓opW_bin, ↓bin_lss, ↓evs_nil, ↓evs_cons, ↓opW_call, ↓setAll_cons, ↓setAll_nil, ↓opW_un, ↓un_neg, ↓cint_int, ↓cv_3_23, ↓r52_2_w, ↓s52_3_w, ↓s52_4_w, ↓r52_5_w, ↓s52_6_w, ↓s52_7_w, ↓r52_8_w, ↓s52_9_w, brK_true, ne_eq, Nat.reduceEqDiff, not_false_eq_true, w]))
    refine big_ret u (Nat.le_refl _) (by omega) fun h' X => ?_
    have hd := dec_le (u := u) (by omega)
    unfold strV at hK ⊢
    repeat' (first | done | ((with_reducible refine brK_yes ?_ ?_); (· omega)) | ((with_reducible refine brK_no ?_ ?_); (· omega)) | (with_reducible refine brK_both (fun _ => ?_) (fun _ => ?_)) | ((with_reducible refine And.intro (And.intro ?_ ?_) ?_); (· omega); (· omega)) | ((with_reducible refine And.intro ?_ ?_); (· omega)) | (with_reducible refine And.intro (show List.all _ oneCell = true from rfl) ?_) | ((with_reducible refine st_newM ?_ ?_); (· rfl)) | ((with_reducible refine bs_oneM ?_ ?_); (· rfl)) | (with_reducible refine bd_of (by with_unfolding_all (simp only [fillL_cons, fillL_nil, nth_eq, blt_eq, cond_beq, over, Value.cells, List.getElem?_cons_zero, List.getElem?_cons_succ, List.length_cons, List.length_nil, Nat.reduceAdd, Nat.reduceSub, Nat.reduceLT, Nat.reduceEqDiff, decide_true, cond_true, Option.map_some, if_true, if_false, Nat.add_one_sub_one, Nat.succ_ne_zero, reduceCtorEq, OfNat.ofNat]; rfl)) ?_) | (with_reducible refine bda_of (by with_unfolding_all rfl) ?_) | (simp -dsimp only [↓cw_ret, ↓seqK_normal, ↓seqK_ret, ↓getK_same, ↓evK_tmp, ↓evK_string, ↓opsW_nil, ↓opsW_d, ↓opW_assign, ↓opW_bin, ↓resK_one, List.length_cons, List.length_nil, Nat.reduceAdd, bin_addS, app_str, str_size]))
    exact hK h' X
  · obtain ⟨u, rfl⟩ : ∃ u : Nat, n = u := ⟨n.toNat, by omega⟩
    rw [Lib.itoa_nonneg] at hK
    have w : IntKind.wrap .u64 (u : Int) = (u : Int) := by rw [IntKind.wrap_u64]; omega
    repeat' (first | done | ((with_reducible refine brK_yes ?_ ?_); (· omega)) | ((with_reducible refine brK_no ?_ ?_); (· omega)) | (with_reducible refine brK_both (fun _ => ?_) (fun _ => ?_)) | ((with_reducible refine And.intro (And.intro ?_ ?_) ?_); (· omega); (· omega)) | ((with_reducible refine And.intro ?_ ?_); (· omega)) | (with_reducible refine And.intro (show List.all _ oneCell = true from rfl) ?_) | ((with_reducible refine st_newM ?_ ?_); (· rfl)) | ((with_reducible refine bs_oneM ?_ ?_); (· rfl)) | (with_reducible refine bd_of (by with_unfolding_all (simp only [fillL_cons, fillL_nil, nth_eq, blt_eq, cond_beq, over, Value.cells, List.getElem?_cons_zero, List.getElem?_cons_succ, List.length_cons, List.length_nil, Nat.reduceAdd, Nat.reduceSub, Nat.reduceLT, Nat.reduceEqDiff, decide_true, cond_true, Option.map_some, if_true, if_false, Nat.add_one_sub_one, Nat.succ_ne_zero, reduceCtorEq, OfNat.ofNat]; rfl)) ?_) | (with_reducible refine bda_of (by with_unfolding_all rfl) ?_) | (simp -dsimp only [↓cw_skip, ↓cw_ops, ↓cw_seq, ↓cw_cond, ↓seqK_normal, ↓getK_same, ↓getK_ne, ↓evK_tmp, ↓evK_int, ↓evK_string, ↓condV_var, ↓opsW_nil, ↓opsW_d, ↓opW_move, ↓opW_assign, ↓opW_bin, ↓bin_lss, ↓evs_nil, ↓evs_cons, ↓opW_call, ↓setAll_cons, ↓setAll_nil, ↓cint_int, ↓cv_3_23, ↓r52_0_w, ↓s52_1_w, ↓s52_4_w, ↓r52_5_w, ↓s52_6_w, ↓s52_7_w, ↓r52_8_w, ↓s52_9_w, brK_false, ne_eq, Nat.reduceEqDiff, not_false_eq_true, Bool.false_eq_true,  w]))
    refine big_ret u (Nat.le_refl _) (by omega) fun h' X => ?_
    unfold strV at hK ⊢
    repeat' (first | done | ((with_reducible refine brK_yes ?_ ?_); (· omega)) | ((with_reducible refine brK_no ?_ ?_); (· omega)) | (with_reducible refine brK_both (fun _ => ?_) (fun _ => ?_)) | ((with_reducible refine And.intro (And.intro ?_ ?_) ?_); (· omega); (· omega)) | ((with_reducible refine And.intro ?_ ?_); (· omega)) | (with_reducible refine And.intro (show List.all _ oneCell = true from rfl) ?_) | ((with_reducible refine st_newM ?_ ?_); (· rfl)) | ((with_reducible refine bs_oneM ?_ ?_); (· rfl)) | (with_reducible refine bd_of (by with_unfolding_all (simp only [fillL_cons, fillL_nil, nth_eq, blt_eq, cond_beq, over, Value.cells, List.getElem?_cons_zero, List.getElem?_cons_succ, List.length_cons, List.length_nil, Nat.reduceAdd, Nat.reduceSub, Nat.reduceLT, Nat.reduceEqDiff, decide_true, cond_true, Option.map_some, if_true, if_false, Nat.add_one_sub_one, Nat.succ_ne_zero, reduceCtorEq, OfNat.ofNat]; rfl)) ?_) | (with_reducible refine bda_of (by with_unfolding_all rfl) ?_) | (simp -dsimp only [↓cw_ret, ↓seqK_normal, ↓getK_same, ↓evK_tmp, ↓opsW_nil, ↓opsW_d, ↓opW_assign, ↓resK_one]))
    exact hK h' X
end Go.Proofs.YtjcmcoabckkjoaaDoor.Li

namespace Go.Proofs.YtjcmcoabckkjoaaDoor.Li
open Go.Ev
set_option maxRecDepth 100000
set_option maxHeartbeats 400000
theorem isNaN_ret {n : Nat} {h : Heap} {K : Value → Heap → Prop} (hn : n < 18446744073709551616) (hK : K (.bool (isNan n)) h) : Ret env (.func 63) [.float .f64 n] h K := by
  refine F63 rfl ?_
  have e : (Ieee.double.order n n != some .eq) = isNan n := by
    rw [ord_self hn]
    cases isNan n <;> rfl
  repeat' (first | done | ((with_reducible refine brK_yes ?_ ?_); (· omega)) | ((with_reducible refine brK_no ?_ ?_); (· omega)) | (with_reducible refine brK_both (fun _ => ?_) (fun _ => ?_)) | ((with_reducible refine And.intro (And.intro ?_ ?_) ?_); (· omega); (· omega)) | ((with_reducible refine And.intro ?_ ?_); (· omega)) | (with_reducible refine And.intro (show List.all _ oneCell = true from rfl) ?_) | ((with_reducible refine st_newM ?_ ?_); (· rfl)) | ((with_reducible refine bs_oneM ?_ ?_); (· rfl)) | (with_reducible refine bd_of (by with_unfolding_all (simp only [fillL_cons, fillL_nil, nth_eq, blt_eq, cond_beq, over, Value.cells, List.getElem?_cons_zero, List.getElem?_cons_succ, List.length_cons, List.length_nil, Nat.reduceAdd, Nat.reduceSub, Nat.reduceLT, Nat.reduceEqDiff, decide_true, cond_true, Option.map_some, if_true, if_false, Nat.add_one_sub_one, Nat.succ_ne_zero, reduceCtorEq, OfNat.ofNat]; rfl)) ?_) | (with_reducible refine bda_of (by with_unfolding_all rfl) ?_) | (simp -dsimp only [↓cw_ops, ↓cw_seq, ↓cw_ret, ↓seqK_normal, ↓getK_same, ↓getK_ne, ↓evK_tmp, ↓evK_bool, ↓opsW_nil, ↓opsW_d, ↓opW_move, ↓opW_assign, ↓opW_bin, ↓resK_one, ↓setAll_cons, ↓setAll_nil, ↓r63_0_w, ↓s63_1_w, ↓r63_2_w, ↓s63_3_w, ne_eq, Nat.reduceEqDiff, not_false_eq_true, bin_neqF, e]))
  exact hK
theorem isNaN_no {h : Heap} {K : Value → Heap → Prop} (hK : K (.bool true) h) : Ret env (.func 63) [.chan none] h K := by
  refine F63 rfl ?_
  repeat' (first | done | ((with_reducible refine brK_yes ?_ ?_); (· omega)) | ((with_reducible refine brK_no ?_ ?_); (· omega)) | (with_reducible refine brK_both (fun _ => ?_) (fun _ => ?_)) | ((with_reducible refine And.intro (And.intro ?_ ?_) ?_); (· omega); (· omega)) | ((with_reducible refine And.intro ?_ ?_); (· omega)) | (with_reducible refine And.intro (show List.all _ oneCell = true from rfl) ?_) | ((with_reducible refine st_newM ?_ ?_); (· rfl)) | ((with_reducible refine bs_oneM ?_ ?_); (· rfl)) | (with_reducible refine bd_of (by with_unfolding_all (simp only [fillL_cons, fillL_nil, nth_eq, blt_eq, cond_beq, over, Value.cells, List.getElem?_cons_zero, List.getElem?_cons_succ, List.length_cons, List.length_nil, Nat.reduceAdd, Nat.reduceSub, Nat.reduceLT, Nat.reduceEqDiff, decide_true, cond_true, Option.map_some, if_true, if_false, Nat.add_one_sub_one, Nat.succ_ne_zero, reduceCtorEq, OfNat.ofNat]; rfl)) ?_) | (with_reducible refine bda_of (by with_unfolding_all rfl) ?_) | (simp -dsimp only [↓cw_ops, ↓cw_seq, ↓cw_ret, ↓seqK_normal, ↓getK_same, ↓getK_ne, ↓evK_tmp, ↓evK_bool, ↓opsW_nil, ↓opsW_d, ↓opW_move, ↓opW_assign, ↓opW_bin, ↓resK_one, ↓setAll_cons, ↓setAll_nil, ↓r63_0_w, ↓s63_1_w, ↓r63_2_w, ↓s63_3_w, ne_eq, Nat.reduceEqDiff, not_false_eq_true, bin_neqNN]))
  exact hK
theorem isInf_pos {n : Nat} {h : Heap} {K : Value → Heap → Prop} (hn : n < 18446744073709551616) (hK : K (.bool (decide (n = 9218868437227405312))) h) : Ret env (.func 71) [.float .f64 n, .int .i64 1] h K := by
  refine F71 rfl ?_
  have e := ord_max hn
  repeat' (first | done | ((with_reducible refine brK_yes ?_ ?_); (· omega)) | ((with_reducible refine brK_no ?_ ?_); (· omega)) | (with_reducible refine brK_both (fun _ => ?_) (fun _ => ?_)) | ((with_reducible refine And.intro (And.intro ?_ ?_) ?_); (· omega); (· omega)) | ((with_reducible refine And.intro ?_ ?_); (· omega)) | (with_reducible refine And.intro (show List.all _ oneCell = true from rfl) ?_) | ((with_reducible refine st_newM ?_ ?_); (· rfl)) | ((with_reducible refine bs_oneM ?_ ?_); (· rfl)) | (with_reducible refine bd_of (by with_unfolding_all (simp only [fillL_cons, fillL_nil, nth_eq, blt_eq, cond_beq, over, Value.cells, List.getElem?_cons_zero, List.getElem?_cons_succ, List.length_cons, List.length_nil, Nat.reduceAdd, Nat.reduceSub, Nat.reduceLT, Nat.reduceEqDiff, decide_true, cond_true, Option.map_some, if_true, if_false, Nat.add_one_sub_one, Nat.succ_ne_zero, reduceCtorEq, OfNat.ofNat]; rfl)) ?_) | (with_reducible refine bda_of (by with_unfolding_all rfl) ?_) | (simp -dsimp only [↓cw_skip, ↓cw_ops, ↓cw_seq, ↓cw_ret, ↓cw_cond, ↓seqK_normal, ↓getK_same, ↓getK_ne, ↓evK_tmp, ↓evK_int, ↓evK_bool, ↓evK_float, ↓condV_var, ↓opsW_nil, ↓opsW_d, ↓opW_move, ↓opW_assign, ↓opW_bin, ↓bin_eql, ↓bin_lss, ↓resK_one, ↓setAll_cons, ↓setAll_nil, ↓r71_0_w, ↓s71_1_w, ↓s71_6_w, ↓r71_7_w, ↓s71_8_w, ↓s71_9_w, ↓r71_10_w, ↓s71_11_w, ↓s71_12_w, ↓r71_13_w, ↓s71_14_w, brK_false, ne_eq, Nat.reduceEqDiff, Nat.reduceAdd, not_false_eq_true, Nat.one_ne_zero, Bool.false_eq_true,  bin_gtrF, e]))
  exact hK
theorem isInf_neg {n : Nat} {h : Heap} {K : Value → Heap → Prop} (hn : n < 18446744073709551616) (hK : K (.bool (decide (n = 18442240474082181120))) h) : Ret env (.func 71) [.float .f64 n, .int .i64 (-1)] h K := by
  refine F71 rfl ?_
  have hx := neg_bits hn
  have hlt : n ^^^ 9223372036854775808 < 18446744073709551616 := by rw [hx]; split <;> omega
  have e := ord_max hlt
  have e2 : decide (n ^^^ 9223372036854775808 = 9218868437227405312) = decide (n = 18442240474082181120) := by
    rw [hx, decide_eq_decide]; split <;> omega
  rw [e2] at e
  repeat' (first | done | ((with_reducible refine brK_yes ?_ ?_); (· omega)) | ((with_reducible refine brK_no ?_ ?_); (· omega)) | (with_reducible refine brK_both (fun _ => ?_) (fun _ => ?_)) | ((with_reducible refine And.intro (And.intro ?_ ?_) ?_); (· omega); (· omega)) | ((with_reducible refine And.intro ?_ ?_); (· omega)) | (with_reducible refine And.intro (show List.all _ oneCell = true from rfl) ?_) | ((with_reducible refine st_newM ?_ ?_); (· rfl)) | ((with_reducible refine bs_oneM ?_ ?_); (· rfl)) | (with_reducible refine bd_of (by with_unfolding_all (simp only [fillL_cons, fillL_nil, nth_eq, blt_eq, cond_beq, over, Value.cells, List.getElem?_cons_zero, List.getElem?_cons_succ, List.length_cons, List.length_nil, Nat.reduceAdd, Nat.reduceSub, Nat.reduceLT, Nat.reduceEqDiff, decide_true, cond_true, Option.map_some, if_true, if_false, Nat.add_one_sub_one, Nat.succ_ne_zero, reduceCtorEq, OfNat.ofNat]; rfl)) ?_) | (with_reducible refine bda_of (by with_unfolding_all rfl) ?_) | (simp -dsimp only [↓cw_ops, ↓cw_seq, ↓cw_ret, ↓cw_cond, ↓seqK_normal, ↓getK_same, ↓getK_ne, ↓evK_tmp, ↓evK_int, ↓evK_bool, ↓evK_float, ↓condV_var, ↓opsW_nil, ↓opsW_d, ↓opW_move, ↓opW_assign, ↓opW_bin, ↓bin_eql, ↓bin_lss, ↓resK_one, ↓setAll_cons, ↓setAll_nil, ↓opW_un, ↓r71_0_w, ↓s71_1_w, ↓r71_4_w, ↓s71_5_w, ↓s71_6_w, ↓r71_7_w, ↓s71_8_w, ↓s71_9_w, ↓r71_10_w, ↓s71_11_w, ↓s71_12_w, ↓r71_13_w, ↓s71_14_w, brK_true, brK_false, ne_eq, Nat.reduceEqDiff, Nat.reduceAdd, not_false_eq_true, Nat.one_ne_zero, Bool.false_eq_true,  bin_gtrF, un_negF', e]))
  exact hK
theorem signbit_ret {n : Nat} {h : Heap} {K : Value → Heap → Prop} (hn : n < 18446744073709551616) (hK : K (.bool (negN n)) h) : Ret env (.func 72) [.float .f64 n] h K := by
  refine F72 rfl ?_
  repeat' (first | done | ((with_reducible refine brK_yes ?_ ?_); (· omega)) | ((with_reducible refine brK_no ?_ ?_); (· omega)) | (with_reducible refine brK_both (fun _ => ?_) (fun _ => ?_)) | ((with_reducible refine And.intro (And.intro ?_ ?_) ?_); (· omega); (· omega)) | ((with_reducible refine And.intro ?_ ?_); (· omega)) | (with_reducible refine And.intro (show List.all _ oneCell = true from rfl) ?_) | ((with_reducible refine st_newM ?_ ?_); (· rfl)) | ((with_reducible refine bs_oneM ?_ ?_); (· rfl)) | (with_reducible refine bd_of (by with_unfolding_all (simp only [fillL_cons, fillL_nil, nth_eq, blt_eq, cond_beq, over, Value.cells, List.getElem?_cons_zero, List.getElem?_cons_succ, List.length_cons, List.length_nil, Nat.reduceAdd, Nat.reduceSub, Nat.reduceLT, Nat.reduceEqDiff, decide_true, cond_true, Option.map_some, if_true, if_false, Nat.add_one_sub_one, Nat.succ_ne_zero, reduceCtorEq, OfNat.ofNat]; rfl)) ?_) | (with_reducible refine bda_of (by with_unfolding_all rfl) ?_) | (simp -dsimp only [↓cw_ops, ↓cw_seq, ↓seqK_normal, ↓getK_same, ↓getK_ne, ↓evK_tmp, ↓evK_bool, ↓opsW_nil, ↓opsW_d, ↓opW_move, ↓opW_assign, ↓evs_nil, ↓evs_cons, ↓opW_call, ↓setAll_cons, ↓setAll_nil, ↓r72_0_w, ↓s72_1_w, ↓r72_2_w, ↓s72_3_w, ne_eq, Nat.reduceEqDiff, not_false_eq_true]))
  refine bits_fl ?_
  unfold negN at hK
  by_cases hg : 9223372036854775808 ≤ n
  · have w : IntKind.wrap .i64 (n : Int) = (n : Int) - 18446744073709551616 := by rw [IntKind.wrap_i64]; omega
    rw [decide_eq_true hg] at hK
    repeat' (first | done | ((with_reducible refine brK_yes ?_ ?_); (· omega)) | ((with_reducible refine brK_no ?_ ?_); (· omega)) | (with_reducible refine brK_both (fun _ => ?_) (fun _ => ?_)) | ((with_reducible refine And.intro (And.intro ?_ ?_) ?_); (· omega); (· omega)) | ((with_reducible refine And.intro ?_ ?_); (· omega)) | (with_reducible refine And.intro (show List.all _ oneCell = true from rfl) ?_) | ((with_reducible refine st_newM ?_ ?_); (· rfl)) | ((with_reducible refine bs_oneM ?_ ?_); (· rfl)) | (with_reducible refine bd_of (by with_unfolding_all (simp only [fillL_cons, fillL_nil, nth_eq, blt_eq, cond_beq, over, Value.cells, List.getElem?_cons_zero, List.getElem?_cons_succ, List.length_cons, List.length_nil, Nat.reduceAdd, Nat.reduceSub, Nat.reduceLT, Nat.reduceEqDiff, decide_true, cond_true, Option.map_some, if_true, if_false, Nat.add_one_sub_one, Nat.succ_ne_zero, reduceCtorEq, OfNat.ofNat]; rfl)) ?_) | (with_reducible refine bda_of (by with_unfolding_all rfl) ?_) | (simp -dsimp only [↓cw_ret, ↓seqK_normal, ↓getK_same, ↓evK_tmp, ↓evK_int, ↓opsW_nil, ↓opsW_d, ↓opW_assign, ↓opW_bin, ↓bin_lss, ↓resK_one, ↓cint_int, ↓cv_23_2, w]))
    exact hK
  · have w : IntKind.wrap .i64 (n : Int) = (n : Int) := by rw [IntKind.wrap_i64]; omega
    rw [decide_eq_false hg] at hK
    repeat' (first | done | ((with_reducible refine brK_yes ?_ ?_); (· omega)) | ((with_reducible refine brK_no ?_ ?_); (· omega)) | (with_reducible refine brK_both (fun _ => ?_) (fun _ => ?_)) | ((with_reducible refine And.intro (And.intro ?_ ?_) ?_); (· omega); (· omega)) | ((with_reducible refine And.intro ?_ ?_); (· omega)) | (with_reducible refine And.intro (show List.all _ oneCell = true from rfl) ?_) | ((with_reducible refine st_newM ?_ ?_); (· rfl)) | ((with_reducible refine bs_oneM ?_ ?_); (· rfl)) | (with_reducible refine bd_of (by with_unfolding_all (simp only [fillL_cons, fillL_nil, nth_eq, blt_eq, cond_beq, over, Value.cells, List.getElem?_cons_zero, List.getElem?_cons_succ, List.length_cons, List.length_nil, Nat.reduceAdd, Nat.reduceSub, Nat.reduceLT, Nat.reduceEqDiff, decide_true, cond_true, Option.map_some, if_true, if_false, Nat.add_one_sub_one, Nat.succ_ne_zero, reduceCtorEq, OfNat.ofNat]; rfl)) ?_) | (with_reducible refine bda_of (by with_unfolding_all rfl) ?_) | (simp -dsimp only [↓cw_ret, ↓seqK_normal, ↓getK_same, ↓evK_tmp, ↓evK_int, ↓opsW_nil, ↓opsW_d, ↓opW_assign, ↓opW_bin, ↓bin_lss, ↓resK_one, ↓cint_int, ↓cv_23_2, w]))
    exact hK
def classB (n : Nat) : List UInt8 :=
  if isNan n then [110, 97, 110] else if rungN n = 9218868437227405312 then (if negN n then [45, 105, 110, 102] else [105, 110, 102]) else if rungN n = 0 then (if negN n then [45, 48] else [48]) else []
theorem class_no {h : Heap} {K : Value → Heap → Prop} (hK : K (strV [110, 97, 110]) h) : Ret env (.func 54) [.chan none] h K := by
  refine F54 rfl ?_
  repeat' (first | done | ((with_reducible refine brK_yes ?_ ?_); (· omega)) | ((with_reducible refine brK_no ?_ ?_); (· omega)) | (with_reducible refine brK_both (fun _ => ?_) (fun _ => ?_)) | ((with_reducible refine And.intro (And.intro ?_ ?_) ?_); (· omega); (· omega)) | ((with_reducible refine And.intro ?_ ?_); (· omega)) | (with_reducible refine And.intro (show List.all _ oneCell = true from rfl) ?_) | ((with_reducible refine st_newM ?_ ?_); (· rfl)) | ((with_reducible refine bs_oneM ?_ ?_); (· rfl)) | (with_reducible refine bd_of (by with_unfolding_all (simp only [fillL_cons, fillL_nil, nth_eq, blt_eq, cond_beq, over, Value.cells, List.getElem?_cons_zero, List.getElem?_cons_succ, List.length_cons, List.length_nil, Nat.reduceAdd, Nat.reduceSub, Nat.reduceLT, Nat.reduceEqDiff, decide_true, cond_true, Option.map_some, if_true, if_false, Nat.add_one_sub_one, Nat.succ_ne_zero, reduceCtorEq, OfNat.ofNat]; rfl)) ?_) | (with_reducible refine bda_of (by with_unfolding_all rfl) ?_) | (simp -dsimp only [↓cw_ops, ↓cw_seq, ↓cw_block, ↓seqK_normal, ↓getK_same, ↓getK_ne, ↓evK_tmp, ↓evK_string, ↓opsW_nil, ↓opsW_d, ↓opW_move, ↓opW_assign, ↓evs_nil, ↓evs_cons, ↓opW_call, ↓setAll_cons, ↓setAll_nil, ↓r54_25_w, ↓s54_26_w, ↓s54_27_w, ↓r54_28_w, ↓s54_29_w, ne_eq, Nat.reduceEqDiff, not_false_eq_true]))
  refine isNaN_no ?_
  repeat' (first | done | ((with_reducible refine brK_yes ?_ ?_); (· omega)) | ((with_reducible refine brK_no ?_ ?_); (· omega)) | (with_reducible refine brK_both (fun _ => ?_) (fun _ => ?_)) | ((with_reducible refine And.intro (And.intro ?_ ?_) ?_); (· omega); (· omega)) | ((with_reducible refine And.intro ?_ ?_); (· omega)) | (with_reducible refine And.intro (show List.all _ oneCell = true from rfl) ?_) | ((with_reducible refine st_newM ?_ ?_); (· rfl)) | ((with_reducible refine bs_oneM ?_ ?_); (· rfl)) | (with_reducible refine bd_of (by with_unfolding_all (simp only [fillL_cons, fillL_nil, nth_eq, blt_eq, cond_beq, over, Value.cells, List.getElem?_cons_zero, List.getElem?_cons_succ, List.length_cons, List.length_nil, Nat.reduceAdd, Nat.reduceSub, Nat.reduceLT, Nat.reduceEqDiff, decide_true, cond_true, Option.map_some, if_true, if_false, Nat.add_one_sub_one, Nat.succ_ne_zero, reduceCtorEq, OfNat.ofNat]; rfl)) ?_) | (with_reducible refine bda_of (by with_unfolding_all rfl) ?_) | (simp -dsimp only [↓cw_ops, ↓cw_seq, ↓cw_ret, ↓cw_cond, ↓seqK_normal, ↓seqK_ret, ↓blockK_ret, ↓getK_same, ↓evK_tmp, ↓evK_string, ↓condV_var, ↓opsW_nil, ↓opsW_d, ↓opW_assign, ↓resK_one, ↓r54_2_w, ↓s54_3_w, ↓s54_24_w, brK_true]))
  exact hK
theorem class_ret {n : Nat} {h : Heap} {K : Value → Heap → Prop} (hn : n < 18446744073709551616) (hK : K (strV (classB n)) h) : Ret env (.func 54) [.float .f64 n] h K := by
  refine F54 rfl ?_
  have o0 := ord_zero hn
  repeat' (first | done | ((with_reducible refine brK_yes ?_ ?_); (· omega)) | ((with_reducible refine brK_no ?_ ?_); (· omega)) | (with_reducible refine brK_both (fun _ => ?_) (fun _ => ?_)) | ((with_reducible refine And.intro (And.intro ?_ ?_) ?_); (· omega); (· omega)) | ((with_reducible refine And.intro ?_ ?_); (· omega)) | (with_reducible refine And.intro (show List.all _ oneCell = true from rfl) ?_) | ((with_reducible refine st_newM ?_ ?_); (· rfl)) | ((with_reducible refine bs_oneM ?_ ?_); (· rfl)) | (with_reducible refine bd_of (by with_unfolding_all (simp only [fillL_cons, fillL_nil, nth_eq, blt_eq, cond_beq, over, Value.cells, List.getElem?_cons_zero, List.getElem?_cons_succ, List.length_cons, List.length_nil, Nat.reduceAdd, Nat.reduceSub, Nat.reduceLT, Nat.reduceEqDiff, decide_true, cond_true, Option.map_some, if_true, if_false, Nat.add_one_sub_one, Nat.succ_ne_zero, reduceCtorEq, OfNat.ofNat]; rfl)) ?_) | (with_reducible refine bda_of (by with_unfolding_all rfl) ?_) | (simp -dsimp only [↓cw_ops, ↓cw_seq, ↓cw_block, ↓seqK_normal, ↓getK_same, ↓getK_ne, ↓evK_tmp, ↓evK_string, ↓opsW_nil, ↓opsW_d, ↓opW_move, ↓opW_assign, ↓evs_nil, ↓evs_cons, ↓opW_call, ↓setAll_cons, ↓setAll_nil, ↓r54_25_w, ↓s54_26_w, ↓s54_27_w, ↓r54_28_w, ↓s54_29_w, ne_eq, Nat.reduceEqDiff, not_false_eq_true]))
  refine isNaN_ret hn ?_
  unfold classB at hK
  have hi := isNan_iff n
  cases hnan : isNan n with
  | true =>
    rw [hnan] at hK
    repeat' (first | done | ((with_reducible refine brK_yes ?_ ?_); (· omega)) | ((with_reducible refine brK_no ?_ ?_); (· omega)) | (with_reducible refine brK_both (fun _ => ?_) (fun _ => ?_)) | ((with_reducible refine And.intro (And.intro ?_ ?_) ?_); (· omega); (· omega)) | ((with_reducible refine And.intro ?_ ?_); (· omega)) | (with_reducible refine And.intro (show List.all _ oneCell = true from rfl) ?_) | ((with_reducible refine st_newM ?_ ?_); (· rfl)) | ((with_reducible refine bs_oneM ?_ ?_); (· rfl)) | (with_reducible refine bd_of (by with_unfolding_all (simp only [fillL_cons, fillL_nil, nth_eq, blt_eq, cond_beq, over, Value.cells, List.getElem?_cons_zero, List.getElem?_cons_succ, List.length_cons, List.length_nil, Nat.reduceAdd, Nat.reduceSub, Nat.reduceLT, Nat.reduceEqDiff, decide_true, cond_true, Option.map_some, if_true, if_false, Nat.add_one_sub_one, Nat.succ_ne_zero, reduceCtorEq, OfNat.ofNat]; rfl)) ?_) | (with_reducible refine bda_of (by with_unfolding_all rfl) ?_) | (simp -dsimp only [↓cw_ops, ↓cw_seq, ↓cw_ret, ↓cw_cond, ↓seqK_normal, ↓seqK_ret, ↓blockK_ret, ↓getK_same, ↓evK_tmp, ↓evK_string, ↓condV_var, ↓opsW_nil, ↓opsW_d, ↓opW_assign, ↓resK_one, ↓r54_2_w, ↓s54_3_w, ↓s54_24_w, brK_true]))
    exact hK
  | false =>
    rw [hnan] at hK o0 hi
    have hi : rungN n ≤ 9218868437227405312 := by have := of_decide_eq_false hi.symm; omega
    simp only [Bool.false_eq_true, if_false] at hK o0
    repeat' (first | done | ((with_reducible refine brK_yes ?_ ?_); (· omega)) | ((with_reducible refine brK_no ?_ ?_); (· omega)) | (with_reducible refine brK_both (fun _ => ?_) (fun _ => ?_)) | ((with_reducible refine And.intro (And.intro ?_ ?_) ?_); (· omega); (· omega)) | ((with_reducible refine And.intro ?_ ?_); (· omega)) | (with_reducible refine And.intro (show List.all _ oneCell = true from rfl) ?_) | ((with_reducible refine st_newM ?_ ?_); (· rfl)) | ((with_reducible refine bs_oneM ?_ ?_); (· rfl)) | (with_reducible refine bd_of (by with_unfolding_all (simp only [fillL_cons, fillL_nil, nth_eq, blt_eq, cond_beq, over, Value.cells, List.getElem?_cons_zero, List.getElem?_cons_succ, List.length_cons, List.length_nil, Nat.reduceAdd, Nat.reduceSub, Nat.reduceLT, Nat.reduceEqDiff, decide_true, cond_true, Option.map_some, if_true, if_false, Nat.add_one_sub_one, Nat.succ_ne_zero, reduceCtorEq, OfNat.ofNat]; rfl)) ?_) | (with_reducible refine bda_of (by with_unfolding_all rfl) ?_) | (simp -dsimp only [↓cw_ops, ↓cw_seq, ↓cw_cond, ↓seqK_normal, ↓getK_same, ↓getK_ne, ↓evK_tmp, ↓evK_int, ↓condV_var, ↓opsW_nil, ↓opsW_d, ↓opW_move, ↓opW_assign, ↓evs_nil, ↓evs_cons, ↓opW_call, ↓setAll_cons, ↓setAll_nil, ↓r54_22_w, ↓s54_23_w, ↓s54_24_w, brK_false, ne_eq, Nat.reduceEqDiff, not_false_eq_true, Bool.false_eq_true]))
    refine isInf_pos hn ?_
    by_cases hp : n = 9218868437227405312
    · rw [decide_eq_true hp]
      have h1 : rungN n = 9218868437227405312 := by unfold rungN; omega
      have h2 : negN n = false := by unfold negN; exact decide_eq_false (by omega)
      rw [if_pos h1, h2] at hK
      repeat' (first | done | ((with_reducible refine brK_yes ?_ ?_); (· omega)) | ((with_reducible refine brK_no ?_ ?_); (· omega)) | (with_reducible refine brK_both (fun _ => ?_) (fun _ => ?_)) | ((with_reducible refine And.intro (And.intro ?_ ?_) ?_); (· omega); (· omega)) | ((with_reducible refine And.intro ?_ ?_); (· omega)) | (with_reducible refine And.intro (show List.all _ oneCell = true from rfl) ?_) | ((with_reducible refine st_newM ?_ ?_); (· rfl)) | ((with_reducible refine bs_oneM ?_ ?_); (· rfl)) | (with_reducible refine bd_of (by with_unfolding_all (simp only [fillL_cons, fillL_nil, nth_eq, blt_eq, cond_beq, over, Value.cells, List.getElem?_cons_zero, List.getElem?_cons_succ, List.length_cons, List.length_nil, Nat.reduceAdd, Nat.reduceSub, Nat.reduceLT, Nat.reduceEqDiff, decide_true, cond_true, Option.map_some, if_true, if_false, Nat.add_one_sub_one, Nat.succ_ne_zero, reduceCtorEq, OfNat.ofNat]; rfl)) ?_) | (with_reducible refine bda_of (by with_unfolding_all rfl) ?_) | (simp -dsimp only [↓cw_ops, ↓cw_seq, ↓cw_ret, ↓cw_cond, ↓seqK_normal, ↓seqK_ret, ↓blockK_ret, ↓getK_same, ↓evK_tmp, ↓evK_string, ↓condV_var, ↓opsW_nil, ↓opsW_d, ↓opW_assign, ↓resK_one, ↓r54_4_w, ↓s54_5_w, ↓s54_21_w, brK_true]))
      exact hK
    rw [decide_eq_false hp]
    repeat' (first | done | ((with_reducible refine brK_yes ?_ ?_); (· omega)) | ((with_reducible refine brK_no ?_ ?_); (· omega)) | (with_reducible refine brK_both (fun _ => ?_) (fun _ => ?_)) | ((with_reducible refine And.intro (And.intro ?_ ?_) ?_); (· omega); (· omega)) | ((with_reducible refine And.intro ?_ ?_); (· omega)) | (with_reducible refine And.intro (show List.all _ oneCell = true from rfl) ?_) | ((with_reducible refine st_newM ?_ ?_); (· rfl)) | ((with_reducible refine bs_oneM ?_ ?_); (· rfl)) | (with_reducible refine bd_of (by with_unfolding_all (simp only [fillL_cons, fillL_nil, nth_eq, blt_eq, cond_beq, over, Value.cells, List.getElem?_cons_zero, List.getElem?_cons_succ, List.length_cons, List.length_nil, Nat.reduceAdd, Nat.reduceSub, Nat.reduceLT, Nat.reduceEqDiff, decide_true, cond_true, Option.map_some, if_true, if_false, Nat.add_one_sub_one, Nat.succ_ne_zero, reduceCtorEq, OfNat.ofNat]; rfl)) ?_) | (with_reducible refine bda_of (by with_unfolding_all rfl) ?_) | (simp -dsimp only [↓cw_ops, ↓cw_seq, ↓cw_cond, ↓seqK_normal, ↓getK_same, ↓getK_ne, ↓evK_tmp, ↓evK_int, ↓condV_var, ↓opsW_nil, ↓opsW_d, ↓opW_move, ↓opW_assign, ↓evs_nil, ↓evs_cons, ↓opW_call, ↓setAll_cons, ↓setAll_nil, ↓r54_19_w, ↓s54_20_w, ↓s54_21_w, brK_false, ne_eq, Nat.reduceEqDiff, not_false_eq_true, Bool.false_eq_true]))
    refine isInf_neg hn ?_
    by_cases hm : n = 18442240474082181120
    · rw [decide_eq_true hm]
      have h1 : rungN n = 9218868437227405312 := by unfold rungN; omega
      have h2 : negN n = true := by unfold negN; exact decide_eq_true (by omega)
      rw [if_pos h1, h2] at hK
      repeat' (first | done | ((with_reducible refine brK_yes ?_ ?_); (· omega)) | ((with_reducible refine brK_no ?_ ?_); (· omega)) | (with_reducible refine brK_both (fun _ => ?_) (fun _ => ?_)) | ((with_reducible refine And.intro (And.intro ?_ ?_) ?_); (· omega); (· omega)) | ((with_reducible refine And.intro ?_ ?_); (· omega)) | (with_reducible refine And.intro (show List.all _ oneCell = true from rfl) ?_) | ((with_reducible refine st_newM ?_ ?_); (· rfl)) | ((with_reducible refine bs_oneM ?_ ?_); (· rfl)) | (with_reducible refine bd_of (by with_unfolding_all (simp only [fillL_cons, fillL_nil, nth_eq, blt_eq, cond_beq, over, Value.cells, List.getElem?_cons_zero, List.getElem?_cons_succ, List.length_cons, List.length_nil, Nat.reduceAdd, Nat.reduceSub, Nat.reduceLT, Nat.reduceEqDiff, decide_true, cond_true, Option.map_some, if_true, if_false, Nat.add_one_sub_one, Nat.succ_ne_zero, reduceCtorEq, OfNat.ofNat]; rfl)) ?_) | (with_reducible refine bda_of (by with_unfolding_all rfl) ?_) | (simp -dsimp only [↓cw_ops, ↓cw_seq, ↓cw_ret, ↓cw_cond, ↓seqK_normal, ↓seqK_ret, ↓blockK_ret, ↓getK_same, ↓evK_tmp, ↓evK_string, ↓condV_var, ↓opsW_nil, ↓opsW_d, ↓opW_assign, ↓resK_one, ↓r54_6_w, ↓s54_7_w, ↓s54_18_w, brK_true]))
      exact hK
    rw [decide_eq_false hm]
    have h1 : rungN n ≠ 9218868437227405312 := by unfold rungN; omega
    rw [if_neg h1] at hK
    by_cases h0 : rungN n = 0
    · rw [if_pos h0] at hK o0
      have e : (Ieee.double.order n 0 == some .eq) = true := by rw [o0]; rfl
      repeat' (first | done | ((with_reducible refine brK_yes ?_ ?_); (· omega)) | ((with_reducible refine brK_no ?_ ?_); (· omega)) | (with_reducible refine brK_both (fun _ => ?_) (fun _ => ?_)) | ((with_reducible refine And.intro (And.intro ?_ ?_) ?_); (· omega); (· omega)) | ((with_reducible refine And.intro ?_ ?_); (· omega)) | (with_reducible refine And.intro (show List.all _ oneCell = true from rfl) ?_) | ((with_reducible refine st_newM ?_ ?_); (· rfl)) | ((with_reducible refine bs_oneM ?_ ?_); (· rfl)) | (with_reducible refine bd_of (by with_unfolding_all (simp only [fillL_cons, fillL_nil, nth_eq, blt_eq, cond_beq, over, Value.cells, List.getElem?_cons_zero, List.getElem?_cons_succ, List.length_cons, List.length_nil, Nat.reduceAdd, Nat.reduceSub, Nat.reduceLT, Nat.reduceEqDiff, decide_true, cond_true, Option.map_some, if_true, if_false, Nat.add_one_sub_one, Nat.succ_ne_zero, reduceCtorEq, OfNat.ofNat]; rfl)) ?_) | (with_reducible refine bda_of (by with_unfolding_all rfl) ?_) | (simp -dsimp only [↓cw_ops, ↓cw_seq, ↓cw_cond, ↓seqK_normal, ↓getK_same, ↓getK_ne, ↓evK_tmp, ↓evK_float, ↓condV_var, ↓gdV_var, ↓opsW_nil, ↓opsW_d, ↓opsW_gd, ↓opW_move, ↓opW_assign, ↓opW_bin, ↓evs_nil, ↓evs_cons, ↓opW_call, ↓setAll_cons, ↓setAll_nil, ↓r54_16_w, ↓s54_17_w, ↓s54_18_w, brK_true, brK_false, ne_eq, Nat.reduceEqDiff, not_false_eq_true, Bool.false_eq_true,  bin_eqlF, e]))
      refine signbit_ret hn ?_
      cases hg : negN n with
      | true =>
        rw [hg] at hK
        repeat' (first | done | ((with_reducible refine brK_yes ?_ ?_); (· omega)) | ((with_reducible refine brK_no ?_ ?_); (· omega)) | (with_reducible refine brK_both (fun _ => ?_) (fun _ => ?_)) | ((with_reducible refine And.intro (And.intro ?_ ?_) ?_); (· omega); (· omega)) | ((with_reducible refine And.intro ?_ ?_); (· omega)) | (with_reducible refine And.intro (show List.all _ oneCell = true from rfl) ?_) | ((with_reducible refine st_newM ?_ ?_); (· rfl)) | ((with_reducible refine bs_oneM ?_ ?_); (· rfl)) | (with_reducible refine bd_of (by with_unfolding_all (simp only [fillL_cons, fillL_nil, nth_eq, blt_eq, cond_beq, over, Value.cells, List.getElem?_cons_zero, List.getElem?_cons_succ, List.length_cons, List.length_nil, Nat.reduceAdd, Nat.reduceSub, Nat.reduceLT, Nat.reduceEqDiff, decide_true, cond_true, Option.map_some, if_true, if_false, Nat.add_one_sub_one, Nat.succ_ne_zero, reduceCtorEq, OfNat.ofNat]; rfl)) ?_) | (with_reducible refine bda_of (by with_unfolding_all rfl) ?_) | (simp -dsimp only [↓cw_ops, ↓cw_seq, ↓cw_ret, ↓cw_cond, ↓seqK_normal, ↓seqK_ret, ↓blockK_ret, ↓getK_same, ↓getK_ne, ↓evK_tmp, ↓evK_string, ↓condV_var, ↓opsW_nil, ↓opsW_d, ↓opW_assign, ↓opW_pick, ↓resK_one, ↓r54_8_w, ↓s54_9_w, ↓s54_15_w, brK_true, ne_eq, Nat.reduceEqDiff, not_false_eq_true, e]))
        exact hK
      | false =>
        rw [hg] at hK
        repeat' (first | done | ((with_reducible refine brK_yes ?_ ?_); (· omega)) | ((with_reducible refine brK_no ?_ ?_); (· omega)) | (with_reducible refine brK_both (fun _ => ?_) (fun _ => ?_)) | ((with_reducible refine And.intro (And.intro ?_ ?_) ?_); (· omega); (· omega)) | ((with_reducible refine And.intro ?_ ?_); (· omega)) | (with_reducible refine And.intro (show List.all _ oneCell = true from rfl) ?_) | ((with_reducible refine st_newM ?_ ?_); (· rfl)) | ((with_reducible refine bs_oneM ?_ ?_); (· rfl)) | (with_reducible refine bd_of (by with_unfolding_all (simp only [fillL_cons, fillL_nil, nth_eq, blt_eq, cond_beq, over, Value.cells, List.getElem?_cons_zero, List.getElem?_cons_succ, List.length_cons, List.length_nil, Nat.reduceAdd, Nat.reduceSub, Nat.reduceLT, Nat.reduceEqDiff, decide_true, cond_true, Option.map_some, if_true, if_false, Nat.add_one_sub_one, Nat.succ_ne_zero, reduceCtorEq, OfNat.ofNat]; rfl)) ?_) | (with_reducible refine bda_of (by with_unfolding_all rfl) ?_) | (simp -dsimp only [↓cw_ops, ↓cw_seq, ↓cw_ret, ↓cw_cond, ↓seqK_normal, ↓seqK_ret, ↓blockK_ret, ↓getK_same, ↓getK_ne, ↓evK_tmp, ↓evK_string, ↓evK_float, ↓condV_var, ↓opsW_nil, ↓opsW_d, ↓opW_move, ↓opW_assign, ↓opW_pick, ↓opW_bin, ↓resK_one, ↓setAll_cons, ↓setAll_nil, ↓r54_10_w, ↓s54_11_w, ↓s54_12_w, ↓r54_13_w, ↓s54_14_w, ↓s54_15_w, brK_true, brK_false, ne_eq, Nat.reduceEqDiff, not_false_eq_true, Bool.false_eq_true,  bin_eqlF, e]))
        exact hK
    · rw [if_neg h0] at hK o0
      have e : (Ieee.double.order n 0 == some .eq) = false := by rw [o0]; cases negN n <;> rfl
      repeat' (first | done | ((with_reducible refine brK_yes ?_ ?_); (· omega)) | ((with_reducible refine brK_no ?_ ?_); (· omega)) | (with_reducible refine brK_both (fun _ => ?_) (fun _ => ?_)) | ((with_reducible refine And.intro (And.intro ?_ ?_) ?_); (· omega); (· omega)) | ((with_reducible refine And.intro ?_ ?_); (· omega)) | (with_reducible refine And.intro (show List.all _ oneCell = true from rfl) ?_) | ((with_reducible refine st_newM ?_ ?_); (· rfl)) | ((with_reducible refine bs_oneM ?_ ?_); (· rfl)) | (with_reducible refine bd_of (by with_unfolding_all (simp only [fillL_cons, fillL_nil, nth_eq, blt_eq, cond_beq, over, Value.cells, List.getElem?_cons_zero, List.getElem?_cons_succ, List.length_cons, List.length_nil, Nat.reduceAdd, Nat.reduceSub, Nat.reduceLT, Nat.reduceEqDiff, decide_true, cond_true, Option.map_some, if_true, if_false, Nat.add_one_sub_one, Nat.succ_ne_zero, reduceCtorEq, OfNat.ofNat]; rfl)) ?_) | (with_reducible refine bda_of (by with_unfolding_all rfl) ?_) | (simp -dsimp only [↓cw_skip, ↓cw_ops, ↓cw_seq, ↓cw_ret, ↓cw_cond, ↓seqK_normal, ↓blockK_normal, ↓getK_same, ↓getK_ne, ↓evK_tmp, ↓evK_bool, ↓evK_string, ↓evK_float, ↓condV_var, ↓gdV_var, ↓opsW_nil, ↓opsW_d, ↓opsW_gd, ↓opW_move, ↓opW_assign, ↓opW_pick, ↓opW_bin, ↓resK_one, ↓setAll_cons, ↓setAll_nil, ↓r54_0_w, ↓s54_1_w, ↓s54_12_w, ↓r54_13_w, ↓s54_14_w, ↓s54_15_w, ↓r54_16_w, ↓s54_17_w, ↓s54_18_w, brK_false, ne_eq, Nat.reduceEqDiff, not_false_eq_true, Bool.false_eq_true,  bin_eqlF, e]))
      exact hK
end Go.Proofs.YtjcmcoabckkjoaaDoor.Li

