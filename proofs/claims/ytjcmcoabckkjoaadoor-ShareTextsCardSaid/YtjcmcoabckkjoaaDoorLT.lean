/- Both texts of a number. Conditions: each theorem's own. -/
import Derived.Test.YtjcmcoabckkjoaaDoorLG
import Derived.Lib.ItoaLen
set_option linter.unusedSimpArgs false
set_option linter.unusedVariables false
namespace Go.Proofs.YtjcmcoabckkjoaaDoor.Li
open Go.Ev
set_option maxRecDepth 100000
set_option maxHeartbeats 400000
def signL (n : Nat) : List UInt8 := if negN n then [45] else []
def expE (n : Nat) : Nat := rungN n / 4503599627370496
def mant (n : Nat) : Nat := if expE n = 0 then rungN n else rungN n % 4503599627370496 + 4503599627370496
def expo (n : Nat) : Int := (max (expE n) 1 : Nat) - 1075
def tailB (k : Int) : List UInt8 := if 0 < k then [42, 50, 94] ++ Lib.itoa k else if k < 0 then [47, 50, 94] ++ Lib.itoa (-k) else []
def textB (n : Nat) : List UInt8 :=
  if classB n ≠ [] then classB n else signL n ++ Lib.decDigits (mant n / 2 ^ Lib.ctz 64 (mant n)) ++ tailB (expo n + (Lib.ctz 64 (mant n) : Nat))
structure Fin (n : Nat) : Prop where
  lt : n < 18446744073709551616
  pos : 0 < rungN n
  fin : rungN n < 9218868437227405312
theorem Fin.of {n : Nat} (hn : n < 18446744073709551616) (hc : classB n = []) : Fin n := by
  unfold classB at hc
  have hi := isNan_iff n
  cases hnan : isNan n with
  | true => rw [hnan] at hc; simp at hc
  | false =>
    rw [hnan] at hc hi
    have hi := of_decide_eq_false hi.symm
    simp only [Bool.false_eq_true, if_false] at hc
    by_cases h1 : rungN n = 9218868437227405312
    · rw [if_pos h1] at hc; split at hc <;> simp at hc
    · rw [if_neg h1] at hc
      by_cases h2 : rungN n = 0
      · rw [if_pos h2] at hc; split at hc <;> simp at hc
      · exact ⟨hn, by omega, by omega⟩
theorem Fin.mant {n : Nat} (f : Fin n) : mant n ≠ 0 ∧ mant n < 9007199254740992 := by
  obtain ⟨h1, h2, h3⟩ := f
  unfold Li.mant expE
  split <;> omega
theorem Fin.exp {n : Nat} (f : Fin n) : expE n ≤ 2046 := by
  obtain ⟨h1, h2, h3⟩ := f
  unfold expE; omega
theorem class_cases (n : Nat) : classB n = [] ∨ classB n = [110, 97, 110] ∨ classB n = [45, 105, 110, 102] ∨ classB n = [105, 110, 102] ∨ classB n = [45, 48] ∨ classB n = [48] := by
  unfold classB
  split
  · simp
  · split
    · split <;> simp
    · split
      · split <;> simp
      · simp
theorem mask_low {r : Nat} (hr : r < 18446744073709551616) : IntKind.wrap .u64 ((BitVec.ofInt IntKind.u64.bits (r : Int) &&& BitVec.ofInt IntKind.u64.bits 4503599627370495).toNat : Int) = ((r % 4503599627370496 : Nat) : Int) := by
  have h1 : (BitVec.ofInt IntKind.u64.bits (r : Int) &&& BitVec.ofInt IntKind.u64.bits 4503599627370495).toNat = r % 4503599627370496 := by
    show (BitVec.ofInt 64 (r : Int) &&& BitVec.ofInt 64 ((4503599627370495 : Nat) : Int)).toNat = _
    rw [BitVec.toNat_and, BitVec.ofInt_natCast, BitVec.ofInt_natCast, BitVec.toNat_ofNat, BitVec.toNat_ofNat, Nat.mod_eq_of_lt (by omega), Nat.mod_eq_of_lt (by omega)]
    exact Nat.and_two_pow_sub_one_eq_mod r 52
  rw [h1]
  exact wrap_u64 (by omega) (by omega)
theorem or_high {r : Nat} (hr : r < 4503599627370496) : IntKind.wrap .u64 ((BitVec.ofInt IntKind.u64.bits (r : Int) ||| BitVec.ofInt IntKind.u64.bits 4503599627370496).toNat : Int) = ((r + 4503599627370496 : Nat) : Int) := by
  have h1 : (BitVec.ofInt IntKind.u64.bits (r : Int) ||| BitVec.ofInt IntKind.u64.bits 4503599627370496).toNat = r + 4503599627370496 := by
    show (BitVec.ofInt 64 (r : Int) ||| BitVec.ofInt 64 ((4503599627370496 : Nat) : Int)).toNat = _
    rw [BitVec.toNat_or, BitVec.ofInt_natCast, BitVec.ofInt_natCast, BitVec.toNat_ofNat, BitVec.toNat_ofNat, Nat.mod_eq_of_lt (by omega), Nat.mod_eq_of_lt (by omega), Nat.or_comm]
    have := Nat.two_pow_add_eq_or_of_lt (i := 52) (b := r) hr 1
    rw [Nat.mul_one] at this
    rw [show (4503599627370496 : Nat) = 2 ^ 52 from rfl, ← this, Nat.add_comm]
  rw [h1]
  exact wrap_u64 (by omega) (by omega)
theorem fdiv_pow (m t : Nat) (ht : t < 64) : ((m : Nat) : Int).fdiv (2 ^ min ((t : Nat) : Int).toNat IntKind.u64.bits) = ((m / 2 ^ t : Nat) : Int) := by
  have : min ((t : Nat) : Int).toNat IntKind.u64.bits = t := by
    have : IntKind.u64.bits = 64 := rfl
    rw [this, Int.toNat_natCast]; omega
  rw [this]
  exact Int.fdiv_eq_ediv_of_nonneg _ (Int.pow_nonneg (by decide))
theorem text_no {h : Heap} {K : Value → Heap → Prop} (hK : K (strV [110, 97, 110]) h) : Ret env (.func 34) [.chan none] h K := by
  refine F34 rfl ?_
  repeat' (first | done | ((with_reducible refine brK_yes ?_ ?_); (· omega)) | ((with_reducible refine brK_no ?_ ?_); (· omega)) | (with_reducible refine brK_both (fun _ => ?_) (fun _ => ?_)) | ((with_reducible refine And.intro (And.intro ?_ ?_) ?_); (· omega); (· omega)) | ((with_reducible refine And.intro ?_ ?_); (· omega)) | (with_reducible refine And.intro (show List.all _ oneCell = true from rfl) ?_) | ((with_reducible refine st_newM ?_ ?_); (· rfl)) | ((with_reducible refine bs_oneM ?_ ?_); (· rfl)) | (with_reducible refine bd_of (by with_unfolding_all (simp only [fillL_cons, fillL_nil, nth_eq, blt_eq, cond_beq, over, Value.cells, List.getElem?_cons_zero, List.getElem?_cons_succ, List.length_cons, List.length_nil, Nat.reduceAdd, Nat.reduceSub, Nat.reduceLT, Nat.reduceEqDiff, decide_true, cond_true, Option.map_some, if_true, if_false, Nat.add_one_sub_one, Nat.succ_ne_zero, reduceCtorEq, OfNat.ofNat]; rfl)) ?_) | (with_reducible refine bda_of (by with_unfolding_all rfl) ?_) | (simp -dsimp only [↓cw_ops, ↓cw_seq, ↓seqK_normal, ↓getK_same, ↓getK_ne, ↓evK_tmp, ↓evK_string, ↓opsW_nil, ↓opsW_d, ↓opW_move, ↓opW_assign, ↓evs_nil, ↓evs_cons, ↓opW_call, ↓setAll_cons, ↓setAll_nil, ↓r34_42_w, ↓s34_43_w, ↓s34_44_w, ↓r34_45_w, ↓s34_46_w, ne_eq, Nat.reduceEqDiff, not_false_eq_true]))
  refine class_no ?_
  unfold strV at hK ⊢
  repeat' (first | done | ((with_reducible refine brK_yes ?_ ?_); (· omega)) | ((with_reducible refine brK_no ?_ ?_); (· omega)) | (with_reducible refine brK_both (fun _ => ?_) (fun _ => ?_)) | ((with_reducible refine And.intro (And.intro ?_ ?_) ?_); (· omega); (· omega)) | ((with_reducible refine And.intro ?_ ?_); (· omega)) | (with_reducible refine And.intro (show List.all _ oneCell = true from rfl) ?_) | ((with_reducible refine st_newM ?_ ?_); (· rfl)) | ((with_reducible refine bs_oneM ?_ ?_); (· rfl)) | (with_reducible refine bd_of (by with_unfolding_all (simp only [fillL_cons, fillL_nil, nth_eq, blt_eq, cond_beq, over, Value.cells, List.getElem?_cons_zero, List.getElem?_cons_succ, List.length_cons, List.length_nil, Nat.reduceAdd, Nat.reduceSub, Nat.reduceLT, Nat.reduceEqDiff, decide_true, cond_true, Option.map_some, if_true, if_false, Nat.add_one_sub_one, Nat.succ_ne_zero, reduceCtorEq, OfNat.ofNat]; rfl)) ?_) | (with_reducible refine bda_of (by with_unfolding_all rfl) ?_) | (simp -dsimp only [↓cw_skip, ↓cw_ops, ↓cw_seq, ↓cw_ret, ↓cw_cond, ↓seqK_normal, ↓seqK_ret, ↓getK_same, ↓getK_ne, ↓evK_tmp, ↓evK_string, ↓evK_float, ↓condV_var, ↓opsW_nil, ↓opsW_d, ↓opW_move, ↓opW_assign, ↓opW_bin, ↓resK_one, ↓setAll_cons, ↓setAll_nil, ↓bin_neqS, ↓r34_32_w, ↓s34_33_w, ↓s34_34_w, ↓r34_35_w, ↓s34_36_w, ↓r34_37_w, ↓s34_38_w, ↓s34_39_w, ↓r34_40_w, ↓s34_41_w, brK_true, brK_false, ne_eq, Nat.reduceEqDiff, not_false_eq_true, Bool.false_eq_true]))
  · rename_i he; exact absurd he (by decide)
  · exact hK
theorem text_tail {n : Nat} {h : Heap} {K : Value → Heap → Prop} {fr : Fr} {s : List UInt8} (f : Fin n) (hs : s.length ≤ 1) (ht : tabsOk tabs h = true) (hh : 2 < h.n) (g5 : fr.get 5 = some (.int .u64 (rungN n))) (g4 : fr.get 4 = some (strV s))
    (hK : ∀ h', ExtB h.n h h' → K (strV (s ++ Lib.decDigits (mant n / 2 ^ Lib.ctz 64 (mant n)) ++ tailB (expo n + (Lib.ctz 64 (mant n) : Nat)))) h') : s34_26.wp env 58 none fr h (resK env [.tmp 2] K) := by
  have g5' := g5
  have g4' := g4
  have g5 := getK_of g5
  have g4 := getK_of g4
  have hr : rungN n < 18446744073709551616 := by have := f.fin; omega
  have he := f.exp
  obtain ⟨hm0, hm⟩ := f.mant
  have c1 : (rungN n : Int).fdiv (2 ^ min (52 : Int).toNat IntKind.u64.bits) = (expE n : Int) := fdiv_pow (rungN n) 52 (by decide)
  have c2 : IntKind.wrap .i64 (expE n : Int) = (expE n : Int) := wrap_i64 (by omega) (by omega)
  have c3 : IntKind.wrap .i64 (max (expE n : Int) 1 - 1075) = expo n := by rw [wrap_i64 (by omega) (by omega)]; unfold expo; omega
  obtain ⟨mm, hodd, hct⟩ := ctz_odd hm0 (by omega)
  have c4 : IntKind.wrap .i64 (expo n + (Lib.ctz 64 (mant n) : Nat)) = expo n + (Lib.ctz 64 (mant n) : Nat) := by unfold expo; rw [wrap_i64 (by omega) (by omega)]
  have c5 := fdiv_pow (mant n) (Lib.ctz 64 (mant n)) hct
  have hq : mant n / 2 ^ Lib.ctz 64 (mant n) ≤ mant n := Nat.div_le_self _ _
  have c6 := mask_low hr
  have c7 := or_high (r := rungN n % 4503599627370496) (by omega)
  have hk1 : -1074 ≤ expo n ∧ expo n ≤ 971 := by unfold expo; omega
  have key : ∀ (fr : Fr), fr.get 5 = some (.int .u64 (mant n)) → fr.get 4 = some (strV s) → fr.get 6 = some (.int .i64 (expo n)) → s34_18.wp env 58 none fr h (resK env [.tmp 2] K) := by
    intro fr g5 g4 g6
    have g5 := getK_of g5
    have g4 := getK_of g4
    have g6 := getK_of g6
    unfold strV at g4 hK
    have hd := dec_le (u := mant n / 2 ^ Lib.ctz 64 (mant n)) (by omega)
    repeat' (first | done | ((with_reducible refine brK_yes ?_ ?_); (· omega)) | ((with_reducible refine brK_no ?_ ?_); (· omega)) | (with_reducible refine brK_both (fun _ => ?_) (fun _ => ?_)) | ((with_reducible refine And.intro (And.intro ?_ ?_) ?_); (· omega); (· omega)) | ((with_reducible refine And.intro ?_ ?_); (· omega)) | (with_reducible refine And.intro (show List.all _ oneCell = true from rfl) ?_) | ((with_reducible refine st_newM ?_ ?_); (· rfl)) | ((with_reducible refine bs_oneM ?_ ?_); (· rfl)) | (with_reducible refine bd_of (by with_unfolding_all (simp only [fillL_cons, fillL_nil, nth_eq, blt_eq, cond_beq, over, Value.cells, List.getElem?_cons_zero, List.getElem?_cons_succ, List.length_cons, List.length_nil, Nat.reduceAdd, Nat.reduceSub, Nat.reduceLT, Nat.reduceEqDiff, decide_true, cond_true, Option.map_some, if_true, if_false, Nat.add_one_sub_one, Nat.succ_ne_zero, reduceCtorEq, OfNat.ofNat]; rfl)) ?_) | (with_reducible refine bda_of (by with_unfolding_all rfl) ?_) | (simp -dsimp only [↓cw_ops, ↓cw_seq, ↓getK_same, ↓evK_tmp, ↓opsW_d, ↓opW_move, ↓evs_nil, ↓evs_cons, ↓opW_call, ↓r34_17_w, ↓s34_18_w, ↓g5]))
    refine tz_ret ht (by omega) ?_
    generalize Lib.ctz 64 (mant n) = t at *
    rw [Int.toNat_natCast] at c5
    generalize mant n / 2 ^ t = q at *
    repeat' (first | done | ((with_reducible refine brK_yes ?_ ?_); (· omega)) | ((with_reducible refine brK_no ?_ ?_); (· omega)) | (with_reducible refine brK_both (fun _ => ?_) (fun _ => ?_)) | ((with_reducible refine And.intro (And.intro ?_ ?_) ?_); (· omega); (· omega)) | ((with_reducible refine And.intro ?_ ?_); (· omega)) | (with_reducible refine And.intro (show List.all _ oneCell = true from rfl) ?_) | ((with_reducible refine st_newM ?_ ?_); (· rfl)) | ((with_reducible refine bs_oneM ?_ ?_); (· rfl)) | (with_reducible refine bd_of (by with_unfolding_all (simp only [fillL_cons, fillL_nil, nth_eq, blt_eq, cond_beq, over, Value.cells, List.getElem?_cons_zero, List.getElem?_cons_succ, List.length_cons, List.length_nil, Nat.reduceAdd, Nat.reduceSub, Nat.reduceLT, Nat.reduceEqDiff, decide_true, cond_true, Option.map_some, if_true, if_false, Nat.add_one_sub_one, Nat.succ_ne_zero, reduceCtorEq, OfNat.ofNat]; rfl)) ?_) | (with_reducible refine bda_of (by with_unfolding_all rfl) ?_) | (simp -dsimp only [↓cw_ops, ↓cw_seq, ↓seqK_normal, ↓getK_same, ↓getK_ne, ↓evK_tmp, ↓evK_int, ↓opsW_nil, ↓opsW_d, ↓opW_move, ↓opW_assign, ↓opW_bin, ↓bin_add, ↓bin_shr, ↓evs_nil, ↓evs_cons, ↓opW_call, ↓r34_13_w, ↓s34_14_w, ↓r34_15_w, ↓s34_16_w, ne_eq, Nat.reduceEqDiff, not_false_eq_true, Int.toNat_natCast, ↓g4, ↓g5, ↓g6, c5]))
    refine FormatUint_ret ht hh (by omega) fun h' X => ?_
    have n1 := X.n
    have ht' := tabs_ext hh X ht
    unfold decV
    by_cases hp : 0 < expo n + (t : Int)
    · have hl := Lib.itoa_length_le (expo n + (t : Int)) (by omega) (by omega)
      have htl : tailB (expo n + (t : Int)) = [42, 50, 94] ++ Lib.itoa (expo n + (t : Int)) := by unfold tailB; rw [if_pos hp]
      rw [htl] at hK
      repeat' (first | done | ((with_reducible refine brK_yes ?_ ?_); (· omega)) | ((with_reducible refine brK_no ?_ ?_); (· omega)) | (with_reducible refine brK_both (fun _ => ?_) (fun _ => ?_)) | ((with_reducible refine And.intro (And.intro ?_ ?_) ?_); (· omega); (· omega)) | ((with_reducible refine And.intro ?_ ?_); (· omega)) | (with_reducible refine And.intro (show List.all _ oneCell = true from rfl) ?_) | ((with_reducible refine st_newM ?_ ?_); (· rfl)) | ((with_reducible refine bs_oneM ?_ ?_); (· rfl)) | (with_reducible refine bd_of (by with_unfolding_all (simp only [fillL_cons, fillL_nil, nth_eq, blt_eq, cond_beq, over, Value.cells, List.getElem?_cons_zero, List.getElem?_cons_succ, List.length_cons, List.length_nil, Nat.reduceAdd, Nat.reduceSub, Nat.reduceLT, Nat.reduceEqDiff, decide_true, cond_true, Option.map_some, if_true, if_false, Nat.add_one_sub_one, Nat.succ_ne_zero, reduceCtorEq, OfNat.ofNat]; rfl)) ?_) | (with_reducible refine bda_of (by with_unfolding_all rfl) ?_) | (simp -dsimp only [↓cw_ops, ↓cw_seq, ↓cw_block, ↓cw_cond, ↓seqK_normal, ↓getK_same, ↓getK_ne, ↓evK_tmp, ↓evK_int, ↓evK_string, ↓condV_var, ↓opsW_nil, ↓opsW_d, ↓opW_move, ↓opW_assign, ↓opW_bin, ↓bin_gtr, ↓evs_nil, ↓evs_cons, ↓opW_call, ↓r34_2_w, ↓s34_3_w, ↓s34_9_w, ↓r34_10_w, ↓s34_11_w, ↓s34_12_w, List.length_cons, List.length_nil, brK_true, ne_eq, Nat.reduceEqDiff, Nat.reduceAdd, not_false_eq_true, c4, bin_addS, app_str, str_size, List.length_append]))
      refine Itoa_ret ht' (by omega) (by omega) (by omega) fun h2 X2 => ?_
      unfold itoaV
      repeat' (first | done | ((with_reducible refine brK_yes ?_ ?_); (· omega)) | ((with_reducible refine brK_no ?_ ?_); (· omega)) | (with_reducible refine brK_both (fun _ => ?_) (fun _ => ?_)) | ((with_reducible refine And.intro (And.intro ?_ ?_) ?_); (· omega); (· omega)) | ((with_reducible refine And.intro ?_ ?_); (· omega)) | (with_reducible refine And.intro (show List.all _ oneCell = true from rfl) ?_) | ((with_reducible refine st_newM ?_ ?_); (· rfl)) | ((with_reducible refine bs_oneM ?_ ?_); (· rfl)) | (with_reducible refine bd_of (by with_unfolding_all (simp only [fillL_cons, fillL_nil, nth_eq, blt_eq, cond_beq, over, Value.cells, List.getElem?_cons_zero, List.getElem?_cons_succ, List.length_cons, List.length_nil, Nat.reduceAdd, Nat.reduceSub, Nat.reduceLT, Nat.reduceEqDiff, decide_true, cond_true, Option.map_some, if_true, if_false, Nat.add_one_sub_one, Nat.succ_ne_zero, reduceCtorEq, OfNat.ofNat]; rfl)) ?_) | (with_reducible refine bda_of (by with_unfolding_all rfl) ?_) | (simp -dsimp only [↓cw_ret, ↓seqK_normal, ↓seqK_ret, ↓blockK_ret, ↓getK_same, ↓getK_ne, ↓evK_tmp, ↓opsW_nil, ↓opsW_d, ↓opW_assign, ↓opW_bin, ↓resK_one, List.length_cons, List.length_nil, ne_eq, Nat.reduceEqDiff, Nat.reduceAdd, not_false_eq_true, bin_addS, app_str, str_size, List.length_append]))
      have := hK h2 (X.trans (X2.mono n1))
      simpa [List.append_assoc] using this
    by_cases hng : expo n + (t : Int) < 0
    · have hl := Lib.itoa_length_le (-(expo n + (t : Int))) (by omega) (by omega)
      have htl : tailB (expo n + (t : Int)) = [47, 50, 94] ++ Lib.itoa (-(expo n + (t : Int))) := by unfold tailB; rw [if_neg hp, if_pos hng]
      rw [htl] at hK
      have c8 : IntKind.wrap .i64 (0 - (expo n + (t : Int))) = -(expo n + (t : Int)) := by rw [wrap_i64 (by omega) (by omega)]; omega
      repeat' (first | done | ((with_reducible refine brK_yes ?_ ?_); (· omega)) | ((with_reducible refine brK_no ?_ ?_); (· omega)) | (with_reducible refine brK_both (fun _ => ?_) (fun _ => ?_)) | ((with_reducible refine And.intro (And.intro ?_ ?_) ?_); (· omega); (· omega)) | ((with_reducible refine And.intro ?_ ?_); (· omega)) | (with_reducible refine And.intro (show List.all _ oneCell = true from rfl) ?_) | ((with_reducible refine st_newM ?_ ?_); (· rfl)) | ((with_reducible refine bs_oneM ?_ ?_); (· rfl)) | (with_reducible refine bd_of (by with_unfolding_all (simp only [fillL_cons, fillL_nil, nth_eq, blt_eq, cond_beq, over, Value.cells, List.getElem?_cons_zero, List.getElem?_cons_succ, List.length_cons, List.length_nil, Nat.reduceAdd, Nat.reduceSub, Nat.reduceLT, Nat.reduceEqDiff, decide_true, cond_true, Option.map_some, if_true, if_false, Nat.add_one_sub_one, Nat.succ_ne_zero, reduceCtorEq, OfNat.ofNat]; rfl)) ?_) | (with_reducible refine bda_of (by with_unfolding_all rfl) ?_) | (simp -dsimp only [↓cw_ops, ↓cw_seq, ↓cw_block, ↓cw_cond, ↓seqK_normal, ↓getK_same, ↓getK_ne, ↓evK_tmp, ↓evK_int, ↓evK_string, ↓condV_var, ↓opsW_nil, ↓opsW_d, ↓opW_move, ↓opW_assign, ↓opW_bin, ↓bin_lss, ↓bin_gtr, ↓evs_nil, ↓evs_cons, ↓opW_call, ↓opW_un, ↓un_neg, ↓r34_4_w, ↓s34_5_w, ↓s34_6_w, ↓r34_7_w, ↓s34_8_w, ↓s34_9_w, ↓r34_10_w, ↓s34_11_w, ↓s34_12_w, List.length_cons, List.length_nil, brK_true, brK_false, ne_eq, Nat.reduceEqDiff, Nat.reduceAdd, not_false_eq_true, Bool.false_eq_true,  c4, c8, bin_addS, app_str, str_size, List.length_append]))
      refine Itoa_ret ht' (by omega) (by omega) (by omega) fun h2 X2 => ?_
      unfold itoaV
      repeat' (first | done | ((with_reducible refine brK_yes ?_ ?_); (· omega)) | ((with_reducible refine brK_no ?_ ?_); (· omega)) | (with_reducible refine brK_both (fun _ => ?_) (fun _ => ?_)) | ((with_reducible refine And.intro (And.intro ?_ ?_) ?_); (· omega); (· omega)) | ((with_reducible refine And.intro ?_ ?_); (· omega)) | (with_reducible refine And.intro (show List.all _ oneCell = true from rfl) ?_) | ((with_reducible refine st_newM ?_ ?_); (· rfl)) | ((with_reducible refine bs_oneM ?_ ?_); (· rfl)) | (with_reducible refine bd_of (by with_unfolding_all (simp only [fillL_cons, fillL_nil, nth_eq, blt_eq, cond_beq, over, Value.cells, List.getElem?_cons_zero, List.getElem?_cons_succ, List.length_cons, List.length_nil, Nat.reduceAdd, Nat.reduceSub, Nat.reduceLT, Nat.reduceEqDiff, decide_true, cond_true, Option.map_some, if_true, if_false, Nat.add_one_sub_one, Nat.succ_ne_zero, reduceCtorEq, OfNat.ofNat]; rfl)) ?_) | (with_reducible refine bda_of (by with_unfolding_all rfl) ?_) | (simp -dsimp only [↓cw_ret, ↓seqK_normal, ↓seqK_ret, ↓blockK_ret, ↓getK_same, ↓getK_ne, ↓evK_tmp, ↓opsW_nil, ↓opsW_d, ↓opW_assign, ↓opW_bin, ↓resK_one, List.length_cons, List.length_nil, ne_eq, Nat.reduceEqDiff, Nat.reduceAdd, not_false_eq_true, bin_addS, app_str, str_size, List.length_append]))
      have := hK h2 (X.trans (X2.mono n1))
      simpa [List.append_assoc] using this
    · have htl : tailB (expo n + (t : Int)) = [] := by unfold tailB; rw [if_neg hp, if_neg hng]
      rw [htl] at hK
      repeat' (first | done | ((with_reducible refine brK_yes ?_ ?_); (· omega)) | ((with_reducible refine brK_no ?_ ?_); (· omega)) | (with_reducible refine brK_both (fun _ => ?_) (fun _ => ?_)) | ((with_reducible refine And.intro (And.intro ?_ ?_) ?_); (· omega); (· omega)) | ((with_reducible refine And.intro ?_ ?_); (· omega)) | (with_reducible refine And.intro (show List.all _ oneCell = true from rfl) ?_) | ((with_reducible refine st_newM ?_ ?_); (· rfl)) | ((with_reducible refine bs_oneM ?_ ?_); (· rfl)) | (with_reducible refine bd_of (by with_unfolding_all (simp only [fillL_cons, fillL_nil, nth_eq, blt_eq, cond_beq, over, Value.cells, List.getElem?_cons_zero, List.getElem?_cons_succ, List.length_cons, List.length_nil, Nat.reduceAdd, Nat.reduceSub, Nat.reduceLT, Nat.reduceEqDiff, decide_true, cond_true, Option.map_some, if_true, if_false, Nat.add_one_sub_one, Nat.succ_ne_zero, reduceCtorEq, OfNat.ofNat]; rfl)) ?_) | (with_reducible refine bda_of (by with_unfolding_all rfl) ?_) | (simp -dsimp only [↓cw_skip, ↓cw_ops, ↓cw_seq, ↓cw_block, ↓cw_ret, ↓cw_cond, ↓seqK_normal, ↓blockK_normal, ↓getK_same, ↓getK_ne, ↓evK_tmp, ↓evK_int, ↓condV_var, ↓opsW_nil, ↓opsW_d, ↓opW_move, ↓opW_assign, ↓opW_bin, ↓bin_lss, ↓bin_gtr, ↓resK_one, ↓r34_0_w, ↓s34_1_w, ↓s34_6_w, ↓r34_7_w, ↓s34_8_w, ↓s34_9_w, ↓r34_10_w, ↓s34_11_w, ↓s34_12_w, brK_false, ne_eq, Nat.reduceEqDiff, not_false_eq_true, Bool.false_eq_true,  c4, bin_addS, app_str, str_size]))
      have := hK h' X
      simpa using this
  by_cases hge : 4503599627370496 ≤ rungN n
  · have hmv : mant n = rungN n % 4503599627370496 + 4503599627370496 := by unfold mant expE; rw [if_neg (by omega)]
    repeat' (first | done | ((with_reducible refine brK_yes ?_ ?_); (· omega)) | ((with_reducible refine brK_no ?_ ?_); (· omega)) | (with_reducible refine brK_both (fun _ => ?_) (fun _ => ?_)) | ((with_reducible refine And.intro (And.intro ?_ ?_) ?_); (· omega); (· omega)) | ((with_reducible refine And.intro ?_ ?_); (· omega)) | (with_reducible refine And.intro (show List.all _ oneCell = true from rfl) ?_) | ((with_reducible refine st_newM ?_ ?_); (· rfl)) | ((with_reducible refine bs_oneM ?_ ?_); (· rfl)) | (with_reducible refine bd_of (by with_unfolding_all (simp only [fillL_cons, fillL_nil, nth_eq, blt_eq, cond_beq, over, Value.cells, List.getElem?_cons_zero, List.getElem?_cons_succ, List.length_cons, List.length_nil, Nat.reduceAdd, Nat.reduceSub, Nat.reduceLT, Nat.reduceEqDiff, decide_true, cond_true, Option.map_some, if_true, if_false, Nat.add_one_sub_one, Nat.succ_ne_zero, reduceCtorEq, OfNat.ofNat]; rfl)) ?_) | (with_reducible refine bda_of (by with_unfolding_all rfl) ?_) | (simp -dsimp only [↓cw_ops, ↓cw_seq, ↓cw_cond, ↓seqK_normal, ↓getK_same, ↓getK_ne, ↓evK_tmp, ↓evK_int, ↓condV_var, ↓opsW_nil, ↓opsW_d, ↓opW_move, ↓opW_assign, ↓opW_bin, ↓bin_sub, ↓bin_shr, ↓bin_geq, ↓cint_int, ↓bin_and, ↓opW_max, ↓max_int, ↓cv_23_3, ↓r34_19_w, ↓s34_20_w, ↓s34_21_w, ↓r34_22_w, ↓s34_23_w, ↓s34_24_w, ↓r34_25_w, ↓s34_26_w, brK_true, ne_eq, Nat.reduceEqDiff, not_false_eq_true, ↓g5, c1, c2, c3, c6, c7, bin_or]))
    exact key _ (by simp [T.get_set, hmv]) (by simp only [T.get_set]; simpa using g4') (by simp [T.get_set])
  · have hmv : mant n = rungN n := by unfold mant expE; rw [if_pos (by omega)]
    repeat' (first | done | ((with_reducible refine brK_yes ?_ ?_); (· omega)) | ((with_reducible refine brK_no ?_ ?_); (· omega)) | (with_reducible refine brK_both (fun _ => ?_) (fun _ => ?_)) | ((with_reducible refine And.intro (And.intro ?_ ?_) ?_); (· omega); (· omega)) | ((with_reducible refine And.intro ?_ ?_); (· omega)) | (with_reducible refine And.intro (show List.all _ oneCell = true from rfl) ?_) | ((with_reducible refine st_newM ?_ ?_); (· rfl)) | ((with_reducible refine bs_oneM ?_ ?_); (· rfl)) | (with_reducible refine bd_of (by with_unfolding_all (simp only [fillL_cons, fillL_nil, nth_eq, blt_eq, cond_beq, over, Value.cells, List.getElem?_cons_zero, List.getElem?_cons_succ, List.length_cons, List.length_nil, Nat.reduceAdd, Nat.reduceSub, Nat.reduceLT, Nat.reduceEqDiff, decide_true, cond_true, Option.map_some, if_true, if_false, Nat.add_one_sub_one, Nat.succ_ne_zero, reduceCtorEq, OfNat.ofNat]; rfl)) ?_) | (with_reducible refine bda_of (by with_unfolding_all rfl) ?_) | (simp -dsimp only [↓cw_skip, ↓cw_ops, ↓cw_seq, ↓cw_cond, ↓seqK_normal, ↓getK_same, ↓getK_ne, ↓evK_tmp, ↓evK_int, ↓condV_var, ↓opsW_nil, ↓opsW_d, ↓opW_move, ↓opW_assign, ↓opW_bin, ↓bin_sub, ↓bin_shr, ↓bin_geq, ↓cint_int, ↓opW_max, ↓max_int, ↓cv_23_3, ↓s34_21_w, ↓r34_22_w, ↓s34_23_w, ↓s34_24_w, ↓r34_25_w, ↓s34_26_w, brK_false, ne_eq, Nat.reduceEqDiff, not_false_eq_true, Bool.false_eq_true,  ↓g5, c1, c2, c3]))
    exact key _ (by simp only [T.get_set]; rw [hmv]; simpa using g5') (by simp only [T.get_set]; simpa using g4') (by simp [T.get_set])
theorem text_ret {n : Nat} {h : Heap} {K : Value → Heap → Prop} (hn : n < 18446744073709551616) (ht : tabsOk tabs h = true) (hh : 2 < h.n) (hK : ∀ h', ExtB h.n h h' → K (strV (textB n)) h') : Ret env (.func 34) [.float .f64 n] h K := by
  refine F34 rfl ?_
  repeat' (first | done | ((with_reducible refine brK_yes ?_ ?_); (· omega)) | ((with_reducible refine brK_no ?_ ?_); (· omega)) | (with_reducible refine brK_both (fun _ => ?_) (fun _ => ?_)) | ((with_reducible refine And.intro (And.intro ?_ ?_) ?_); (· omega); (· omega)) | ((with_reducible refine And.intro ?_ ?_); (· omega)) | (with_reducible refine And.intro (show List.all _ oneCell = true from rfl) ?_) | ((with_reducible refine st_newM ?_ ?_); (· rfl)) | ((with_reducible refine bs_oneM ?_ ?_); (· rfl)) | (with_reducible refine bd_of (by with_unfolding_all (simp only [fillL_cons, fillL_nil, nth_eq, blt_eq, cond_beq, over, Value.cells, List.getElem?_cons_zero, List.getElem?_cons_succ, List.length_cons, List.length_nil, Nat.reduceAdd, Nat.reduceSub, Nat.reduceLT, Nat.reduceEqDiff, decide_true, cond_true, Option.map_some, if_true, if_false, Nat.add_one_sub_one, Nat.succ_ne_zero, reduceCtorEq, OfNat.ofNat]; rfl)) ?_) | (with_reducible refine bda_of (by with_unfolding_all rfl) ?_) | (simp -dsimp only [↓cw_ops, ↓cw_seq, ↓seqK_normal, ↓getK_same, ↓getK_ne, ↓evK_tmp, ↓evK_string, ↓opsW_nil, ↓opsW_d, ↓opW_move, ↓opW_assign, ↓evs_nil, ↓evs_cons, ↓opW_call, ↓setAll_cons, ↓setAll_nil, ↓r34_42_w, ↓s34_43_w, ↓s34_44_w, ↓r34_45_w, ↓s34_46_w, ne_eq, Nat.reduceEqDiff, not_false_eq_true]))
  refine class_ret hn ?_
  by_cases hc : classB n = []
  · have f := Fin.of hn hc
    have o0 := ord_zero hn
    have hnan : isNan n = false := by
      have := isNan_iff n; rw [this]; have := f.fin; exact decide_eq_false (by omega)
    rw [hnan, if_neg (by decide), if_neg (by have := f.pos; omega)] at o0
    have e : (Ieee.double.order n 0 == some .lt) = negN n := by rw [o0]; cases negN n <;> rfl
    rw [hc]
    unfold strV
    have hx := neg_bits hn
    have hK2 : ∀ h', ExtB h.n h h' → K (strV (signL n ++ Lib.decDigits (mant n / 2 ^ Lib.ctz 64 (mant n)) ++ tailB (expo n + (Lib.ctz 64 (mant n) : Nat)))) h' := fun h' X => by
      have := hK h' X
      unfold textB at this
      rw [if_neg (by rw [hc]; simp)] at this
      exact this
    cases hg : negN n with
    | true =>
      rw [hg] at e
      have hxr : n ^^^ 9223372036854775808 = rungN n := by
        unfold negN at hg; have := of_decide_eq_true hg; rw [hx, if_pos this]; unfold rungN; omega
      have hsl : signL n = [45] := by unfold signL; rw [hg]; rfl
      rw [hsl] at hK2
      repeat' (first | done | ((with_reducible refine brK_yes ?_ ?_); (· omega)) | ((with_reducible refine brK_no ?_ ?_); (· omega)) | (with_reducible refine brK_both (fun _ => ?_) (fun _ => ?_)) | ((with_reducible refine And.intro (And.intro ?_ ?_) ?_); (· omega); (· omega)) | ((with_reducible refine And.intro ?_ ?_); (· omega)) | (with_reducible refine And.intro (show List.all _ oneCell = true from rfl) ?_) | ((with_reducible refine st_newM ?_ ?_); (· rfl)) | ((with_reducible refine bs_oneM ?_ ?_); (· rfl)) | (with_reducible refine bd_of (by with_unfolding_all (simp only [fillL_cons, fillL_nil, nth_eq, blt_eq, cond_beq, over, Value.cells, List.getElem?_cons_zero, List.getElem?_cons_succ, List.length_cons, List.length_nil, Nat.reduceAdd, Nat.reduceSub, Nat.reduceLT, Nat.reduceEqDiff, decide_true, cond_true, Option.map_some, if_true, if_false, Nat.add_one_sub_one, Nat.succ_ne_zero, reduceCtorEq, OfNat.ofNat]; rfl)) ?_) | (with_reducible refine bda_of (by with_unfolding_all rfl) ?_) | (simp -dsimp only [↓cw_skip, ↓cw_ops, ↓cw_seq, ↓cw_cond, ↓seqK_normal, ↓getK_same, ↓getK_ne, ↓evK_tmp, ↓evK_string, ↓evK_float, ↓condV_var, ↓opsW_nil, ↓opsW_d, ↓opW_move, ↓opW_assign, ↓opW_bin, ↓evs_nil, ↓evs_cons, ↓opW_call, ↓setAll_cons, ↓setAll_nil, ↓bin_neqS, ↓opW_un, ↓r34_27_w, ↓s34_28_w, ↓r34_29_w, ↓s34_30_w, ↓s34_31_w, ↓r34_32_w, ↓s34_33_w, ↓s34_34_w, ↓r34_35_w, ↓s34_36_w, ↓s34_39_w, ↓r34_40_w, ↓s34_41_w, brK_true, brK_false, ne_eq, Nat.reduceEqDiff, not_false_eq_true, Bool.false_eq_true,  bin_lssF, e, un_negF', hxr]))
      refine bits_fl ?_
      repeat' (first | done | ((with_reducible refine brK_yes ?_ ?_); (· omega)) | ((with_reducible refine brK_no ?_ ?_); (· omega)) | (with_reducible refine brK_both (fun _ => ?_) (fun _ => ?_)) | ((with_reducible refine And.intro (And.intro ?_ ?_) ?_); (· omega); (· omega)) | ((with_reducible refine And.intro ?_ ?_); (· omega)) | (with_reducible refine And.intro (show List.all _ oneCell = true from rfl) ?_) | ((with_reducible refine st_newM ?_ ?_); (· rfl)) | ((with_reducible refine bs_oneM ?_ ?_); (· rfl)) | (with_reducible refine bd_of (by with_unfolding_all (simp only [fillL_cons, fillL_nil, nth_eq, blt_eq, cond_beq, over, Value.cells, List.getElem?_cons_zero, List.getElem?_cons_succ, List.length_cons, List.length_nil, Nat.reduceAdd, Nat.reduceSub, Nat.reduceLT, Nat.reduceEqDiff, decide_true, cond_true, Option.map_some, if_true, if_false, Nat.add_one_sub_one, Nat.succ_ne_zero, reduceCtorEq, OfNat.ofNat]; rfl)) ?_) | (with_reducible refine bda_of (by with_unfolding_all rfl) ?_) | (simp -dsimp only [↓seqK_normal, ↓getK_same, ↓evK_tmp, ↓opsW_nil, ↓opsW_d, ↓opW_assign, ↓setAll_cons, ↓setAll_nil]))
      exact text_tail f (by simp) ht hh (by simp [T.get_set]) (by simp [T.get_set, strV]) hK2
    | false =>
      rw [hg] at e
      have hxr : n = rungN n := by
        unfold negN at hg; have := of_decide_eq_false hg; unfold rungN; omega
      have hsl : signL n = [] := by unfold signL; rw [hg]; rfl
      rw [hsl] at hK2
      repeat' (first | done | ((with_reducible refine brK_yes ?_ ?_); (· omega)) | ((with_reducible refine brK_no ?_ ?_); (· omega)) | (with_reducible refine brK_both (fun _ => ?_) (fun _ => ?_)) | ((with_reducible refine And.intro (And.intro ?_ ?_) ?_); (· omega); (· omega)) | ((with_reducible refine And.intro ?_ ?_); (· omega)) | (with_reducible refine And.intro (show List.all _ oneCell = true from rfl) ?_) | ((with_reducible refine st_newM ?_ ?_); (· rfl)) | ((with_reducible refine bs_oneM ?_ ?_); (· rfl)) | (with_reducible refine bd_of (by with_unfolding_all (simp only [fillL_cons, fillL_nil, nth_eq, blt_eq, cond_beq, over, Value.cells, List.getElem?_cons_zero, List.getElem?_cons_succ, List.length_cons, List.length_nil, Nat.reduceAdd, Nat.reduceSub, Nat.reduceLT, Nat.reduceEqDiff, decide_true, cond_true, Option.map_some, if_true, if_false, Nat.add_one_sub_one, Nat.succ_ne_zero, reduceCtorEq, OfNat.ofNat]; rfl)) ?_) | (with_reducible refine bda_of (by with_unfolding_all rfl) ?_) | (simp -dsimp only [↓cw_skip, ↓cw_ops, ↓cw_seq, ↓cw_cond, ↓seqK_normal, ↓getK_same, ↓getK_ne, ↓evK_tmp, ↓evK_string, ↓evK_float, ↓condV_var, ↓opsW_nil, ↓opsW_d, ↓opW_move, ↓opW_assign, ↓opW_bin, ↓evs_nil, ↓evs_cons, ↓opW_call, ↓setAll_cons, ↓setAll_nil, ↓bin_neqS, ↓r34_27_w, ↓s34_28_w, ↓s34_31_w, ↓r34_32_w, ↓s34_33_w, ↓s34_34_w, ↓r34_35_w, ↓s34_36_w, ↓s34_39_w, ↓r34_40_w, ↓s34_41_w, brK_true, brK_false, ne_eq, Nat.reduceEqDiff, not_false_eq_true, Bool.false_eq_true,  bin_lssF, e]))
      refine bits_fl ?_
      repeat' (first | done | ((with_reducible refine brK_yes ?_ ?_); (· omega)) | ((with_reducible refine brK_no ?_ ?_); (· omega)) | (with_reducible refine brK_both (fun _ => ?_) (fun _ => ?_)) | ((with_reducible refine And.intro (And.intro ?_ ?_) ?_); (· omega); (· omega)) | ((with_reducible refine And.intro ?_ ?_); (· omega)) | (with_reducible refine And.intro (show List.all _ oneCell = true from rfl) ?_) | ((with_reducible refine st_newM ?_ ?_); (· rfl)) | ((with_reducible refine bs_oneM ?_ ?_); (· rfl)) | (with_reducible refine bd_of (by with_unfolding_all (simp only [fillL_cons, fillL_nil, nth_eq, blt_eq, cond_beq, over, Value.cells, List.getElem?_cons_zero, List.getElem?_cons_succ, List.length_cons, List.length_nil, Nat.reduceAdd, Nat.reduceSub, Nat.reduceLT, Nat.reduceEqDiff, decide_true, cond_true, Option.map_some, if_true, if_false, Nat.add_one_sub_one, Nat.succ_ne_zero, reduceCtorEq, OfNat.ofNat]; rfl)) ?_) | (with_reducible refine bda_of (by with_unfolding_all rfl) ?_) | (simp -dsimp only [↓seqK_normal, ↓getK_same, ↓evK_tmp, ↓opsW_nil, ↓opsW_d, ↓opW_assign, ↓setAll_cons, ↓setAll_nil]))
      exact text_tail f (by simp) ht hh (by simp only [T.get_set]; rw [← hxr]; simp) (by simp [T.get_set, strV]) hK2
  · have hk := hK h (ExtB.refl _ _)
    unfold textB at hk
    rw [if_pos hc] at hk
    unfold strV at hk ⊢
    have hne : ¬ ((⟨(classB n).toArray⟩ : ByteArray) = ⟨⟨[]⟩⟩) := fun e => hc (by
      have := congrArg (fun b : ByteArray => b.data.toList) e
      simpa using this)
    repeat' (first | done | ((with_reducible refine brK_yes ?_ ?_); (· omega)) | ((with_reducible refine brK_no ?_ ?_); (· omega)) | (with_reducible refine brK_both (fun _ => ?_) (fun _ => ?_)) | ((with_reducible refine And.intro (And.intro ?_ ?_) ?_); (· omega); (· omega)) | ((with_reducible refine And.intro ?_ ?_); (· omega)) | (with_reducible refine And.intro (show List.all _ oneCell = true from rfl) ?_) | ((with_reducible refine st_newM ?_ ?_); (· rfl)) | ((with_reducible refine bs_oneM ?_ ?_); (· rfl)) | (with_reducible refine bd_of (by with_unfolding_all (simp only [fillL_cons, fillL_nil, nth_eq, blt_eq, cond_beq, over, Value.cells, List.getElem?_cons_zero, List.getElem?_cons_succ, List.length_cons, List.length_nil, Nat.reduceAdd, Nat.reduceSub, Nat.reduceLT, Nat.reduceEqDiff, decide_true, cond_true, Option.map_some, if_true, if_false, Nat.add_one_sub_one, Nat.succ_ne_zero, reduceCtorEq, OfNat.ofNat]; rfl)) ?_) | (with_reducible refine bda_of (by with_unfolding_all rfl) ?_) | (simp -dsimp only [↓cw_ops, ↓cw_seq, ↓cw_ret, ↓cw_cond, ↓seqK_normal, ↓seqK_ret, ↓getK_same, ↓getK_ne, ↓evK_tmp, ↓evK_string, ↓condV_var, ↓opsW_nil, ↓opsW_d, ↓opW_move, ↓opW_assign, ↓opW_bin, ↓resK_one, ↓bin_neqS, ↓r34_37_w, ↓s34_38_w, ↓s34_39_w, ↓r34_40_w, ↓s34_41_w, brK_true, ne_eq, Nat.reduceEqDiff, not_false_eq_true]))
    exact hk
end Go.Proofs.YtjcmcoabckkjoaaDoor.Li

namespace Go.Proofs.YtjcmcoabckkjoaaDoor.Li
open Go.Ev
set_option maxRecDepth 100000
set_option maxHeartbeats 400000
theorem parts_ret {n : Nat} {h : Heap} {K : Value → Heap → Prop} (hn : n < 18446744073709551616)
    (hK : K (.tuple #[.bool (negN n), .int .i64 (expE n), .int .u64 (n % 4503599627370496 : Nat)]) h) : Ret env (.func 40) [.float .f64 n] h K := by
  have e0 : (n : Int).tdiv 4503599627370496 = (n / 4503599627370496 : Nat) := rfl
  have e1 : IntKind.u64.wrap ((n : Int).tdiv 4503599627370496) = (n / 4503599627370496 : Nat) := by rw [e0]; exact wrap_u64 (by omega) (by omega)
  have e2 : ((n / 4503599627370496 : Nat) : Int).tmod 2048 = (n / 4503599627370496 % 2048 : Nat) := rfl
  have e3 : IntKind.i64.wrap (n / 4503599627370496 % 2048 : Nat) = (n / 4503599627370496 % 2048 : Nat) := wrap_i64 (by omega) (by omega)
  have e4 : (n : Int).tmod 4503599627370496 = (n % 4503599627370496 : Nat) := rfl
  have e5 : expE n = n / 4503599627370496 % 2048 := by unfold expE rungN; omega
  rw [e5] at hK
  unfold negN at hK
  refine F40 rfl ?_
  repeat' (first | done | ((with_reducible refine brK_yes ?_ ?_); (· omega)) | ((with_reducible refine brK_no ?_ ?_); (· omega)) | (with_reducible refine brK_both (fun _ => ?_) (fun _ => ?_)) | ((with_reducible refine And.intro (And.intro ?_ ?_) ?_); (· omega); (· omega)) | ((with_reducible refine And.intro ?_ ?_); (· omega)) | (with_reducible refine And.intro (show List.all _ oneCell = true from rfl) ?_) | ((with_reducible refine st_newM ?_ ?_); (· rfl)) | ((with_reducible refine bs_oneM ?_ ?_); (· rfl)) | (with_reducible refine bd_of (by with_unfolding_all (simp only [fillL_cons, fillL_nil, nth_eq, blt_eq, cond_beq, over, Value.cells, List.getElem?_cons_zero, List.getElem?_cons_succ, List.length_cons, List.length_nil, Nat.reduceAdd, Nat.reduceSub, Nat.reduceLT, Nat.reduceEqDiff, decide_true, cond_true, Option.map_some, if_true, if_false, Nat.add_one_sub_one, Nat.succ_ne_zero, reduceCtorEq, OfNat.ofNat]; rfl)) ?_) | (with_reducible refine bda_of (by with_unfolding_all rfl) ?_) | (simp -dsimp only [↓cw_ops, ↓cw_seq, ↓seqK_normal, ↓getK_same, ↓getK_ne, ↓evK_tmp, ↓evK_int, ↓evK_bool, ↓opsW_nil, ↓opsW_d, ↓opW_move, ↓opW_assign, ↓evs_nil, ↓evs_cons, ↓opW_call, ↓setAll_cons, ↓setAll_nil, ↓r40_2_w, ↓s40_3_w, ↓r40_4_w, ↓s40_5_w, ne_eq, Nat.reduceEqDiff, not_false_eq_true]))
  refine bits_fl ?_
  repeat' (first | done | ((with_reducible refine brK_yes ?_ ?_); (· omega)) | ((with_reducible refine brK_no ?_ ?_); (· omega)) | (with_reducible refine brK_both (fun _ => ?_) (fun _ => ?_)) | ((with_reducible refine And.intro (And.intro ?_ ?_) ?_); (· omega); (· omega)) | ((with_reducible refine And.intro ?_ ?_); (· omega)) | (with_reducible refine And.intro (show List.all _ oneCell = true from rfl) ?_) | ((with_reducible refine st_newM ?_ ?_); (· rfl)) | ((with_reducible refine bs_oneM ?_ ?_); (· rfl)) | (with_reducible refine bd_of (by with_unfolding_all (simp only [fillL_cons, fillL_nil, nth_eq, blt_eq, cond_beq, over, Value.cells, List.getElem?_cons_zero, List.getElem?_cons_succ, List.length_cons, List.length_nil, Nat.reduceAdd, Nat.reduceSub, Nat.reduceLT, Nat.reduceEqDiff, decide_true, cond_true, Option.map_some, if_true, if_false, Nat.add_one_sub_one, Nat.succ_ne_zero, reduceCtorEq, OfNat.ofNat]; rfl)) ?_) | (with_reducible refine bda_of (by with_unfolding_all rfl) ?_) | (simp -dsimp only [↓cw_ops, ↓cw_seq, ↓cw_ret, ↓seqK_normal, ↓getK_same, ↓getK_ne, ↓evK_tmp, ↓evK_int, ↓opsW_nil, ↓opsW_d, ↓opW_move, ↓opW_assign, ↓opW_bin, ↓bin_quo, ↓bin_rem, ↓bin_gtr, ↓cint_int, ↓resK_three, ↓cv_23_3, ↓r40_0_w, ↓s40_1_w, ne_eq, Nat.reduceEqDiff, not_false_eq_true, e1, e2, e3, e4]))
  · rename_i hg
    rw [decide_eq_true (by omega)] at hK
    exact hK
  · rename_i hg
    rw [decide_eq_false (by omega)] at hK
    exact hK
theorem refText_no {h : Heap} {K : Value → Heap → Prop} (hK : K (strV [110, 97, 110]) h) : Ret env (.func 36) [.chan none] h K := Ret.ext (v := strV [110, 97, 110]) rfl hK
theorem refText_tail {n : Nat} {h : Heap} {K : Value → Heap → Prop} {fr : Fr} (f : Fin n) (g7 : fr.get 7 = some (.int .u64 (mant n))) (g8 : fr.get 8 = some (.int .i64 (expo n))) (g6 : fr.get 6 = some (strV (signL n)))
    (hK : ∀ h', ExtB h.n h h' → K (strV (signL n ++ Lib.decDigits (mant n / 2 ^ Lib.ctz 64 (mant n)) ++ tailB (expo n + (Lib.ctz 64 (mant n) : Nat)))) h') : s36_26.wp env 68 none fr h (resK env [.tmp 2] K) := by
  have hfe := f.exp
  obtain ⟨hm0, hm⟩ := f.mant
  have hev := fun j => ctz_even (j := j) hm0 (show mant n < 18446744073709551616 by omega)
  have hend := ctz_end hm0 (show mant n < 18446744073709551616 by omega)
  obtain ⟨mm, hodd, hct⟩ := ctz_odd hm0 (show mant n < 18446744073709551616 by omega)
  have hs : (signL n).length ≤ 1 := by unfold signL; split <;> simp
  have hk1 : -1074 ≤ expo n ∧ expo n ≤ 971 := by unfold expo; omega
  have hmle : ∀ j, mant n / 2 ^ j ≤ mant n := fun j => Nat.div_le_self _ _
  generalize hT : Lib.ctz 64 (mant n) = tz at *
  repeat' (first | done | ((with_reducible refine brK_yes ?_ ?_); (· omega)) | ((with_reducible refine brK_no ?_ ?_); (· omega)) | (with_reducible refine brK_both (fun _ => ?_) (fun _ => ?_)) | ((with_reducible refine And.intro (And.intro ?_ ?_) ?_); (· omega); (· omega)) | ((with_reducible refine And.intro ?_ ?_); (· omega)) | (with_reducible refine And.intro (show List.all _ oneCell = true from rfl) ?_) | ((with_reducible refine st_newM ?_ ?_); (· rfl)) | ((with_reducible refine bs_oneM ?_ ?_); (· rfl)) | (with_reducible refine bd_of (by with_unfolding_all (simp only [fillL_cons, fillL_nil, nth_eq, blt_eq, cond_beq, over, Value.cells, List.getElem?_cons_zero, List.getElem?_cons_succ, List.length_cons, List.length_nil, Nat.reduceAdd, Nat.reduceSub, Nat.reduceLT, Nat.reduceEqDiff, decide_true, cond_true, Option.map_some, if_true, if_false, Nat.add_one_sub_one, Nat.succ_ne_zero, reduceCtorEq, OfNat.ofNat]; rfl)) ?_) | (with_reducible refine bda_of (by with_unfolding_all rfl) ?_) | (simp -dsimp only [↓cw_seq, ↓cw_block, ↓s36_25_w, ↓s36_26_w]))
  refine cw_loopI (fun q fr' h' => h' = h ∧ ∃ j : Nat, j ≤ tz ∧ q = tz - j ∧ fr'.get 7 = some (.int .u64 (mant n / 2 ^ j : Nat)) ∧ fr'.get 8 = some (.int .i64 (expo n + j))) tz ?_ (by omega) ?_
  · exact ⟨rfl, 0, by omega, by omega, by simpa using g7, by simpa using g8⟩
  rintro q fr2 h' ⟨rfl, j, hj, rfl, k7, k8⟩ hag
  have k6 := (hag 6 rfl).trans g6
  have e7 := getK_of k7
  have e8 := getK_of k8
  have d1 : ((mant n / 2 ^ j : Nat) : Int).tmod 2 = ((mant n / 2 ^ j % 2 : Nat) : Int) := rfl
  have d2 : ((mant n / 2 ^ j : Nat) : Int).tdiv 2 = ((mant n / 2 ^ j / 2 : Nat) : Int) := rfl
  have hl := hmle j
  have d3 : IntKind.wrap .u64 ((mant n / 2 ^ j / 2 : Nat) : Int) = ((mant n / 2 ^ j / 2 : Nat) : Int) := (fun (z : Nat) (hz : z ≤ mant n) => wrap_u64 (n := ((z / 2 : Nat) : Int)) (by omega) (by omega)) _ hl
  have d4 : mant n / 2 ^ j / 2 = mant n / 2 ^ (j + 1) := by rw [Nat.pow_succ, Nat.div_div_eq_div_mul]
  have d5 : IntKind.wrap .i64 (expo n + (j : Int) + 1) = expo n + ((j + 1 : Nat) : Int) := by rw [wrap_i64 (by omega) (by omega)]; omega
  by_cases hlt : j < tz
  · have d6 := hev j hlt
    repeat' (first | done | ((with_reducible refine brK_yes ?_ ?_); (· omega)) | ((with_reducible refine brK_no ?_ ?_); (· omega)) | (with_reducible refine brK_both (fun _ => ?_) (fun _ => ?_)) | ((with_reducible refine And.intro (And.intro ?_ ?_) ?_); (· omega); (· omega)) | ((with_reducible refine And.intro ?_ ?_); (· omega)) | (with_reducible refine And.intro (show List.all _ oneCell = true from rfl) ?_) | ((with_reducible refine st_newM ?_ ?_); (· rfl)) | ((with_reducible refine bs_oneM ?_ ?_); (· rfl)) | (with_reducible refine bd_of (by with_unfolding_all (simp only [fillL_cons, fillL_nil, nth_eq, blt_eq, cond_beq, over, Value.cells, List.getElem?_cons_zero, List.getElem?_cons_succ, List.length_cons, List.length_nil, Nat.reduceAdd, Nat.reduceSub, Nat.reduceLT, Nat.reduceEqDiff, decide_true, cond_true, Option.map_some, if_true, if_false, Nat.add_one_sub_one, Nat.succ_ne_zero, reduceCtorEq, OfNat.ofNat]; rfl)) ?_) | (with_reducible refine bda_of (by with_unfolding_all rfl) ?_) | (simp -dsimp only [↓cw_skip, ↓cw_ops, ↓cw_seq, ↓cw_block, ↓cw_cond, ↓seqK_normal, ↓blockK_normal, ↓loopK_normal, ↓getK_same, ↓getK_ne, ↓evK_tmp, ↓evK_int, ↓condV_var, ↓opsW_nil, ↓opsW_d, ↓opW_move, ↓opW_assign, ↓opW_bin, ↓bin_add, ↓bin_quo, ↓bin_rem, ↓bin_eql, ↓r36_16_w, ↓s36_17_w, ↓r36_18_w, ↓s36_19_w, ↓s36_20_w, ↓s36_21_w, ↓r36_22_w, ↓s36_23_w, ↓s36_24_w, brK_true, true_and, ne_eq, Nat.reduceEqDiff, not_false_eq_true, ↓e7, ↓e8, d1, d2, d3, d6]))
    refine ⟨tz - (j + 1), by omega, j + 1, by omega, rfl, ?_, ?_⟩
    · simp only [T.get_set]; simp [d4]
    · simp only [T.get_set]; simp [d5]
  · have e : j = tz := by omega
    subst e
    repeat' (first | done | ((with_reducible refine brK_yes ?_ ?_); (· omega)) | ((with_reducible refine brK_no ?_ ?_); (· omega)) | (with_reducible refine brK_both (fun _ => ?_) (fun _ => ?_)) | ((with_reducible refine And.intro (And.intro ?_ ?_) ?_); (· omega); (· omega)) | ((with_reducible refine And.intro ?_ ?_); (· omega)) | (with_reducible refine And.intro (show List.all _ oneCell = true from rfl) ?_) | ((with_reducible refine st_newM ?_ ?_); (· rfl)) | ((with_reducible refine bs_oneM ?_ ?_); (· rfl)) | (with_reducible refine bd_of (by with_unfolding_all (simp only [fillL_cons, fillL_nil, nth_eq, blt_eq, cond_beq, over, Value.cells, List.getElem?_cons_zero, List.getElem?_cons_succ, List.length_cons, List.length_nil, Nat.reduceAdd, Nat.reduceSub, Nat.reduceLT, Nat.reduceEqDiff, decide_true, cond_true, Option.map_some, if_true, if_false, Nat.add_one_sub_one, Nat.succ_ne_zero, reduceCtorEq, OfNat.ofNat]; rfl)) ?_) | (with_reducible refine bda_of (by with_unfolding_all rfl) ?_) | (simp -dsimp only [↓cw_ops, ↓cw_seq, ↓cw_exit, ↓cw_cond, ↓seqK_normal, ↓seqK_exit, ↓blockK_same, ↓loopK_exit, ↓getK_same, ↓evK_tmp, ↓evK_int, ↓condV_var, ↓opsW_nil, ↓opsW_d, ↓opW_move, ↓opW_bin, ↓bin_rem, ↓bin_eql, ↓s36_21_w, ↓r36_22_w, ↓s36_23_w, ↓s36_24_w, brK_false, ne_eq, Bool.false_eq_true,  ↓e7, d1, hend]))
    generalize hq : mant n / 2 ^ j = q at *
    have k6 := getK_of k6
    unfold strV at k6 hK
    have hd := dec_le (u := q) (by omega)
    repeat' (first | done | ((with_reducible refine brK_yes ?_ ?_); (· omega)) | ((with_reducible refine brK_no ?_ ?_); (· omega)) | (with_reducible refine brK_both (fun _ => ?_) (fun _ => ?_)) | ((with_reducible refine And.intro (And.intro ?_ ?_) ?_); (· omega); (· omega)) | ((with_reducible refine And.intro ?_ ?_); (· omega)) | (with_reducible refine And.intro (show List.all _ oneCell = true from rfl) ?_) | ((with_reducible refine st_newM ?_ ?_); (· rfl)) | ((with_reducible refine bs_oneM ?_ ?_); (· rfl)) | (with_reducible refine bd_of (by with_unfolding_all (simp only [fillL_cons, fillL_nil, nth_eq, blt_eq, cond_beq, over, Value.cells, List.getElem?_cons_zero, List.getElem?_cons_succ, List.length_cons, List.length_nil, Nat.reduceAdd, Nat.reduceSub, Nat.reduceLT, Nat.reduceEqDiff, decide_true, cond_true, Option.map_some, if_true, if_false, Nat.add_one_sub_one, Nat.succ_ne_zero, reduceCtorEq, OfNat.ofNat]; rfl)) ?_) | (with_reducible refine bda_of (by with_unfolding_all rfl) ?_) | (simp -dsimp only [↓cw_ops, ↓cw_seq, ↓getK_same, ↓getK_ne, ↓evK_tmp, ↓opsW_d, ↓opW_move, ↓evs_nil, ↓evs_cons, ↓opW_call, ↓r36_14_w, ↓s36_15_w, ne_eq, Nat.reduceEqDiff, not_false_eq_true, ↓e7, ↓k6]))
    refine big_ret q (Nat.le_refl _) (by omega) fun h2 X => ?_
    have n1 := X.n
    unfold strV
    by_cases hp : 0 < expo n + (j : Int)
    · have hl := Lib.itoa_length_le (expo n + (j : Int)) (by omega) (by omega)
      have htl : tailB (expo n + (j : Int)) = [42, 50, 94] ++ Lib.itoa (expo n + (j : Int)) := by unfold tailB; rw [if_pos hp]
      rw [htl] at hK
      repeat' (first | done | ((with_reducible refine brK_yes ?_ ?_); (· omega)) | ((with_reducible refine brK_no ?_ ?_); (· omega)) | (with_reducible refine brK_both (fun _ => ?_) (fun _ => ?_)) | ((with_reducible refine And.intro (And.intro ?_ ?_) ?_); (· omega); (· omega)) | ((with_reducible refine And.intro ?_ ?_); (· omega)) | (with_reducible refine And.intro (show List.all _ oneCell = true from rfl) ?_) | ((with_reducible refine st_newM ?_ ?_); (· rfl)) | ((with_reducible refine bs_oneM ?_ ?_); (· rfl)) | (with_reducible refine bd_of (by with_unfolding_all (simp only [fillL_cons, fillL_nil, nth_eq, blt_eq, cond_beq, over, Value.cells, List.getElem?_cons_zero, List.getElem?_cons_succ, List.length_cons, List.length_nil, Nat.reduceAdd, Nat.reduceSub, Nat.reduceLT, Nat.reduceEqDiff, decide_true, cond_true, Option.map_some, if_true, if_false, Nat.add_one_sub_one, Nat.succ_ne_zero, reduceCtorEq, OfNat.ofNat]; rfl)) ?_) | (with_reducible refine bda_of (by with_unfolding_all rfl) ?_) | (simp -dsimp only [↓cw_ops, ↓cw_seq, ↓cw_cond, ↓seqK_normal, ↓getK_same, ↓getK_ne, ↓evK_tmp, ↓evK_int, ↓evK_string, ↓condV_var, ↓opsW_nil, ↓opsW_d, ↓opW_move, ↓opW_assign, ↓opW_bin, ↓bin_gtr, ↓evs_nil, ↓evs_cons, ↓opW_call, ↓r36_8_w, ↓s36_9_w, ↓s36_10_w, ↓r36_11_w, ↓s36_12_w, ↓s36_13_w, List.length_cons, List.length_nil, brK_true, ne_eq, Nat.reduceEqDiff, Nat.reduceAdd, not_false_eq_true, ↓e8, bin_addS, app_str, str_size, List.length_append]))
      refine num_ret (by omega) (by omega) fun h3 X2 => ?_
      unfold strV
      repeat' (first | done | ((with_reducible refine brK_yes ?_ ?_); (· omega)) | ((with_reducible refine brK_no ?_ ?_); (· omega)) | (with_reducible refine brK_both (fun _ => ?_) (fun _ => ?_)) | ((with_reducible refine And.intro (And.intro ?_ ?_) ?_); (· omega); (· omega)) | ((with_reducible refine And.intro ?_ ?_); (· omega)) | (with_reducible refine And.intro (show List.all _ oneCell = true from rfl) ?_) | ((with_reducible refine st_newM ?_ ?_); (· rfl)) | ((with_reducible refine bs_oneM ?_ ?_); (· rfl)) | (with_reducible refine bd_of (by with_unfolding_all (simp only [fillL_cons, fillL_nil, nth_eq, blt_eq, cond_beq, over, Value.cells, List.getElem?_cons_zero, List.getElem?_cons_succ, List.length_cons, List.length_nil, Nat.reduceAdd, Nat.reduceSub, Nat.reduceLT, Nat.reduceEqDiff, decide_true, cond_true, Option.map_some, if_true, if_false, Nat.add_one_sub_one, Nat.succ_ne_zero, reduceCtorEq, OfNat.ofNat]; rfl)) ?_) | (with_reducible refine bda_of (by with_unfolding_all rfl) ?_) | (simp -dsimp only [↓cw_ret, ↓seqK_normal, ↓seqK_ret, ↓getK_same, ↓getK_ne, ↓evK_tmp, ↓opsW_nil, ↓opsW_d, ↓opW_assign, ↓opW_bin, ↓resK_one, List.length_cons, List.length_nil, ne_eq, Nat.reduceEqDiff, Nat.reduceAdd, not_false_eq_true, bin_addS, app_str, str_size, List.length_append]))
      have := hK h3 (X.trans (X2.mono n1))
      simpa [List.append_assoc] using this
    by_cases hng : expo n + (j : Int) < 0
    · have hl := Lib.itoa_length_le (-(expo n + (j : Int))) (by omega) (by omega)
      have htl : tailB (expo n + (j : Int)) = [47, 50, 94] ++ Lib.itoa (-(expo n + (j : Int))) := by unfold tailB; rw [if_neg hp, if_pos hng]
      rw [htl] at hK
      have c8 : IntKind.wrap .i64 (0 - (expo n + (j : Int))) = -(expo n + (j : Int)) := by rw [wrap_i64 (by omega) (by omega)]; omega
      repeat' (first | done | ((with_reducible refine brK_yes ?_ ?_); (· omega)) | ((with_reducible refine brK_no ?_ ?_); (· omega)) | (with_reducible refine brK_both (fun _ => ?_) (fun _ => ?_)) | ((with_reducible refine And.intro (And.intro ?_ ?_) ?_); (· omega); (· omega)) | ((with_reducible refine And.intro ?_ ?_); (· omega)) | (with_reducible refine And.intro (show List.all _ oneCell = true from rfl) ?_) | ((with_reducible refine st_newM ?_ ?_); (· rfl)) | ((with_reducible refine bs_oneM ?_ ?_); (· rfl)) | (with_reducible refine bd_of (by with_unfolding_all (simp only [fillL_cons, fillL_nil, nth_eq, blt_eq, cond_beq, over, Value.cells, List.getElem?_cons_zero, List.getElem?_cons_succ, List.length_cons, List.length_nil, Nat.reduceAdd, Nat.reduceSub, Nat.reduceLT, Nat.reduceEqDiff, decide_true, cond_true, Option.map_some, if_true, if_false, Nat.add_one_sub_one, Nat.succ_ne_zero, reduceCtorEq, OfNat.ofNat]; rfl)) ?_) | (with_reducible refine bda_of (by with_unfolding_all rfl) ?_) | (simp -dsimp only [↓cw_skip, ↓cw_ops, ↓cw_seq, ↓cw_cond, ↓seqK_normal, ↓getK_same, ↓getK_ne, ↓evK_tmp, ↓evK_int, ↓evK_string, ↓condV_var, ↓opsW_nil, ↓opsW_d, ↓opW_move, ↓opW_assign, ↓opW_bin, ↓bin_lss, ↓bin_gtr, ↓evs_nil, ↓evs_cons, ↓opW_call, ↓opW_un, ↓un_neg, ↓r36_2_w, ↓s36_3_w, ↓s36_4_w, ↓r36_5_w, ↓s36_6_w, ↓s36_7_w, ↓s36_10_w, ↓r36_11_w, ↓s36_12_w, ↓s36_13_w, List.length_cons, List.length_nil, brK_true, brK_false, ne_eq, Nat.reduceEqDiff, Nat.reduceAdd, not_false_eq_true, Bool.false_eq_true,  ↓e8, c8, bin_addS, app_str, str_size, List.length_append]))
      refine num_ret (by omega) (by omega) fun h3 X2 => ?_
      unfold strV
      repeat' (first | done | ((with_reducible refine brK_yes ?_ ?_); (· omega)) | ((with_reducible refine brK_no ?_ ?_); (· omega)) | (with_reducible refine brK_both (fun _ => ?_) (fun _ => ?_)) | ((with_reducible refine And.intro (And.intro ?_ ?_) ?_); (· omega); (· omega)) | ((with_reducible refine And.intro ?_ ?_); (· omega)) | (with_reducible refine And.intro (show List.all _ oneCell = true from rfl) ?_) | ((with_reducible refine st_newM ?_ ?_); (· rfl)) | ((with_reducible refine bs_oneM ?_ ?_); (· rfl)) | (with_reducible refine bd_of (by with_unfolding_all (simp only [fillL_cons, fillL_nil, nth_eq, blt_eq, cond_beq, over, Value.cells, List.getElem?_cons_zero, List.getElem?_cons_succ, List.length_cons, List.length_nil, Nat.reduceAdd, Nat.reduceSub, Nat.reduceLT, Nat.reduceEqDiff, decide_true, cond_true, Option.map_some, if_true, if_false, Nat.add_one_sub_one, Nat.succ_ne_zero, reduceCtorEq, OfNat.ofNat]; rfl)) ?_) | (with_reducible refine bda_of (by with_unfolding_all rfl) ?_) | (simp -dsimp only [↓cw_ret, ↓seqK_normal, ↓seqK_ret, ↓getK_same, ↓getK_ne, ↓evK_tmp, ↓opsW_nil, ↓opsW_d, ↓opW_assign, ↓opW_bin, ↓resK_one, List.length_cons, List.length_nil, ne_eq, Nat.reduceEqDiff, Nat.reduceAdd, not_false_eq_true, bin_addS, app_str, str_size, List.length_append]))
      have := hK h3 (X.trans (X2.mono n1))
      simpa [List.append_assoc] using this
    · have htl : tailB (expo n + (j : Int)) = [] := by unfold tailB; rw [if_neg hp, if_neg hng]
      rw [htl] at hK
      repeat' (first | done | ((with_reducible refine brK_yes ?_ ?_); (· omega)) | ((with_reducible refine brK_no ?_ ?_); (· omega)) | (with_reducible refine brK_both (fun _ => ?_) (fun _ => ?_)) | ((with_reducible refine And.intro (And.intro ?_ ?_) ?_); (· omega); (· omega)) | ((with_reducible refine And.intro ?_ ?_); (· omega)) | (with_reducible refine And.intro (show List.all _ oneCell = true from rfl) ?_) | ((with_reducible refine st_newM ?_ ?_); (· rfl)) | ((with_reducible refine bs_oneM ?_ ?_); (· rfl)) | (with_reducible refine bd_of (by with_unfolding_all (simp only [fillL_cons, fillL_nil, nth_eq, blt_eq, cond_beq, over, Value.cells, List.getElem?_cons_zero, List.getElem?_cons_succ, List.length_cons, List.length_nil, Nat.reduceAdd, Nat.reduceSub, Nat.reduceLT, Nat.reduceEqDiff, decide_true, cond_true, Option.map_some, if_true, if_false, Nat.add_one_sub_one, Nat.succ_ne_zero, reduceCtorEq, OfNat.ofNat]; rfl)) ?_) | (with_reducible refine bda_of (by with_unfolding_all rfl) ?_) | (simp -dsimp only [↓cw_skip, ↓cw_ops, ↓cw_seq, ↓cw_ret, ↓cw_cond, ↓seqK_normal, ↓getK_same, ↓getK_ne, ↓evK_tmp, ↓evK_int, ↓condV_var, ↓opsW_nil, ↓opsW_d, ↓opW_move, ↓opW_assign, ↓opW_bin, ↓bin_lss, ↓bin_gtr, ↓resK_one, ↓r36_0_w, ↓s36_1_w, ↓s36_4_w, ↓r36_5_w, ↓s36_6_w, ↓s36_7_w, ↓s36_10_w, ↓r36_11_w, ↓s36_12_w, ↓s36_13_w, brK_false, ne_eq, Nat.reduceEqDiff, not_false_eq_true, Bool.false_eq_true,  ↓e8, bin_addS, app_str, str_size]))
      have := hK h2 X
      simpa using this
theorem refText_ret {n : Nat} {h : Heap} {K : Value → Heap → Prop} (hn : n < 18446744073709551616) (hK : ∀ h', ExtB h.n h h' → K (strV (textB n)) h') : Ret env (.func 36) [.float .f64 n] h K := by
  refine F36 rfl rfl ?_
  repeat' (first | done | ((with_reducible refine brK_yes ?_ ?_); (· omega)) | ((with_reducible refine brK_no ?_ ?_); (· omega)) | (with_reducible refine brK_both (fun _ => ?_) (fun _ => ?_)) | ((with_reducible refine And.intro (And.intro ?_ ?_) ?_); (· omega); (· omega)) | ((with_reducible refine And.intro ?_ ?_); (· omega)) | (with_reducible refine And.intro (show List.all _ oneCell = true from rfl) ?_) | ((with_reducible refine st_newM ?_ ?_); (· rfl)) | ((with_reducible refine bs_oneM ?_ ?_); (· rfl)) | (with_reducible refine bd_of (by with_unfolding_all (simp only [fillL_cons, fillL_nil, nth_eq, blt_eq, cond_beq, over, Value.cells, List.getElem?_cons_zero, List.getElem?_cons_succ, List.length_cons, List.length_nil, Nat.reduceAdd, Nat.reduceSub, Nat.reduceLT, Nat.reduceEqDiff, decide_true, cond_true, Option.map_some, if_true, if_false, Nat.add_one_sub_one, Nat.succ_ne_zero, reduceCtorEq, OfNat.ofNat]; rfl)) ?_) | (with_reducible refine bda_of (by with_unfolding_all rfl) ?_) | (simp -dsimp only [↓cw_ops, ↓cw_seq, ↓seqK_normal, ↓getK_same, ↓getK_ne, ↓evK_tmp, ↓evK_string, ↓opsW_nil, ↓opsW_d, ↓opW_move, ↓opW_assign, ↓evs_nil, ↓evs_cons, ↓opW_call, ↓setAll_cons, ↓setAll_nil, ↓r36_63_w, ↓s36_64_w, ↓r36_65_w, ↓s36_66_w, ne_eq, Nat.reduceEqDiff, not_false_eq_true]))
  refine parts_ret hn ?_
  by_cases hc : classB n = []
  · have f := Fin.of hn hc
    have hfe := f.exp
    obtain ⟨hm0, hm⟩ := f.mant
    have hK2 : ∀ h', ExtB h.n h h' → K (strV (signL n ++ Lib.decDigits (mant n / 2 ^ Lib.ctz 64 (mant n)) ++ tailB (expo n + (Lib.ctz 64 (mant n) : Nat)))) h' := fun h' X => by
      have := hK h' X
      unfold textB at this
      rw [if_neg (by rw [hc]; simp)] at this
      exact this
    have hnn : ¬ (expE n = 0 ∧ n % 4503599627370496 = 0) := by have := f.pos; unfold expE rungN at *; omega
    have sg : ∀ b, negN n = b → strV (signL n) = if b then .string ⟨⟨[45]⟩⟩ else .string ⟨⟨[]⟩⟩ := by intro b hb; unfold signL strV; rw [hb]; cases b <;> rfl
    by_cases he : expE n = 0
    · have hm1 : mant n = n % 4503599627370496 := by unfold mant; rw [if_pos he]; unfold expE rungN at *; omega
      have hx : expo n = -1074 := by unfold expo; omega
      rw [he]
      cases hg : negN n with
      | true =>
        repeat' (first | done | ((with_reducible refine brK_yes ?_ ?_); (· omega)) | ((with_reducible refine brK_no ?_ ?_); (· omega)) | (with_reducible refine brK_both (fun _ => ?_) (fun _ => ?_)) | ((with_reducible refine And.intro (And.intro ?_ ?_) ?_); (· omega); (· omega)) | ((with_reducible refine And.intro ?_ ?_); (· omega)) | (with_reducible refine And.intro (show List.all _ oneCell = true from rfl) ?_) | ((with_reducible refine st_newM ?_ ?_); (· rfl)) | ((with_reducible refine bs_oneM ?_ ?_); (· rfl)) | (with_reducible refine bd_of (by with_unfolding_all (simp only [fillL_cons, fillL_nil, nth_eq, blt_eq, cond_beq, over, Value.cells, List.getElem?_cons_zero, List.getElem?_cons_succ, List.length_cons, List.length_nil, Nat.reduceAdd, Nat.reduceSub, Nat.reduceLT, Nat.reduceEqDiff, decide_true, cond_true, Option.map_some, if_true, if_false, Nat.add_one_sub_one, Nat.succ_ne_zero, reduceCtorEq, OfNat.ofNat]; rfl)) ?_) | (with_reducible refine bda_of (by with_unfolding_all rfl) ?_) | (simp -dsimp only [↓cw_skip, ↓cw_ops, ↓cw_seq, ↓cw_cond, ↓seqK_normal, ↓getK_same, ↓getK_ne, ↓evK_tmp, ↓evK_int, ↓evK_bool, ↓evK_string, ↓condV_var, ↓gdV_var, ↓opsW_nil, ↓opsW_d, ↓opsW_gd, ↓opW_move, ↓opW_assign, ↓opW_pick, ↓opW_bin, ↓bin_eql, ↓bin_gtr, ↓setAll_cons, ↓setAll_nil, ↓opW_extract, ↓ext_tuple, ↓s36_31_w, ↓r36_32_w, ↓s36_33_w, ↓s36_34_w, ↓r36_35_w, ↓s36_36_w, ↓s36_39_w, ↓r36_40_w, ↓s36_41_w, ↓s36_42_w, ↓s36_45_w, ↓r36_46_w, ↓s36_47_w, ↓s36_48_w, ↓s36_51_w, ↓r36_52_w, ↓s36_53_w, ↓s36_54_w, ↓r36_55_w, ↓s36_56_w, ↓s36_57_w, ↓r36_58_w, ↓s36_59_w, ↓s36_60_w, ↓r36_61_w, ↓s36_62_w, List.getElem?_cons_zero, List.getElem?_cons_succ, onV_some', brK_true, brK_false, ne_eq, Nat.reduceEqDiff, not_false_eq_true, Bool.false_eq_true]))
        exact refText_tail f (by simp [T.get_set, hm1]) (by simp [T.get_set, hx]) (by rw [sg _ hg]; simp [T.get_set]) hK2
      | false =>
        repeat' (first | done | ((with_reducible refine brK_yes ?_ ?_); (· omega)) | ((with_reducible refine brK_no ?_ ?_); (· omega)) | (with_reducible refine brK_both (fun _ => ?_) (fun _ => ?_)) | ((with_reducible refine And.intro (And.intro ?_ ?_) ?_); (· omega); (· omega)) | ((with_reducible refine And.intro ?_ ?_); (· omega)) | (with_reducible refine And.intro (show List.all _ oneCell = true from rfl) ?_) | ((with_reducible refine st_newM ?_ ?_); (· rfl)) | ((with_reducible refine bs_oneM ?_ ?_); (· rfl)) | (with_reducible refine bd_of (by with_unfolding_all (simp only [fillL_cons, fillL_nil, nth_eq, blt_eq, cond_beq, over, Value.cells, List.getElem?_cons_zero, List.getElem?_cons_succ, List.length_cons, List.length_nil, Nat.reduceAdd, Nat.reduceSub, Nat.reduceLT, Nat.reduceEqDiff, decide_true, cond_true, Option.map_some, if_true, if_false, Nat.add_one_sub_one, Nat.succ_ne_zero, reduceCtorEq, OfNat.ofNat]; rfl)) ?_) | (with_reducible refine bda_of (by with_unfolding_all rfl) ?_) | (simp -dsimp only [↓cw_skip, ↓cw_ops, ↓cw_seq, ↓cw_cond, ↓seqK_normal, ↓getK_same, ↓getK_ne, ↓evK_tmp, ↓evK_int, ↓evK_bool, ↓evK_string, ↓condV_var, ↓gdV_var, ↓opsW_nil, ↓opsW_d, ↓opsW_gd, ↓opW_move, ↓opW_assign, ↓opW_pick, ↓opW_bin, ↓bin_eql, ↓bin_gtr, ↓setAll_cons, ↓setAll_nil, ↓opW_extract, ↓ext_tuple, ↓s36_31_w, ↓r36_32_w, ↓s36_33_w, ↓s36_34_w, ↓r36_35_w, ↓s36_36_w, ↓s36_39_w, ↓r36_40_w, ↓s36_41_w, ↓s36_42_w, ↓s36_45_w, ↓r36_46_w, ↓s36_47_w, ↓s36_48_w, ↓s36_51_w, ↓r36_52_w, ↓s36_53_w, ↓s36_54_w, ↓s36_57_w, ↓r36_58_w, ↓s36_59_w, ↓s36_60_w, ↓r36_61_w, ↓s36_62_w, List.getElem?_cons_zero, List.getElem?_cons_succ, onV_some', brK_true, brK_false, ne_eq, Nat.reduceEqDiff, not_false_eq_true, Bool.false_eq_true]))
        exact refText_tail f (by simp [T.get_set, hm1]) (by simp [T.get_set, hx]) (by rw [sg _ hg]; simp [T.get_set]) hK2
    · have hm1 : mant n = n % 4503599627370496 + 4503599627370496 := by unfold mant; rw [if_neg he]; unfold rungN; omega
      have w1 : IntKind.wrap .u64 (((n % 4503599627370496 : Nat) : Int) + 4503599627370496) = (mant n : Int) := by rw [wrap_u64 (by omega) (by omega)]; omega
      have w2 : IntKind.wrap .i64 ((expE n : Int) - 1075) = expo n := by rw [wrap_i64 (by omega) (by omega)]; unfold expo; omega
      cases hg : negN n with
      | true =>
        repeat' (first | done | ((with_reducible refine brK_yes ?_ ?_); (· omega)) | ((with_reducible refine brK_no ?_ ?_); (· omega)) | (with_reducible refine brK_both (fun _ => ?_) (fun _ => ?_)) | ((with_reducible refine And.intro (And.intro ?_ ?_) ?_); (· omega); (· omega)) | ((with_reducible refine And.intro ?_ ?_); (· omega)) | (with_reducible refine And.intro (show List.all _ oneCell = true from rfl) ?_) | ((with_reducible refine st_newM ?_ ?_); (· rfl)) | ((with_reducible refine bs_oneM ?_ ?_); (· rfl)) | (with_reducible refine bd_of (by with_unfolding_all (simp only [fillL_cons, fillL_nil, nth_eq, blt_eq, cond_beq, over, Value.cells, List.getElem?_cons_zero, List.getElem?_cons_succ, List.length_cons, List.length_nil, Nat.reduceAdd, Nat.reduceSub, Nat.reduceLT, Nat.reduceEqDiff, decide_true, cond_true, Option.map_some, if_true, if_false, Nat.add_one_sub_one, Nat.succ_ne_zero, reduceCtorEq, OfNat.ofNat]; rfl)) ?_) | (with_reducible refine bda_of (by with_unfolding_all rfl) ?_) | (simp -dsimp only [↓cw_skip, ↓cw_ops, ↓cw_seq, ↓cw_cond, ↓seqK_normal, ↓getK_same, ↓getK_ne, ↓evK_tmp, ↓evK_int, ↓evK_bool, ↓evK_string, ↓condV_var, ↓gdV_var, ↓opsW_nil, ↓opsW_d, ↓opsW_gd, ↓opW_move, ↓opW_assign, ↓opW_pick, ↓opW_bin, ↓bin_add, ↓bin_sub, ↓bin_eql, ↓bin_gtr, ↓setAll_cons, ↓setAll_nil, ↓opW_extract, ↓ext_tuple, ↓r36_27_w, ↓s36_28_w, ↓r36_29_w, ↓s36_30_w, ↓s36_31_w, ↓r36_32_w, ↓s36_33_w, ↓s36_34_w, ↓r36_35_w, ↓s36_36_w, ↓s36_39_w, ↓r36_40_w, ↓s36_41_w, ↓s36_42_w, ↓s36_45_w, ↓r36_46_w, ↓s36_47_w, ↓s36_48_w, ↓s36_51_w, ↓r36_52_w, ↓s36_53_w, ↓s36_54_w, ↓r36_55_w, ↓s36_56_w, ↓s36_57_w, ↓r36_58_w, ↓s36_59_w, ↓s36_60_w, ↓r36_61_w, ↓s36_62_w, List.getElem?_cons_zero, List.getElem?_cons_succ, onV_some', brK_true, brK_false, ne_eq, Nat.reduceEqDiff, not_false_eq_true, Bool.false_eq_true,  w1, w2]))
        exact refText_tail f (by simp [T.get_set]) (by simp [T.get_set]) (by rw [sg _ hg]; simp [T.get_set]) hK2
      | false =>
        repeat' (first | done | ((with_reducible refine brK_yes ?_ ?_); (· omega)) | ((with_reducible refine brK_no ?_ ?_); (· omega)) | (with_reducible refine brK_both (fun _ => ?_) (fun _ => ?_)) | ((with_reducible refine And.intro (And.intro ?_ ?_) ?_); (· omega); (· omega)) | ((with_reducible refine And.intro ?_ ?_); (· omega)) | (with_reducible refine And.intro (show List.all _ oneCell = true from rfl) ?_) | ((with_reducible refine st_newM ?_ ?_); (· rfl)) | ((with_reducible refine bs_oneM ?_ ?_); (· rfl)) | (with_reducible refine bd_of (by with_unfolding_all (simp only [fillL_cons, fillL_nil, nth_eq, blt_eq, cond_beq, over, Value.cells, List.getElem?_cons_zero, List.getElem?_cons_succ, List.length_cons, List.length_nil, Nat.reduceAdd, Nat.reduceSub, Nat.reduceLT, Nat.reduceEqDiff, decide_true, cond_true, Option.map_some, if_true, if_false, Nat.add_one_sub_one, Nat.succ_ne_zero, reduceCtorEq, OfNat.ofNat]; rfl)) ?_) | (with_reducible refine bda_of (by with_unfolding_all rfl) ?_) | (simp -dsimp only [↓cw_skip, ↓cw_ops, ↓cw_seq, ↓cw_cond, ↓seqK_normal, ↓getK_same, ↓getK_ne, ↓evK_tmp, ↓evK_int, ↓evK_bool, ↓evK_string, ↓condV_var, ↓gdV_var, ↓opsW_nil, ↓opsW_d, ↓opsW_gd, ↓opW_move, ↓opW_assign, ↓opW_pick, ↓opW_bin, ↓bin_add, ↓bin_sub, ↓bin_eql, ↓bin_gtr, ↓setAll_cons, ↓setAll_nil, ↓opW_extract, ↓ext_tuple, ↓r36_27_w, ↓s36_28_w, ↓r36_29_w, ↓s36_30_w, ↓s36_31_w, ↓r36_32_w, ↓s36_33_w, ↓s36_34_w, ↓r36_35_w, ↓s36_36_w, ↓s36_39_w, ↓r36_40_w, ↓s36_41_w, ↓s36_42_w, ↓s36_45_w, ↓r36_46_w, ↓s36_47_w, ↓s36_48_w, ↓s36_51_w, ↓r36_52_w, ↓s36_53_w, ↓s36_54_w, ↓s36_57_w, ↓r36_58_w, ↓s36_59_w, ↓s36_60_w, ↓r36_61_w, ↓s36_62_w, List.getElem?_cons_zero, List.getElem?_cons_succ, onV_some', brK_true, brK_false, ne_eq, Nat.reduceEqDiff, not_false_eq_true, Bool.false_eq_true,  w1, w2]))
        exact refText_tail f (by simp [T.get_set]) (by simp [T.get_set]) (by rw [sg _ hg]; simp [T.get_set]) hK2
  · have hk := hK h (ExtB.refl _ _)
    unfold textB at hk
    rw [if_pos hc] at hk
    unfold classB at hk
    have hi := isNan_iff n
    cases hnan : isNan n with
    | true =>
      rw [hnan] at hk hi
      have hi := of_decide_eq_true hi.symm
      simp only [if_true] at hk
      have g1 : expE n = 2047 := by unfold expE rungN at *; omega
      have g2 : 0 < n % 4503599627370496 := by unfold rungN at hi; omega
      rw [g1]
      unfold strV at hk
      cases negN n
      · repeat' (first | done | ((with_reducible refine brK_yes ?_ ?_); (· omega)) | ((with_reducible refine brK_no ?_ ?_); (· omega)) | (with_reducible refine brK_both (fun _ => ?_) (fun _ => ?_)) | ((with_reducible refine And.intro (And.intro ?_ ?_) ?_); (· omega); (· omega)) | ((with_reducible refine And.intro ?_ ?_); (· omega)) | (with_reducible refine And.intro (show List.all _ oneCell = true from rfl) ?_) | ((with_reducible refine st_newM ?_ ?_); (· rfl)) | ((with_reducible refine bs_oneM ?_ ?_); (· rfl)) | (with_reducible refine bd_of (by with_unfolding_all (simp only [fillL_cons, fillL_nil, nth_eq, blt_eq, cond_beq, over, Value.cells, List.getElem?_cons_zero, List.getElem?_cons_succ, List.length_cons, List.length_nil, Nat.reduceAdd, Nat.reduceSub, Nat.reduceLT, Nat.reduceEqDiff, decide_true, cond_true, Option.map_some, if_true, if_false, Nat.add_one_sub_one, Nat.succ_ne_zero, reduceCtorEq, OfNat.ofNat]; rfl)) ?_) | (with_reducible refine bda_of (by with_unfolding_all rfl) ?_) | (simp -dsimp only [↓cw_skip, ↓cw_ops, ↓cw_seq, ↓cw_ret, ↓cw_cond, ↓seqK_normal, ↓seqK_ret, ↓getK_same, ↓getK_ne, ↓evK_tmp, ↓evK_int, ↓evK_string, ↓condV_var, ↓gdV_var, ↓opsW_nil, ↓opsW_d, ↓opsW_gd, ↓opW_move, ↓opW_assign, ↓opW_pick, ↓opW_bin, ↓bin_eql, ↓bin_gtr, ↓resK_one, ↓opW_extract, ↓ext_tuple, ↓r36_49_w, ↓s36_50_w, ↓s36_51_w, ↓r36_52_w, ↓s36_53_w, ↓s36_54_w, ↓s36_57_w, ↓r36_58_w, ↓s36_59_w, ↓s36_60_w, ↓r36_61_w, ↓s36_62_w, List.getElem?_cons_zero, List.getElem?_cons_succ, onV_some', brK_true, brK_false, ne_eq, Nat.reduceEqDiff, not_false_eq_true, Bool.false_eq_true]))
        exact hk
      · repeat' (first | done | ((with_reducible refine brK_yes ?_ ?_); (· omega)) | ((with_reducible refine brK_no ?_ ?_); (· omega)) | (with_reducible refine brK_both (fun _ => ?_) (fun _ => ?_)) | ((with_reducible refine And.intro (And.intro ?_ ?_) ?_); (· omega); (· omega)) | ((with_reducible refine And.intro ?_ ?_); (· omega)) | (with_reducible refine And.intro (show List.all _ oneCell = true from rfl) ?_) | ((with_reducible refine st_newM ?_ ?_); (· rfl)) | ((with_reducible refine bs_oneM ?_ ?_); (· rfl)) | (with_reducible refine bd_of (by with_unfolding_all (simp only [fillL_cons, fillL_nil, nth_eq, blt_eq, cond_beq, over, Value.cells, List.getElem?_cons_zero, List.getElem?_cons_succ, List.length_cons, List.length_nil, Nat.reduceAdd, Nat.reduceSub, Nat.reduceLT, Nat.reduceEqDiff, decide_true, cond_true, Option.map_some, if_true, if_false, Nat.add_one_sub_one, Nat.succ_ne_zero, reduceCtorEq, OfNat.ofNat]; rfl)) ?_) | (with_reducible refine bda_of (by with_unfolding_all rfl) ?_) | (simp -dsimp only [↓cw_ops, ↓cw_seq, ↓cw_ret, ↓cw_cond, ↓seqK_normal, ↓seqK_ret, ↓getK_same, ↓getK_ne, ↓evK_tmp, ↓evK_int, ↓evK_string, ↓condV_var, ↓gdV_var, ↓opsW_nil, ↓opsW_d, ↓opsW_gd, ↓opW_move, ↓opW_assign, ↓opW_pick, ↓opW_bin, ↓bin_eql, ↓bin_gtr, ↓resK_one, ↓opW_extract, ↓ext_tuple, ↓r36_49_w, ↓s36_50_w, ↓s36_51_w, ↓r36_52_w, ↓s36_53_w, ↓s36_54_w, ↓r36_55_w, ↓s36_56_w, ↓s36_57_w, ↓r36_58_w, ↓s36_59_w, ↓s36_60_w, ↓r36_61_w, ↓s36_62_w, List.getElem?_cons_zero, List.getElem?_cons_succ, onV_some', brK_true, ne_eq, Nat.reduceEqDiff, not_false_eq_true]))
        exact hk
    | false =>
      rw [hnan] at hk hi
      have hi := of_decide_eq_false hi.symm
      simp only [Bool.false_eq_true, if_false] at hk
      by_cases h1 : rungN n = 9218868437227405312
      · rw [if_pos h1] at hk
        have g1 : expE n = 2047 := by unfold expE; omega
        have g2 : n % 4503599627370496 = 0 := by unfold rungN at h1; omega
        rw [g1, g2]
        cases hg : negN n
        · rw [hg] at hk
          repeat' (first | done | ((with_reducible refine brK_yes ?_ ?_); (· omega)) | ((with_reducible refine brK_no ?_ ?_); (· omega)) | (with_reducible refine brK_both (fun _ => ?_) (fun _ => ?_)) | ((with_reducible refine And.intro (And.intro ?_ ?_) ?_); (· omega); (· omega)) | ((with_reducible refine And.intro ?_ ?_); (· omega)) | (with_reducible refine And.intro (show List.all _ oneCell = true from rfl) ?_) | ((with_reducible refine st_newM ?_ ?_); (· rfl)) | ((with_reducible refine bs_oneM ?_ ?_); (· rfl)) | (with_reducible refine bd_of (by with_unfolding_all (simp only [fillL_cons, fillL_nil, nth_eq, blt_eq, cond_beq, over, Value.cells, List.getElem?_cons_zero, List.getElem?_cons_succ, List.length_cons, List.length_nil, Nat.reduceAdd, Nat.reduceSub, Nat.reduceLT, Nat.reduceEqDiff, decide_true, cond_true, Option.map_some, if_true, if_false, Nat.add_one_sub_one, Nat.succ_ne_zero, reduceCtorEq, OfNat.ofNat]; rfl)) ?_) | (with_reducible refine bda_of (by with_unfolding_all rfl) ?_) | (simp -dsimp only [↓cw_skip, ↓cw_ops, ↓cw_seq, ↓cw_ret, ↓cw_cond, ↓seqK_normal, ↓seqK_ret, ↓getK_same, ↓getK_ne, ↓evK_tmp, ↓evK_int, ↓evK_string, ↓condV_var, ↓gdV_var, ↓opsW_nil, ↓opsW_d, ↓opsW_gd, ↓opW_move, ↓opW_assign, ↓opW_pick, ↓opW_bin, ↓bin_eql, ↓bin_gtr, ↓resK_one, ↓opW_extract, ↓ext_tuple, ↓r36_43_w, ↓s36_44_w, ↓s36_45_w, ↓r36_46_w, ↓s36_47_w, ↓s36_48_w, ↓s36_51_w, ↓r36_52_w, ↓s36_53_w, ↓s36_54_w, ↓s36_57_w, ↓r36_58_w, ↓s36_59_w, ↓s36_60_w, ↓r36_61_w, ↓s36_62_w, List.getElem?_cons_zero, List.getElem?_cons_succ, onV_some', brK_true, brK_false, ne_eq, Nat.reduceEqDiff, not_false_eq_true, Bool.false_eq_true,  bin_addS]))
          exact ⟨by decide, hk⟩
        · rw [hg] at hk
          repeat' (first | done | ((with_reducible refine brK_yes ?_ ?_); (· omega)) | ((with_reducible refine brK_no ?_ ?_); (· omega)) | (with_reducible refine brK_both (fun _ => ?_) (fun _ => ?_)) | ((with_reducible refine And.intro (And.intro ?_ ?_) ?_); (· omega); (· omega)) | ((with_reducible refine And.intro ?_ ?_); (· omega)) | (with_reducible refine And.intro (show List.all _ oneCell = true from rfl) ?_) | ((with_reducible refine st_newM ?_ ?_); (· rfl)) | ((with_reducible refine bs_oneM ?_ ?_); (· rfl)) | (with_reducible refine bd_of (by with_unfolding_all (simp only [fillL_cons, fillL_nil, nth_eq, blt_eq, cond_beq, over, Value.cells, List.getElem?_cons_zero, List.getElem?_cons_succ, List.length_cons, List.length_nil, Nat.reduceAdd, Nat.reduceSub, Nat.reduceLT, Nat.reduceEqDiff, decide_true, cond_true, Option.map_some, if_true, if_false, Nat.add_one_sub_one, Nat.succ_ne_zero, reduceCtorEq, OfNat.ofNat]; rfl)) ?_) | (with_reducible refine bda_of (by with_unfolding_all rfl) ?_) | (simp -dsimp only [↓cw_skip, ↓cw_ops, ↓cw_seq, ↓cw_ret, ↓cw_cond, ↓seqK_normal, ↓seqK_ret, ↓getK_same, ↓getK_ne, ↓evK_tmp, ↓evK_int, ↓evK_string, ↓condV_var, ↓gdV_var, ↓opsW_nil, ↓opsW_d, ↓opsW_gd, ↓opW_move, ↓opW_assign, ↓opW_pick, ↓opW_bin, ↓bin_eql, ↓bin_gtr, ↓resK_one, ↓opW_extract, ↓ext_tuple, ↓r36_43_w, ↓s36_44_w, ↓s36_45_w, ↓r36_46_w, ↓s36_47_w, ↓s36_48_w, ↓s36_51_w, ↓r36_52_w, ↓s36_53_w, ↓s36_54_w, ↓r36_55_w, ↓s36_56_w, ↓s36_57_w, ↓r36_58_w, ↓s36_59_w, ↓s36_60_w, ↓r36_61_w, ↓s36_62_w, List.getElem?_cons_zero, List.getElem?_cons_succ, onV_some', brK_true, brK_false, ne_eq, Nat.reduceEqDiff, not_false_eq_true, Bool.false_eq_true,  bin_addS]))
          exact ⟨by decide, hk⟩
      · rw [if_neg h1] at hk
        by_cases h2 : rungN n = 0
        · rw [if_pos h2] at hk
          have g1 : expE n = 0 := by unfold expE; omega
          have g2 : n % 4503599627370496 = 0 := by unfold rungN at h2; omega
          rw [g1, g2]
          cases hg : negN n
          · rw [hg] at hk
            repeat' (first | done | ((with_reducible refine brK_yes ?_ ?_); (· omega)) | ((with_reducible refine brK_no ?_ ?_); (· omega)) | (with_reducible refine brK_both (fun _ => ?_) (fun _ => ?_)) | ((with_reducible refine And.intro (And.intro ?_ ?_) ?_); (· omega); (· omega)) | ((with_reducible refine And.intro ?_ ?_); (· omega)) | (with_reducible refine And.intro (show List.all _ oneCell = true from rfl) ?_) | ((with_reducible refine st_newM ?_ ?_); (· rfl)) | ((with_reducible refine bs_oneM ?_ ?_); (· rfl)) | (with_reducible refine bd_of (by with_unfolding_all (simp only [fillL_cons, fillL_nil, nth_eq, blt_eq, cond_beq, over, Value.cells, List.getElem?_cons_zero, List.getElem?_cons_succ, List.length_cons, List.length_nil, Nat.reduceAdd, Nat.reduceSub, Nat.reduceLT, Nat.reduceEqDiff, decide_true, cond_true, Option.map_some, if_true, if_false, Nat.add_one_sub_one, Nat.succ_ne_zero, reduceCtorEq, OfNat.ofNat]; rfl)) ?_) | (with_reducible refine bda_of (by with_unfolding_all rfl) ?_) | (simp -dsimp only [↓cw_skip, ↓cw_ops, ↓cw_seq, ↓cw_ret, ↓cw_cond, ↓seqK_normal, ↓seqK_ret, ↓getK_same, ↓getK_ne, ↓evK_tmp, ↓evK_int, ↓evK_bool, ↓evK_string, ↓condV_var, ↓gdV_var, ↓opsW_nil, ↓opsW_d, ↓opsW_gd, ↓opW_move, ↓opW_assign, ↓opW_pick, ↓opW_bin, ↓bin_eql, ↓resK_one, ↓opW_extract, ↓ext_tuple, ↓r36_37_w, ↓s36_38_w, ↓s36_39_w, ↓r36_40_w, ↓s36_41_w, ↓s36_42_w, ↓s36_45_w, ↓r36_46_w, ↓s36_47_w, ↓s36_48_w, ↓s36_51_w, ↓r36_52_w, ↓s36_53_w, ↓s36_54_w, ↓s36_57_w, ↓r36_58_w, ↓s36_59_w, ↓s36_60_w, ↓r36_61_w, ↓s36_62_w, List.getElem?_cons_zero, List.getElem?_cons_succ, onV_some', brK_true, brK_false, ne_eq, Nat.reduceEqDiff, not_false_eq_true, Bool.false_eq_true,  bin_addS]))
            exact ⟨by decide, hk⟩
          · rw [hg] at hk
            repeat' (first | done | ((with_reducible refine brK_yes ?_ ?_); (· omega)) | ((with_reducible refine brK_no ?_ ?_); (· omega)) | (with_reducible refine brK_both (fun _ => ?_) (fun _ => ?_)) | ((with_reducible refine And.intro (And.intro ?_ ?_) ?_); (· omega); (· omega)) | ((with_reducible refine And.intro ?_ ?_); (· omega)) | (with_reducible refine And.intro (show List.all _ oneCell = true from rfl) ?_) | ((with_reducible refine st_newM ?_ ?_); (· rfl)) | ((with_reducible refine bs_oneM ?_ ?_); (· rfl)) | (with_reducible refine bd_of (by with_unfolding_all (simp only [fillL_cons, fillL_nil, nth_eq, blt_eq, cond_beq, over, Value.cells, List.getElem?_cons_zero, List.getElem?_cons_succ, List.length_cons, List.length_nil, Nat.reduceAdd, Nat.reduceSub, Nat.reduceLT, Nat.reduceEqDiff, decide_true, cond_true, Option.map_some, if_true, if_false, Nat.add_one_sub_one, Nat.succ_ne_zero, reduceCtorEq, OfNat.ofNat]; rfl)) ?_) | (with_reducible refine bda_of (by with_unfolding_all rfl) ?_) | (simp -dsimp only [↓cw_skip, ↓cw_ops, ↓cw_seq, ↓cw_ret, ↓cw_cond, ↓seqK_normal, ↓seqK_ret, ↓getK_same, ↓getK_ne, ↓evK_tmp, ↓evK_int, ↓evK_bool, ↓evK_string, ↓condV_var, ↓gdV_var, ↓opsW_nil, ↓opsW_d, ↓opsW_gd, ↓opW_move, ↓opW_assign, ↓opW_pick, ↓opW_bin, ↓bin_eql, ↓resK_one, ↓opW_extract, ↓ext_tuple, ↓r36_37_w, ↓s36_38_w, ↓s36_39_w, ↓r36_40_w, ↓s36_41_w, ↓s36_42_w, ↓s36_45_w, ↓r36_46_w, ↓s36_47_w, ↓s36_48_w, ↓s36_51_w, ↓r36_52_w, ↓s36_53_w, ↓s36_54_w, ↓r36_55_w, ↓s36_56_w, ↓s36_57_w, ↓r36_58_w, ↓s36_59_w, ↓s36_60_w, ↓r36_61_w, ↓s36_62_w, List.getElem?_cons_zero, List.getElem?_cons_succ, onV_some', brK_true, brK_false, ne_eq, Nat.reduceEqDiff, not_false_eq_true, Bool.false_eq_true,  bin_addS]))
            exact ⟨by decide, hk⟩
        · exact absurd (by unfold classB; rw [hnan, if_neg (by decide), if_neg h1, if_neg h2]) hc
end Go.Proofs.YtjcmcoabckkjoaaDoor.Li

namespace Go.Proofs.YtjcmcoabckkjoaaDoor.Li
open Go.Ev
set_option maxRecDepth 100000
set_option maxHeartbeats 400000
def textL : Value → List UInt8
  | .float _ n => textB n
  | _ => [110, 97, 110]
theorem textB_len (n : Nat) (hn : n < 18446744073709551616) : (textB n).length ≤ 50 := by
  unfold textB
  by_cases hc : classB n = []
  · have f := Fin.of hn hc
    rw [if_neg (by rw [hc]; simp)]
    have hs : (signL n).length ≤ 1 := by unfold signL; split <;> simp
    obtain ⟨hm0, hm⟩ := f.mant
    have hd := dec_le (u := mant n / 2 ^ Lib.ctz 64 (mant n)) (by have := Nat.div_le_self (mant n) (2 ^ Lib.ctz 64 (mant n)); omega)
    have hct := (ctz_odd hm0 (show mant n < 18446744073709551616 by omega))
    have hx := f.exp
    have hk1 : -1074 ≤ expo n ∧ expo n ≤ 971 := by unfold expo; omega
    have hcl : Lib.ctz 64 (mant n) ≤ 64 := by obtain ⟨_, _, h⟩ := hct; omega
    have htl : (tailB (expo n + (Lib.ctz 64 (mant n) : Nat))).length ≤ 24 := by
      unfold tailB
      split
      · have := Lib.itoa_length_le (expo n + (Lib.ctz 64 (mant n) : Nat)) (by omega) (by omega); simp only [List.length_append, List.length_cons, List.length_nil]; omega
      · split
        · have := Lib.itoa_length_le (-(expo n + (Lib.ctz 64 (mant n) : Nat))) (by omega) (by omega); simp only [List.length_append, List.length_cons, List.length_nil]; omega
        · simp
    simp only [List.length_append]; omega
  · rw [if_pos hc]
    rcases class_cases n with h | h | h | h | h | h <;> rw [h] <;> simp
theorem textL_len {v : Value} (hv : FB v) : (textL v).length ≤ 50 := by
  rcases hv with rfl | ⟨n, hn, rfl⟩
  · simp [textL]
  · exact textB_len n hn
theorem text_v {v : Value} {h : Heap} {K : Value → Heap → Prop} (hv : FB v) (ht : tabsOk tabs h = true) (hh : 2 < h.n) (hK : ∀ h', ExtB h.n h h' → K (strV (textL v)) h') : Ret env (.func 34) [v] h K := by
  rcases hv with rfl | ⟨n, hn, rfl⟩
  · exact text_no (hK h (ExtB.refl _ _))
  · exact text_ret hn ht hh hK
theorem refText_v {v : Value} {h : Heap} {K : Value → Heap → Prop} (hv : FB v) (hK : ∀ h', ExtB h.n h h' → K (strV (textL v)) h') : Ret env (.func 36) [v] h K := by
  rcases hv with rfl | ⟨n, hn, rfl⟩
  · exact refText_no (hK h (ExtB.refl _ _))
  · exact refText_ret hn hK
end Go.Proofs.YtjcmcoabckkjoaaDoor.Li

